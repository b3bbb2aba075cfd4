/- Writers and readers that are nil, or zero. -/
import Derived.Test.YtcapeefhbkgogaaWorks
namespace Go.Proofs.Ytcapeefhbkgogaa
open Go.RowKit
set_option linter.unusedSimpArgs false
set_option linter.unusedVariables false
set_option linter.unusedSectionVars false
set_option maxRecDepth 10000
set_option maxHeartbeats 1000000 in
theorem wUint_nil (m : Int) (w : World) : Calls Try.prog 30 #[.pointer (none), .int .u64 m] w fun e w' => e = .returned (.tuple #[]) ∧ Below w.heap.size w w' := by
  go_enter Try.func30, Try.ntmps30
  go_wp2_with (fail)
  refine bodyPost_ret (results_none rfl _ _ _) rfl ?_
  exact ⟨rfl, (by repeat (first | exact Below.refl _ _ | assumption | (refine Below.alloc ?_ (Nat.le_refl _) _)))⟩

set_option maxHeartbeats 1000000 in
theorem wInt_nil (a : Int) (h1 : -9223372036854775808 ≤ a) (h2 : a ≤ 9223372036854775807) (w : World) : Calls Try.prog 31 #[.pointer (none), .int .i64 a] w fun e w' => e = .returned (.tuple #[]) ∧ Below w.heap.size w w' := by
  go_enter Try.func31, Try.ntmps31
  go_wp2_with (first
    | (go_at_call 57; refine (zig_any _ h1 h2 _).mono ?_; rintro e w' ⟨rfl, rfl⟩)
    | (go_at_call 30; refine (wUint_nil _ _).mono ?_; rintro e w1 ⟨rfl, b1⟩))
  go_end0
  exact ⟨rfl, (by repeat (first | exact Below.refl _ _ | assumption | (refine Below.alloc ?_ (Nat.le_refl _) _)))⟩

set_option maxHeartbeats 1000000 in
theorem wText_nil (s : ByteArray) (hs : s.size ≤ 1000000) (w : World) : Calls Try.prog 32 #[.pointer (none), .string s] w fun e w' => e = .returned (.tuple #[]) ∧ Below w.heap.size w w' := by
  go_enter Try.func32, Try.ntmps32
  go_wp2_with (first
    | (go_at_call 30; refine (wUint_nil _ _).mono ?_; rintro e w1 ⟨rfl, b1⟩))
  go_end0
  exact ⟨rfl, (by repeat (first | exact Below.refl _ _ | assumption | (refine Below.alloc ?_ (Nat.le_refl _) _)))⟩

set_option maxHeartbeats 1000000 in
theorem wBool_nil (w : World) : Calls Try.prog 33 #[.pointer (none), .bool true] w fun e w' => e = .returned (.tuple #[]) ∧ Below w.heap.size w w' := by
  go_enter Try.func33, Try.ntmps33
  go_wp2_with (first
    | (go_at_call 30; refine (wUint_nil _ _).mono ?_; rintro e w1 ⟨rfl, b1⟩))
  go_end0
  exact ⟨rfl, (by repeat (first | exact Below.refl _ _ | assumption | (refine Below.alloc ?_ (Nat.le_refl _) _)))⟩

set_option maxHeartbeats 1000000 in
theorem wBytes_nil (w : World) : Calls Try.prog 20 #[.pointer (none)] w fun e w' => e = .returned (.slice none 0 0) ∧ Below w.heap.size w w' := by
  go_enter Try.func20, Try.ntmps20
  go_wp2_with (fail)
  go_ret
  exact ⟨rfl, (by repeat (first | exact Below.refl _ _ | assumption | (refine Below.alloc ?_ (Nat.le_refl _) _)))⟩

set_option maxHeartbeats 1000000 in
theorem wLen_nil (w : World) : Calls Try.prog 17 #[.pointer (none)] w fun e w' => e = .returned (.int .i64 0) ∧ Below w.heap.size w w' := by
  go_enter Try.func17, Try.ntmps17
  go_wp2_with (fail)
  go_ret
  exact ⟨rfl, (by repeat (first | exact Below.refl _ _ | assumption | (refine Below.alloc ?_ (Nat.le_refl _) _)))⟩

set_option maxHeartbeats 1000000 in
theorem wUint_zero (m : Int) (w : World) (g : Nat) (h : w.heap[g]? = some (.cells #[.bool false, .slice none 0 0] 46 (0, 0))) : Calls Try.prog 30 #[.pointer (some ⟨g, 0, none⟩), .int .u64 m] w fun e w' => e = .returned (.tuple #[]) ∧ Below w.heap.size w w' := by
  have x0 := blkX h
  have c0 : w.cell? ⟨g, 0, none⟩ = some (.bool false) := blkC h 0
  have c1 : w.cell? ⟨g, 1, none⟩ = some (.slice none 0 0) := blkC h 1
  go_enter Try.func30, Try.ntmps30
  go_wp2_with (fail)
  refine bodyPost_ret (results_none rfl _ _ _) rfl ?_
  exact ⟨rfl, (by repeat (first | exact Below.refl _ _ | assumption | (refine Below.alloc ?_ (Nat.le_refl _) _)))⟩

set_option maxHeartbeats 1000000 in
theorem wInt_zero (a : Int) (h1 : -9223372036854775808 ≤ a) (h2 : a ≤ 9223372036854775807) (w : World) (g : Nat) (h : w.heap[g]? = some (.cells #[.bool false, .slice none 0 0] 46 (0, 0))) : Calls Try.prog 31 #[.pointer (some ⟨g, 0, none⟩), .int .i64 a] w fun e w' => e = .returned (.tuple #[]) ∧ Below w.heap.size w w' := by
  have x0 := blkX h
  have c0 : w.cell? ⟨g, 0, none⟩ = some (.bool false) := blkC h 0
  have c1 : w.cell? ⟨g, 1, none⟩ = some (.slice none 0 0) := blkC h 1
  go_enter Try.func31, Try.ntmps31
  go_wp2_with (first
    | (go_at_call 57; refine (zig_any _ h1 h2 _).mono ?_; rintro e w' ⟨rfl, rfl⟩)
    | (go_at_call 30; refine (wUint_zero _ _ g h).mono ?_; rintro e w1 ⟨rfl, b1⟩; have d0 := (b1.cell (p := ⟨g, 0, none⟩) x0).trans c0))
  go_end0
  exact ⟨rfl, (by repeat (first | exact Below.refl _ _ | assumption | (refine Below.alloc ?_ (Nat.le_refl _) _)))⟩

set_option maxHeartbeats 1000000 in
theorem wText_zero (s : ByteArray) (hs : s.size ≤ 1000000) (w : World) (g : Nat) (h : w.heap[g]? = some (.cells #[.bool false, .slice none 0 0] 46 (0, 0))) : Calls Try.prog 32 #[.pointer (some ⟨g, 0, none⟩), .string s] w fun e w' => e = .returned (.tuple #[]) ∧ Below w.heap.size w w' := by
  have x0 := blkX h
  have c0 : w.cell? ⟨g, 0, none⟩ = some (.bool false) := blkC h 0
  have c1 : w.cell? ⟨g, 1, none⟩ = some (.slice none 0 0) := blkC h 1
  go_enter Try.func32, Try.ntmps32
  go_wp2_with (first
    | (go_at_call 30; refine (wUint_zero _ _ g h).mono ?_; rintro e w1 ⟨rfl, b1⟩; have d0 := (b1.cell (p := ⟨g, 0, none⟩) x0).trans c0))
  go_end0
  exact ⟨rfl, (by repeat (first | exact Below.refl _ _ | assumption | (refine Below.alloc ?_ (Nat.le_refl _) _)))⟩

set_option maxHeartbeats 1000000 in
theorem wBool_zero (w : World) (g : Nat) (h : w.heap[g]? = some (.cells #[.bool false, .slice none 0 0] 46 (0, 0))) : Calls Try.prog 33 #[.pointer (some ⟨g, 0, none⟩), .bool true] w fun e w' => e = .returned (.tuple #[]) ∧ Below w.heap.size w w' := by
  have x0 := blkX h
  have c0 : w.cell? ⟨g, 0, none⟩ = some (.bool false) := blkC h 0
  have c1 : w.cell? ⟨g, 1, none⟩ = some (.slice none 0 0) := blkC h 1
  go_enter Try.func33, Try.ntmps33
  go_wp2_with (first
    | (go_at_call 30; refine (wUint_zero _ _ g h).mono ?_; rintro e w1 ⟨rfl, b1⟩; have d0 := (b1.cell (p := ⟨g, 0, none⟩) x0).trans c0))
  go_end0
  exact ⟨rfl, (by repeat (first | exact Below.refl _ _ | assumption | (refine Below.alloc ?_ (Nat.le_refl _) _)))⟩

set_option maxHeartbeats 1000000 in
theorem wBytes_zero (w : World) (g : Nat) (h : w.heap[g]? = some (.cells #[.bool false, .slice none 0 0] 46 (0, 0))) : Calls Try.prog 20 #[.pointer (some ⟨g, 0, none⟩)] w fun e w' => e = .returned (.slice none 0 0) ∧ Below w.heap.size w w' := by
  have x0 := blkX h
  have c0 : w.cell? ⟨g, 0, none⟩ = some (.bool false) := blkC h 0
  have c1 : w.cell? ⟨g, 1, none⟩ = some (.slice none 0 0) := blkC h 1
  go_enter Try.func20, Try.ntmps20
  go_wp2_with (first
    | (go_at_call 22; refine (Try.bytes_Clone_nil 0 0 _).mono ?_; rintro e w1 ⟨rfl, rfl⟩))
  go_ret
  exact ⟨rfl, (by repeat (first | exact Below.refl _ _ | assumption | (refine Below.alloc ?_ (Nat.le_refl _) _)))⟩

set_option maxHeartbeats 1000000 in
theorem wLen_zero (w : World) (g : Nat) (h : w.heap[g]? = some (.cells #[.bool false, .slice none 0 0] 46 (0, 0))) : Calls Try.prog 17 #[.pointer (some ⟨g, 0, none⟩)] w fun e w' => e = .returned (.int .i64 0) ∧ Below w.heap.size w w' := by
  have x0 := blkX h
  have c0 : w.cell? ⟨g, 0, none⟩ = some (.bool false) := blkC h 0
  have c1 : w.cell? ⟨g, 1, none⟩ = some (.slice none 0 0) := blkC h 1
  go_enter Try.func17, Try.ntmps17
  go_wp2_with (fail)
  go_ret
  exact ⟨rfl, (by repeat (first | exact Below.refl _ _ | assumption | (refine Below.alloc ?_ (Nat.le_refl _) _)))⟩

set_option maxHeartbeats 1000000 in
theorem take_uint64_nil (w : World) : Calls Try.prog 58 #[.pointer (none), .func (.func 59) #[] #[]] w fun e w' => e = .returned (.int .u64 0) ∧ Below w.heap.size w w' := by
  go_enter Try.func58, Try.ntmps58
  go_wp2_with (fail)
  go_ret
  exact ⟨rfl, (by repeat (first | exact Below.refl _ _ | assumption | (refine Below.alloc ?_ (Nat.le_refl _) _)))⟩

set_option maxHeartbeats 1000000 in
theorem rdUint_nil (w : World) : Calls Try.prog 35 #[.pointer (none)] w fun e w' => e = .returned (.int .u64 0) ∧ Below w.heap.size w w' := by
  go_enter Try.func35, Try.ntmps35
  go_wp2_with (first
    | (go_at_call 58; refine (take_uint64_nil _).mono ?_; rintro e w1 ⟨rfl, b1⟩))
  go_ret
  exact ⟨rfl, (by repeat (first | exact Below.refl _ _ | assumption | (refine Below.alloc ?_ (Nat.le_refl _) _)))⟩

set_option maxHeartbeats 1000000 in
theorem take_int64_nil (w : World) : Calls Try.prog 60 #[.pointer (none), .func (.func 61) #[] #[]] w fun e w' => e = .returned (.int .i64 0) ∧ Below w.heap.size w w' := by
  go_enter Try.func60, Try.ntmps60
  go_wp2_with (fail)
  go_ret
  exact ⟨rfl, (by repeat (first | exact Below.refl _ _ | assumption | (refine Below.alloc ?_ (Nat.le_refl _) _)))⟩

set_option maxHeartbeats 1000000 in
theorem rdInt_nil (w : World) : Calls Try.prog 36 #[.pointer (none)] w fun e w' => e = .returned (.int .i64 0) ∧ Below w.heap.size w w' := by
  go_enter Try.func36, Try.ntmps36
  go_wp2_with (first
    | (go_at_call 60; refine (take_int64_nil _).mono ?_; rintro e w1 ⟨rfl, b1⟩))
  go_ret
  exact ⟨rfl, (by repeat (first | exact Below.refl _ _ | assumption | (refine Below.alloc ?_ (Nat.le_refl _) _)))⟩

set_option maxHeartbeats 1000000 in
theorem take_string_nil (w : World) : Calls Try.prog 63 #[.pointer (none), .func (.func 64) #[] #[]] w fun e w' => e = .returned (.string ByteArray.empty) ∧ Below w.heap.size w w' := by
  go_enter Try.func63, Try.ntmps63
  go_wp2_with (fail)
  go_ret
  exact ⟨rfl, (by repeat (first | exact Below.refl _ _ | assumption | (refine Below.alloc ?_ (Nat.le_refl _) _)))⟩

set_option maxHeartbeats 1000000 in
theorem rdText_nil (w : World) : Calls Try.prog 37 #[.pointer (none)] w fun e w' => e = .returned (.string ByteArray.empty) ∧ Below w.heap.size w w' := by
  go_enter Try.func37, Try.ntmps37
  go_wp2_with (first
    | (go_at_call 63; refine (take_string_nil _).mono ?_; rintro e w1 ⟨rfl, b1⟩))
  go_ret
  exact ⟨rfl, (by repeat (first | exact Below.refl _ _ | assumption | (refine Below.alloc ?_ (Nat.le_refl _) _)))⟩

set_option maxHeartbeats 1000000 in
theorem take_bool_nil (w : World) : Calls Try.prog 65 #[.pointer (none), .func (.func 66) #[] #[]] w fun e w' => e = .returned (.bool false) ∧ Below w.heap.size w w' := by
  go_enter Try.func65, Try.ntmps65
  go_wp2_with (fail)
  go_ret
  exact ⟨rfl, (by repeat (first | exact Below.refl _ _ | assumption | (refine Below.alloc ?_ (Nat.le_refl _) _)))⟩

set_option maxHeartbeats 1000000 in
theorem rdBool_nil (w : World) : Calls Try.prog 38 #[.pointer (none)] w fun e w' => e = .returned (.bool false) ∧ Below w.heap.size w w' := by
  go_enter Try.func38, Try.ntmps38
  go_wp2_with (first
    | (go_at_call 65; refine (take_bool_nil _).mono ?_; rintro e w1 ⟨rfl, b1⟩))
  go_ret
  exact ⟨rfl, (by repeat (first | exact Below.refl _ _ | assumption | (refine Below.alloc ?_ (Nat.le_refl _) _)))⟩

set_option maxHeartbeats 1000000 in
theorem rLeft_nil (w : World) : Calls Try.prog 25 #[.pointer (none)] w fun e w' => e = .returned (.int .i64 0) ∧ Below w.heap.size w w' := by
  go_enter Try.func25, Try.ntmps25
  go_wp2_with (fail)
  go_ret
  exact ⟨rfl, (by repeat (first | exact Below.refl _ _ | assumption | (refine Below.alloc ?_ (Nat.le_refl _) _)))⟩

set_option maxHeartbeats 1000000 in
theorem rEnd_nil (w : World) : Calls Try.prog 27 #[.pointer (none)] w fun e w' => e = .returned (.int .i64 1) ∧ Below w.heap.size w w' := by
  go_enter Try.func27, Try.ntmps27
  go_wp2_with (fail)
  go_ret
  exact ⟨rfl, (by repeat (first | exact Below.refl _ _ | assumption | (refine Below.alloc ?_ (Nat.le_refl _) _)))⟩

set_option maxHeartbeats 1000000 in
theorem take_uint64_zero (w : World) (g : Nat) (b : Bool) (h : w.heap[g]? = some (.cells #[.bool false, .bool b, .slice none 0 0] 53 (0, 0))) : Calls Try.prog 58 #[.pointer (some ⟨g, 0, none⟩), .func (.func 59) #[] #[]] w fun e w' => e = .returned (.int .u64 0) ∧ Below w.heap.size w w' := by
  have x0 := blkX h
  have c0 : w.cell? ⟨g, 0, none⟩ = some (.bool false) := blkC h 0
  have c1 : w.cell? ⟨g, 1, none⟩ = some (.bool b) := blkC h 1
  have c2 : w.cell? ⟨g, 2, none⟩ = some (.slice none 0 0) := blkC h 2
  go_enter Try.func58, Try.ntmps58
  go_wp2_with (fail)
  go_ret
  exact ⟨rfl, (by repeat (first | exact Below.refl _ _ | assumption | (refine Below.alloc ?_ (Nat.le_refl _) _)))⟩

set_option maxHeartbeats 1000000 in
theorem rdUint_zero (w : World) (g : Nat) (b : Bool) (h : w.heap[g]? = some (.cells #[.bool false, .bool b, .slice none 0 0] 53 (0, 0))) : Calls Try.prog 35 #[.pointer (some ⟨g, 0, none⟩)] w fun e w' => e = .returned (.int .u64 0) ∧ Below w.heap.size w w' := by
  have x0 := blkX h
  have c0 : w.cell? ⟨g, 0, none⟩ = some (.bool false) := blkC h 0
  have c1 : w.cell? ⟨g, 1, none⟩ = some (.bool b) := blkC h 1
  have c2 : w.cell? ⟨g, 2, none⟩ = some (.slice none 0 0) := blkC h 2
  go_enter Try.func35, Try.ntmps35
  go_wp2_with (first
    | (go_at_call 58; refine (take_uint64_zero _ g b h).mono ?_; rintro e w1 ⟨rfl, b1⟩))
  go_ret
  exact ⟨rfl, (by repeat (first | exact Below.refl _ _ | assumption | (refine Below.alloc ?_ (Nat.le_refl _) _)))⟩

set_option maxHeartbeats 1000000 in
theorem take_int64_zero (w : World) (g : Nat) (b : Bool) (h : w.heap[g]? = some (.cells #[.bool false, .bool b, .slice none 0 0] 53 (0, 0))) : Calls Try.prog 60 #[.pointer (some ⟨g, 0, none⟩), .func (.func 61) #[] #[]] w fun e w' => e = .returned (.int .i64 0) ∧ Below w.heap.size w w' := by
  have x0 := blkX h
  have c0 : w.cell? ⟨g, 0, none⟩ = some (.bool false) := blkC h 0
  have c1 : w.cell? ⟨g, 1, none⟩ = some (.bool b) := blkC h 1
  have c2 : w.cell? ⟨g, 2, none⟩ = some (.slice none 0 0) := blkC h 2
  go_enter Try.func60, Try.ntmps60
  go_wp2_with (fail)
  go_ret
  exact ⟨rfl, (by repeat (first | exact Below.refl _ _ | assumption | (refine Below.alloc ?_ (Nat.le_refl _) _)))⟩

set_option maxHeartbeats 1000000 in
theorem rdInt_zero (w : World) (g : Nat) (b : Bool) (h : w.heap[g]? = some (.cells #[.bool false, .bool b, .slice none 0 0] 53 (0, 0))) : Calls Try.prog 36 #[.pointer (some ⟨g, 0, none⟩)] w fun e w' => e = .returned (.int .i64 0) ∧ Below w.heap.size w w' := by
  have x0 := blkX h
  have c0 : w.cell? ⟨g, 0, none⟩ = some (.bool false) := blkC h 0
  have c1 : w.cell? ⟨g, 1, none⟩ = some (.bool b) := blkC h 1
  have c2 : w.cell? ⟨g, 2, none⟩ = some (.slice none 0 0) := blkC h 2
  go_enter Try.func36, Try.ntmps36
  go_wp2_with (first
    | (go_at_call 60; refine (take_int64_zero _ g b h).mono ?_; rintro e w1 ⟨rfl, b1⟩))
  go_ret
  exact ⟨rfl, (by repeat (first | exact Below.refl _ _ | assumption | (refine Below.alloc ?_ (Nat.le_refl _) _)))⟩

set_option maxHeartbeats 1000000 in
theorem take_string_zero (w : World) (g : Nat) (b : Bool) (h : w.heap[g]? = some (.cells #[.bool false, .bool b, .slice none 0 0] 53 (0, 0))) : Calls Try.prog 63 #[.pointer (some ⟨g, 0, none⟩), .func (.func 64) #[] #[]] w fun e w' => e = .returned (.string ByteArray.empty) ∧ Below w.heap.size w w' := by
  have x0 := blkX h
  have c0 : w.cell? ⟨g, 0, none⟩ = some (.bool false) := blkC h 0
  have c1 : w.cell? ⟨g, 1, none⟩ = some (.bool b) := blkC h 1
  have c2 : w.cell? ⟨g, 2, none⟩ = some (.slice none 0 0) := blkC h 2
  go_enter Try.func63, Try.ntmps63
  go_wp2_with (fail)
  go_ret
  exact ⟨rfl, (by repeat (first | exact Below.refl _ _ | assumption | (refine Below.alloc ?_ (Nat.le_refl _) _)))⟩

set_option maxHeartbeats 1000000 in
theorem rdText_zero (w : World) (g : Nat) (b : Bool) (h : w.heap[g]? = some (.cells #[.bool false, .bool b, .slice none 0 0] 53 (0, 0))) : Calls Try.prog 37 #[.pointer (some ⟨g, 0, none⟩)] w fun e w' => e = .returned (.string ByteArray.empty) ∧ Below w.heap.size w w' := by
  have x0 := blkX h
  have c0 : w.cell? ⟨g, 0, none⟩ = some (.bool false) := blkC h 0
  have c1 : w.cell? ⟨g, 1, none⟩ = some (.bool b) := blkC h 1
  have c2 : w.cell? ⟨g, 2, none⟩ = some (.slice none 0 0) := blkC h 2
  go_enter Try.func37, Try.ntmps37
  go_wp2_with (first
    | (go_at_call 63; refine (take_string_zero _ g b h).mono ?_; rintro e w1 ⟨rfl, b1⟩))
  go_ret
  exact ⟨rfl, (by repeat (first | exact Below.refl _ _ | assumption | (refine Below.alloc ?_ (Nat.le_refl _) _)))⟩

set_option maxHeartbeats 1000000 in
theorem take_bool_zero (w : World) (g : Nat) (b : Bool) (h : w.heap[g]? = some (.cells #[.bool false, .bool b, .slice none 0 0] 53 (0, 0))) : Calls Try.prog 65 #[.pointer (some ⟨g, 0, none⟩), .func (.func 66) #[] #[]] w fun e w' => e = .returned (.bool false) ∧ Below w.heap.size w w' := by
  have x0 := blkX h
  have c0 : w.cell? ⟨g, 0, none⟩ = some (.bool false) := blkC h 0
  have c1 : w.cell? ⟨g, 1, none⟩ = some (.bool b) := blkC h 1
  have c2 : w.cell? ⟨g, 2, none⟩ = some (.slice none 0 0) := blkC h 2
  go_enter Try.func65, Try.ntmps65
  go_wp2_with (fail)
  go_ret
  exact ⟨rfl, (by repeat (first | exact Below.refl _ _ | assumption | (refine Below.alloc ?_ (Nat.le_refl _) _)))⟩

set_option maxHeartbeats 1000000 in
theorem rdBool_zero (w : World) (g : Nat) (b : Bool) (h : w.heap[g]? = some (.cells #[.bool false, .bool b, .slice none 0 0] 53 (0, 0))) : Calls Try.prog 38 #[.pointer (some ⟨g, 0, none⟩)] w fun e w' => e = .returned (.bool false) ∧ Below w.heap.size w w' := by
  have x0 := blkX h
  have c0 : w.cell? ⟨g, 0, none⟩ = some (.bool false) := blkC h 0
  have c1 : w.cell? ⟨g, 1, none⟩ = some (.bool b) := blkC h 1
  have c2 : w.cell? ⟨g, 2, none⟩ = some (.slice none 0 0) := blkC h 2
  go_enter Try.func38, Try.ntmps38
  go_wp2_with (first
    | (go_at_call 65; refine (take_bool_zero _ g b h).mono ?_; rintro e w1 ⟨rfl, b1⟩))
  go_ret
  exact ⟨rfl, (by repeat (first | exact Below.refl _ _ | assumption | (refine Below.alloc ?_ (Nat.le_refl _) _)))⟩

set_option maxHeartbeats 1000000 in
theorem rLeft_zero (w : World) (g : Nat) (b : Bool) (h : w.heap[g]? = some (.cells #[.bool false, .bool b, .slice none 0 0] 53 (0, 0))) : Calls Try.prog 25 #[.pointer (some ⟨g, 0, none⟩)] w fun e w' => e = .returned (.int .i64 0) ∧ Below w.heap.size w w' := by
  have x0 := blkX h
  have c0 : w.cell? ⟨g, 0, none⟩ = some (.bool false) := blkC h 0
  have c1 : w.cell? ⟨g, 1, none⟩ = some (.bool b) := blkC h 1
  have c2 : w.cell? ⟨g, 2, none⟩ = some (.slice none 0 0) := blkC h 2
  go_enter Try.func25, Try.ntmps25
  go_wp2_with (fail)
  go_ret
  exact ⟨rfl, (by repeat (first | exact Below.refl _ _ | assumption | (refine Below.alloc ?_ (Nat.le_refl _) _)))⟩

set_option maxHeartbeats 1000000 in
theorem rEnd_zero (w : World) (g : Nat) (b : Bool) (h : w.heap[g]? = some (.cells #[.bool false, .bool b, .slice none 0 0] 53 (0, 0))) : Calls Try.prog 27 #[.pointer (some ⟨g, 0, none⟩)] w fun e w' => e = .returned (.int .i64 1) ∧ Below w.heap.size w w' := by
  have x0 := blkX h
  have c0 : w.cell? ⟨g, 0, none⟩ = some (.bool false) := blkC h 0
  have c1 : w.cell? ⟨g, 1, none⟩ = some (.bool b) := blkC h 1
  have c2 : w.cell? ⟨g, 2, none⟩ = some (.slice none 0 0) := blkC h 2
  go_enter Try.func27, Try.ntmps27
  go_wp2_with (fail)
  go_ret
  exact ⟨rfl, (by repeat (first | exact Below.refl _ _ | assumption | (refine Below.alloc ?_ (Nat.le_refl _) _)))⟩

set_option maxHeartbeats 1000000 in
theorem rFail_nil (w : World) : Calls Try.prog 34 #[.pointer (none)] w fun e w' => e = .returned (.tuple #[]) ∧ Below w.heap.size w w' := by
  go_enter Try.func34, Try.ntmps34
  go_wp2_with (fail)
  go_end0
  exact ⟨rfl, (by repeat (first | exact Below.refl _ _ | assumption | (refine Below.alloc ?_ (Nat.le_refl _) _)))⟩

set_option maxHeartbeats 1000000 in
theorem rFail_zero (w : World) (g : Nat) (b : Bool) (h : w.heap[g]? = some (.cells #[.bool false, .bool b, .slice none 0 0] 53 (0, 0))) : Calls Try.prog 34 #[.pointer (some ⟨g, 0, none⟩)] w fun e w' => e = .returned (.tuple #[]) ∧ w'.heap[g]? = some (.cells #[.bool false, .bool true, .slice none 0 0] 53 (0, 0)) ∧ Chg (fun k => k = g) w w' := by
  have c1 : w.cell? ⟨g, 1, none⟩ = some (.bool b) := blkC h 1
  have c2 : w.cell? ⟨g, 2, none⟩ = some (.slice none 0 0) := blkC h 2
  have f1 := blkF h 1
  have f2 := blkF h 2
  have h1 := hpSet (i := 1) (v := .bool true) h
  have h2 := hpSet (i := 2) (v := .slice none 0 0) h1
  have h2 := Lib.hid h2
  go_enter Try.func34, Try.ntmps34
  go_wp2
  go_end0
  exact ⟨rfl, by simpa using h2.out, (setG w g 1 _).trans (setG _ g 2 _) fun k _ e => e⟩
end Go.Proofs.Ytcapeefhbkgogaa
