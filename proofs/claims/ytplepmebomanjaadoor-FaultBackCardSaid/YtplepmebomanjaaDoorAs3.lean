/-
  errors.As, fault.Kind, fault.At, errors.Unwrap, errors.Is, fault.Of, fault.Back: the walks.
-/
import Derived.Test.YtplepmebomanjaaDoorAs2
import Derived.Deep.QuietTactic
import Derived.BigQuiet
namespace Go.Proofs.YtplepmebomanjaaDoor
open Go.RowKit Go.Extern.Stop Go.Stop Go.Extern

/-- what the laid variable gives -/
def ErrType (w : World) : Prop := w.cell? ⟨0, 0, none⟩ = some (.iface 65 (.agg #[.pointer (some ⟨4, 26, none⟩)]))
theorem ErrType.lt {w : World} (h : ErrType w) : 0 < w.heap.size := block_lt_of_cell h
theorem ErrType.grown {w w' : World} {r : Nat} (h : ErrType w) (hg : w.grownBy w' (some r)) (hr : 0 < r) : ErrType w' := hg.cell h (by simp; omega)
theorem ErrType.below {w w' : World} (h : ErrType w) (hg : Below w.heap.size w w') : ErrType w' := (hg.cell h.lt).trans h
theorem ErrType.alloc {w : World} (h : ErrType w) (o : Obj) : ErrType (w.alloc o) := (Below.cell ((Below.refl _ w).alloc (Nat.le_refl _) o) h.lt).trans h

theorem eqv (k wk pc : Int) (n : Nat) : ∃ T v, errVal k wk pc n = .iface T v := by cases n <;> exact ⟨_, _, rfl⟩

set_option maxHeartbeats 400000 in
set_option maxRecDepth 100000 in
theorem as17 (k wk pc : Int) (n t : Nat) (x0 y0 z0 : Value) (w : World) (hE : ErrType w)
    (ht : w.heap[t]? = some (.cells #[x0, y0, z0] 41 (0, 0))) :
    Calls Tryd.prog 17 #[errVal k wk pc n, .iface 45 (.pointer (some ⟨t, 0, none⟩))] w
      fun e w' => e = .returned (.bool true) ∧ w'.heap[t]? = some (.cells #[.int .i64 k, .int .i64 wk, .int .i64 pc] 41 (0, 0)) ∧ w.grownBy w' (some t) := by
  have h20 := @run_callFunc_extern Tryd.prog 20 _ (fun args => ReflectliteValue.unpack (args.getD 0 (.tuple #[]))) Tryd.func20 (by kernel_rfl) (by kernel_rfl) (by kernel_rfl) (by kernel_rfl)
  have h21 := @run_callFunc_extern Tryd.prog 21 _ (ReflectliteValue.methodAny (ReflectliteValue.valueError "reflectlite.Value.Type" 0) (fun t _ _ _ => ReflectliteType.toType t)) Tryd.func21 (by kernel_rfl) (by kernel_rfl) (by kernel_rfl) (by kernel_rfl)
  have h22 := @run_callFunc_extern Tryd.prog 22 _ (ReflectliteValue.method (ReflectliteValue.valueError "reflectlite.Value.IsNil" 0) ReflectliteValue.isNil) Tryd.func22 (by kernel_rfl) (by kernel_rfl) (by kernel_rfl) (by kernel_rfl)
  have h40 := @run_callFunc_extern Tryd.prog 40 _ (ReflectliteType.abiMethod fun t => do pure (.int .u8 (← Rtype.kind t))) Tryd.func40 (by kernel_rfl) (by kernel_rfl) (by kernel_rfl) (by kernel_rfl)
  have h68 := @run_callFunc_extern Tryd.prog 68 _ (ReflectliteType.method ReflectliteType.elem) Tryd.func68 (by kernel_rfl) (by kernel_rfl) (by kernel_rfl) (by kernel_rfl)
  have h69 := @run_callFunc_extern Tryd.prog 69 _ (ReflectliteType.relation "Implements" ReflectliteType.implements_) Tryd.func69 (by kernel_rfl) (by kernel_rfl) (by kernel_rfl) (by kernel_rfl)
  have f20 := valueOf45
  have f21 := type45
  have k45 := kind45
  have k41 := kind41
  have e45 := elem45
  have i41 := implements41
  have W1 : ErrType (w.alloc (.cells #[.pointer (some ⟨t, 0, none⟩)] 45)) := hE.alloc _
  have W2 := W1.alloc (.cells #[.pointer (some ⟨4, 45, none⟩), .pointer (some ⟨w.heap.size, 0, none⟩), .int .u64 150] 57)
  unfold ErrType at W2
  have n8 := isNil45 ⟨w.heap.size, 0, none⟩ ⟨t, 0, none⟩ ((w.alloc (.cells #[.pointer (some ⟨t, 0, none⟩)] 45)).alloc (.cells #[.pointer (some ⟨4, 45, none⟩), .pointer (some ⟨w.heap.size, 0, none⟩), .int .u64 150] 57)) (by simp)
  have ht1 : ((w.alloc (.cells #[.pointer (some ⟨t, 0, none⟩)] 45)).alloc (.cells #[.pointer (some ⟨4, 45, none⟩), .pointer (some ⟨w.heap.size, 0, none⟩), .int .u64 150] 57)).heap[t]? = some (.cells #[x0, y0, z0] 41 (0, 0)) := by
    have hl := lt_of_block ht
    rw [Below.heap_alloc _ _ _ (by simp; omega), Below.heap_alloc _ _ _ hl]; exact ht
  have C := as23 k wk pc n t w.heap.size x0 y0 z0 _ ht1 (by simp)
  have HC := Lib.hid C
  have HT := Lib.hid (And.intro ht ht1)
  clear C ht ht1 hE W1
  obtain ⟨T, v, hv⟩ := eqv k wk pc n
  have HV := Lib.hid hv
  clear hv
  generalize errVal k wk pc n = ev at *
  obtain rfl := HV.out
  go_enter Tryd.func17, Tryd.ntmps17
  go_wp2_with fail
  refine (HC.out).mono ?_
  rintro e w1 ⟨rfl, hq⟩
  have HQ := Lib.hid hq
  clear hq
  go_wp2
  go_ret
  obtain ⟨q1, q2⟩ := HQ.out
  refine ⟨rfl, q1, q2.os, q2.tape, q2.output, Nat.le_trans (by simp; omega) q2.size, fun j hj hne => ?_⟩
  rw [q2.block j (by simp; omega) hne, Below.heap_alloc _ _ _ (by simp; omega), Below.heap_alloc _ _ _ hj]

/-- errors.As at a fresh target block -/
theorem grown_alloc {w w' : World} {o : Obj} (h : (w.alloc o).grownBy w' (some w.heap.size)) : Below w.heap.size w w' :=
  ⟨h.os, h.tape, h.output, Nat.le_trans (by simp) h.size, fun j hj => (h.block j (by simp; omega) (by simp; omega)).trans (Below.heap_alloc _ _ _ hj)⟩

theorem below_dr {B : Nat} {w w' : World} (h : Below B w w') (n : Nat) : Below B w (w'.drewN n) := ⟨h.os, h.tape, h.output, h.size, h.block⟩

set_option maxHeartbeats 400000 in
theorem kind14 (k wk pc : Int) (n : Nat) (w : World) (hE : ErrType w) :
    Calls Tryd.prog 14 #[errVal k wk pc n] w fun e w' => e = .returned (.int .i64 k) ∧ Below w.heap.size w w' := by
  have C := as17 k wk pc n w.heap.size (.int .i64 0) (.int .i64 0) (.int .i64 0) (w.alloc (.cells #[.int .i64 0, .int .i64 0, .int .i64 0] 41)) (hE.alloc _) (heap_alloc_new _ _)
  have HC := Lib.hid C
  clear C hE
  go_enter Tryd.func14, Tryd.ntmps14
  go_wp2_with fail
  refine (HC.out).mono ?_
  rintro e w1 ⟨rfl, hq, hg⟩
  have c0 : w1.cell? ⟨w.heap.size, 0, none⟩ = some (.int .i64 k) := by rw [cell_of_row _ _ 0 _ _ _ hq]; rfl
  have HG := Lib.hid (grown_alloc hg)
  clear hq hg
  go_wp2
  go_ret
  exact ⟨rfl, HG.out⟩

theorem kind14_nil (w : World) :
    Calls Tryd.prog 14 #[.nilIface] w fun e w' => e = .returned (.int .i64 0) ∧ Below w.heap.size w w' := by
  go_enter Tryd.func14, Tryd.ntmps14
  go_wp2_with (go_at_call 17; refine (as_nil _ _).mono ?_; rintro e w' ⟨rfl, rfl⟩)
  go_ret
  exact ⟨rfl, (Below.refl _ _).alloc (Nat.le_refl _) _⟩

set_option maxHeartbeats 400000 in
theorem at12 (k wk pc : Int) (n : Nat) (w : World) (hE : ErrType w) :
    Calls Tryd.prog 12 #[errVal k wk pc n] w fun e w' => e = .returned (.tuple #[.int .i64 wk, .int .i64 pc]) ∧ Below w.heap.size w w' := by
  have C := as17 k wk pc n w.heap.size (.int .i64 0) (.int .i64 0) (.int .i64 0) (w.alloc (.cells #[.int .i64 0, .int .i64 0, .int .i64 0] 41)) (hE.alloc _) (heap_alloc_new _ _)
  have HC := Lib.hid C
  clear C hE
  go_enter Tryd.func12, Tryd.ntmps12
  go_wp2_with fail
  refine (HC.out).mono ?_
  rintro e w1 ⟨rfl, hq, hg⟩
  have c1 : w1.cell? ⟨w.heap.size, 1, none⟩ = some (.int .i64 wk) := by rw [cell_of_row _ _ 1 _ _ _ hq]; rfl
  have c2 : w1.cell? ⟨w.heap.size, 2, none⟩ = some (.int .i64 pc) := by rw [cell_of_row _ _ 2 _ _ _ hq]; rfl
  have HG := Lib.hid (grown_alloc hg)
  clear hq hg
  go_wp2
  go_quiet (fail)
  all_goals (go_wp2; go_ret2; exact ⟨rfl, below_dr HG.out nq⟩)

theorem at12_nil (w : World) :
    Calls Tryd.prog 12 #[.nilIface] w fun e w' => e = .returned (.tuple #[.int .i64 0, .int .i64 0]) ∧ Below w.heap.size w w' := by
  go_enter Tryd.func12, Tryd.ntmps12
  go_wp2_with (go_at_call 17; refine (as_nil _ _).mono ?_; rintro e w' ⟨rfl, rfl⟩)
  go_quiet (fail)
  all_goals (go_wp2; go_ret2; exact ⟨rfl, below_dr ((Below.refl _ _).alloc (Nat.le_refl _) _) nq⟩)
end Go.Proofs.YtplepmebomanjaaDoor
