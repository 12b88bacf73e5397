/-
  fault.Of, fault.Back, errors.Unwrap, errors.Is: the walks.
-/
import Derived.Test.YtplepmebomanjaaDoorAs3
namespace Go.Proofs.YtplepmebomanjaaDoor
open Go.RowKit Go.Extern.Stop Go.Stop Go.Extern

theorem hasUnwrap41 (v : Value) (xT : TypeId) (w : World) : (Instr.typeAssert (.iface 41 v) xT 46 true).run Tryd.prog w = .ok (.tuple #[.iface 41 v, .bool true]) w := run_typeAssert_hasB Tryd.underlying46 (by kernel_rfl) v xT w
theorem noUnwrap39 (v : Value) (xT : TypeId) (w : World) : (Instr.typeAssert (.iface 39 v) xT 46 true).run Tryd.prog w = .ok (.tuple #[.nilIface, .bool false]) w := run_typeAssert_lacksB Tryd.underlying46 (by kernel_rfl) (by kernel_rfl) v xT w
theorem noUnwraps39 (v : Value) (xT : TypeId) (w : World) : (Instr.typeAssert (.iface 39 v) xT 70 true).run Tryd.prog w = .ok (.tuple #[.nilIface, .bool false]) w := run_typeAssert_lacksB Tryd.underlying70 (by kernel_rfl) (by kernel_rfl) v xT w
theorem noAs39 (v : Value) (xT : TypeId) (w : World) : (Instr.typeAssert (.iface 39 v) xT 75 true).run Tryd.prog w = .ok (.tuple #[.nilIface, .bool false]) w := run_typeAssert_lacksB Tryd.underlying75 (by kernel_rfl) (by kernel_rfl) v xT w
theorem noIs41 (v : Value) (xT : TypeId) (w : World) : (Instr.typeAssert (.iface 41 v) xT 67 true).run Tryd.prog w = .ok (.tuple #[.nilIface, .bool false]) w := run_typeAssert_lacksB Tryd.underlying67 (by kernel_rfl) (by kernel_rfl) v xT w

theorem of10 (k wk pc : Int) (w : World) (hk : (k == 0) = false) :
    Calls Tryd.prog 10 #[.int .i64 k, .int .i64 wk, .int .i64 pc] w fun e w' => e = .returned (errVal k wk pc 0) ∧ w = w' := by
  go_enter Tryd.func10, Tryd.ntmps10
  go_wp2
  go_ret
  exact ⟨rfl, rfl⟩
theorem of10_nil (wk pc : Int) (w : World) :
    Calls Tryd.prog 10 #[.int .i64 0, .int .i64 wk, .int .i64 pc] w fun e w' => e = .returned .nilIface ∧ w = w' := by
  go_enter Tryd.func10, Tryd.ntmps10
  go_wp2
  go_ret
  exact ⟨rfl, rfl⟩

theorem unwrap13 (k wk pc : Int) (w : World) :
    Calls Tryd.prog 13 #[errVal k wk pc 0] w fun e w' => e = .returned (.iface 39 (.int .i64 k)) ∧ Below w.heap.size w w' := by
  have h1 := hasUnwrap41
  simp only [errVal]
  go_enter Tryd.func13, Tryd.ntmps13
  go_wp2_with (go_at_call 45; refine (place_unwrap _ _ _ _).mono ?_; rintro e w' ⟨rfl, rfl⟩)
  go_ret
  exact ⟨rfl, (Below.refl _ _).alloc (Nat.le_refl _) _⟩

set_option maxHeartbeats 400000 in
set_option maxRecDepth 100000 in
/-- errors.as at an error that wraps nothing -/
theorem as23_kind (k : Int) (t a : Nat) (w : World) :
    Calls Tryd.prog 23 #[.iface 39 (.int .i64 k), .iface 45 (.pointer (some ⟨t, 0, none⟩)), .agg #[.pointer (some ⟨4, 45, none⟩), .pointer (some ⟨a, 0, none⟩), .int .u64 150], .iface 65 (.agg #[.pointer (some ⟨4, 41, none⟩)])] w
      fun e w' => e = .returned (.bool false) ∧ Below w.heap.size w w' := by
  have h18 := @run_callFunc_extern Tryd.prog 18 _ ReflectliteType.typeOf Tryd.func18 (by kernel_rfl) (by kernel_rfl) (by kernel_rfl) (by kernel_rfl)
  have h66 := @run_callFunc_extern Tryd.prog 66 _ (ReflectliteType.relation "AssignableTo" ReflectliteType.assignableTo) Tryd.func66 (by kernel_rfl) (by kernel_rfl) (by kernel_rfl) (by kernel_rfl)
  have e1 := typeOf39
  have e2 := assignable39
  have e3 := noAs39
  have e4 := noUnwrap39
  have e5 := noUnwraps39
  go_enter Tryd.func23, Tryd.ntmps23
  go_wp2
  refine wp_loop_rounds 1 ?_
  rw [rounds_succ]
  go_wp2
  go_ret
  exact ⟨rfl, (Below.refl _ _).alloc (Nat.le_refl _) _⟩

set_option maxHeartbeats 400000 in
set_option maxRecDepth 100000 in
theorem as17_kind (k : Int) (t : Nat) (w : World) (hE : ErrType w) (_htl : t < w.heap.size) :
    Calls Tryd.prog 17 #[.iface 39 (.int .i64 k), .iface 45 (.pointer (some ⟨t, 0, none⟩))] w
      fun e w' => e = .returned (.bool false) ∧ Below w.heap.size w w' := by
  have h20 := @run_callFunc_extern Tryd.prog 20 _ (fun args => ReflectliteValue.unpack (args.getD 0 (.tuple #[]))) Tryd.func20 (by kernel_rfl) (by kernel_rfl) (by kernel_rfl) (by kernel_rfl)
  have h21 := @run_callFunc_extern Tryd.prog 21 _ (ReflectliteValue.methodAny (ReflectliteValue.valueError "reflectlite.Value.Type" 0) (fun t _ _ _ => ReflectliteType.toType t)) Tryd.func21 (by kernel_rfl) (by kernel_rfl) (by kernel_rfl) (by kernel_rfl)
  have h22 := @run_callFunc_extern Tryd.prog 22 _ (ReflectliteValue.method (ReflectliteValue.valueError "reflectlite.Value.IsNil" 0) ReflectliteValue.isNil) Tryd.func22 (by kernel_rfl) (by kernel_rfl) (by kernel_rfl) (by kernel_rfl)
  have h40 := @run_callFunc_extern Tryd.prog 40 _ (ReflectliteType.abiMethod fun t => do pure (.int .u8 (← Rtype.kind t))) Tryd.func40 (by kernel_rfl) (by kernel_rfl) (by kernel_rfl) (by kernel_rfl)
  have h68 := @run_callFunc_extern Tryd.prog 68 _ (ReflectliteType.method ReflectliteType.elem) Tryd.func68 (by kernel_rfl) (by kernel_rfl) (by kernel_rfl) (by kernel_rfl)
  have h69 := @run_callFunc_extern Tryd.prog 69 _ (ReflectliteType.relation "Implements" ReflectliteType.implements_) Tryd.func69 (by kernel_rfl) (by kernel_rfl) (by kernel_rfl) (by kernel_rfl)
  have f20 := valueOf45
  have f21 := type45
  have k45 := kind45
  have k41 := kind41
  have e45 := elem45
  have i41 := implements41
  have W1 : ErrType (w.alloc (.cells #[.pointer (some ⟨t, 0, none⟩)] 45)) := hE.alloc _
  have W2 := W1.alloc (.cells #[.pointer (some ⟨4, 45, none⟩), .pointer (some ⟨w.heap.size, 0, none⟩), .int .u64 150] 57)
  unfold ErrType at W2
  have n8 := isNil45 ⟨w.heap.size, 0, none⟩ ⟨t, 0, none⟩ ((w.alloc (.cells #[.pointer (some ⟨t, 0, none⟩)] 45)).alloc (.cells #[.pointer (some ⟨4, 45, none⟩), .pointer (some ⟨w.heap.size, 0, none⟩), .int .u64 150] 57)) (by simp)
  clear hE W1
  go_enter Tryd.func17, Tryd.ntmps17
  go_wp2_with fail
  refine (as23_kind _ _ _ _).mono ?_
  rintro e w1 ⟨rfl, hq⟩
  have HQ := Lib.hid hq
  clear hq
  go_wp2
  go_ret
  exact ⟨rfl, (((Below.refl _ w).alloc (Nat.le_refl _) _).alloc (by simp) _).trans (HQ.out.mono (by simp; omega))⟩

theorem kind14_kind (k : Int) (w : World) (hE : ErrType w) :
    Calls Tryd.prog 14 #[.iface 39 (.int .i64 k)] w fun e w' => e = .returned (.int .i64 0) ∧ Below w.heap.size w w' := by
  have C := as17_kind k w.heap.size (w.alloc (.cells #[.int .i64 0, .int .i64 0, .int .i64 0] 41)) (hE.alloc _) (by simp)
  have HC := Lib.hid C
  clear C hE
  go_enter Tryd.func14, Tryd.ntmps14
  go_wp2_with fail
  refine (HC.out).mono ?_
  rintro e w1 ⟨rfl, hq⟩
  have HQ := Lib.hid hq
  clear hq
  go_wp2
  go_ret
  exact ⟨rfl, ((Below.refl _ w).alloc (Nat.le_refl _) _).trans (HQ.out.mono (by simp))⟩

theorem at12_kind (k : Int) (w : World) (hE : ErrType w) :
    Calls Tryd.prog 12 #[.iface 39 (.int .i64 k)] w fun e w' => e = .returned (.tuple #[.int .i64 0, .int .i64 0]) ∧ Below w.heap.size w w' := by
  have C := as17_kind k w.heap.size (w.alloc (.cells #[.int .i64 0, .int .i64 0, .int .i64 0] 41)) (hE.alloc _) (by simp)
  have HC := Lib.hid C
  clear C hE
  go_enter Tryd.func12, Tryd.ntmps12
  go_wp2_with fail
  refine (HC.out).mono ?_
  rintro e w1 ⟨rfl, hq⟩
  have c1 : w1.cell? ⟨w.heap.size, 1, none⟩ = some (.int .i64 0) := by rw [hq.cell (by simp)]; simp
  have c2 : w1.cell? ⟨w.heap.size, 2, none⟩ = some (.int .i64 0) := by rw [hq.cell (by simp)]; simp
  have HG := Lib.hid (((Below.refl _ w).alloc (Nat.le_refl _) (.cells #[.int .i64 0, .int .i64 0, .int .i64 0] 41)).trans (hq.mono (by simp)))
  clear hq
  go_wp2
  go_quiet (fail)
  all_goals (go_wp2; go_ret2; exact ⟨rfl, below_dr HG.out nq⟩)
end Go.Proofs.YtplepmebomanjaaDoor
