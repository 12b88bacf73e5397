/-
  errors.Is at a place and its kind; fault.Back: the walks.
-/
import Derived.Test.YtplepmebomanjaaDoorAs4
namespace Go.Proofs.YtplepmebomanjaaDoor
open Go.RowKit Go.Extern.Stop Go.Stop Go.Extern

section
variable {P : Program} (w : World)
theorem run_equalIn_iface_int (d : Nat) {ti tn : TypeId} {ms : Array (String × TypeId)} {i : TypeInfo} {k : IntKind} (a b : Int)
    (hi : P.underlying ti = some (.interface ms)) (hn : P.underlying tn = some (.int k)) (hinfo : P.info? tn = some i) (hcomp : i.comparable = true) :
    (Op.equalIn (d + 2) ti (.iface tn (.int k a)) (.iface tn (.int k b))).run P w = .ok (a == b) w := by
  simp [Op.equalIn, run_underlying hi, run_underlying hn, typeInfo, hinfo, hcomp]
theorem run_eql_iface_int {ti tn : TypeId} {ms : Array (String × TypeId)} {i : TypeInfo} {k : IntKind} (a b : Int)
    (hi : P.underlying ti = some (.interface ms)) (hn : P.underlying tn = some (.int k)) (hinfo : P.info? tn = some i) (hcomp : i.comparable = true) :
    (binOp .eql ti (.iface tn (.int k a)) (.iface tn (.int k b))).run P w = .ok (.bool (a == b)) w := by
  simp only [binOp]
  simp [Op.equal, Op.maxDepth, run_equalIn_iface_int w 9998 a b hi hn hinfo hcomp]
end

theorem comp39 : (Tryd.prog.info? 39).map (·.comparable) = some true := by kernel_rfl
def compEntry : Array Value → Sem Value := ReflectliteType.method fun t => do Rtype.noPackHeld "Comparable" t; pure (.bool (← typeInfo t).comparable)
theorem isComparable39 (w : World) : (compEntry #[.agg #[.pointer (some ⟨4, 39, none⟩)]]).run Tryd.prog w = .ok (.bool true) w := by kernel_rfl

set_option maxHeartbeats 400000 in
set_option maxRecDepth 100000 in
theorem is15 (k wk pc : Int) (w : World) :
    Calls Tryd.prog 15 #[errVal k wk pc 0, .iface 39 (.int .i64 k)] w fun e w' => e = .returned (.bool true) ∧ Below w.heap.size w w' := by
  obtain ⟨i, hi, hcmp⟩ := Option.map_eq_some_iff.1 comp39
  have h18 := @run_callFunc_extern Tryd.prog 18 _ ReflectliteType.typeOf Tryd.func18 (by kernel_rfl) (by kernel_rfl) (by kernel_rfl) (by kernel_rfl)
  have h67 := @run_callFunc_extern Tryd.prog 67 _ compEntry Tryd.func67 (by kernel_rfl) (by kernel_rfl) (by kernel_rfl) (by kernel_rfl)
  have tT := typeOf39
  have cT := isComparable39
  have nI := noIs41
  have hU := hasUnwrap41
  have hty := fun (w : World) (v v' : Value) => run_eql_iface_types (P := Tryd.prog) 41 39 v v' Tryd.underlying26 (by decide) w
  have heq := fun (w : World) => run_eql_iface_int (P := Tryd.prog) w k k Tryd.underlying26 Tryd.underlying39 hi hcmp
  simp only [beq_self_eq_true] at heq
  clear hi hcmp
  simp only [errVal]
  go_enter Tryd.func15, Tryd.ntmps15
  go_wp2
  refine wp_loop_rounds 2 ?_
  rw [rounds_succ]
  go_wp2_with (go_at_call 45; refine (place_unwrap _ _ _ _).mono ?_; rintro e w' ⟨rfl, rfl⟩)
  rw [rounds_succ]
  go_wp2
  go_ret
  exact ⟨rfl, (Below.refl _ _).alloc (Nat.le_refl _) _⟩

set_option maxHeartbeats 400000 in
set_option maxRecDepth 100000 in
theorem back11_neg (k wk pc : Int) (deep : Int) (w : World) (hk : (k == 0) = false) (hE : ErrType w) (hd : deep < 0) :
    Calls Tryd.prog 11 #[.int .i64 k, .int .i64 wk, .int .i64 pc, .int .i64 deep] w fun e w' => e = .returned (.tuple #[.int .i64 k, .int .i64 wk, .int .i64 pc]) ∧ Below w.heap.size w w' := by
  unfold ErrType at hE
  have HE := Lib.hid hE
  clear hE
  go_enter Tryd.func11, Tryd.ntmps11
  go_wp2_with (go_at_call 10; refine (of10 _ _ _ _ hk).mono ?_; rintro e w' ⟨rfl, rfl⟩)
  have hE : ErrType w := HE.out
  go_loopg [11, 21] 0 (fun m v i wr => ∃ j : Nat, j + m = 0 ∧ i = .int .i64 j ∧ v = errVal k wk pc j ∧ w = wr)
  case atStart => exact ⟨0, by omega, rfl, rfl, rfl⟩
  case round =>
    obtain ⟨j, hj, rfl, rfl, rfl⟩ := hrel
    have HJ := Lib.hid hj
    by_cases hlt : j < 0
    · exact absurd hlt (Nat.not_lt_zero _)
    · have hjn : j = 0 := by omega
      clear hj HJ hlt
      subst hjn
      go_wp2_with fail
      refine (at12 k wk pc _ _ hE).mono ?_
      rintro e w1 ⟨rfl, hq⟩
      have HQ := Lib.hid hq
      have hE1 := hE.below hq
      clear hq
      go_wp2_with fail
      refine (kind14 k wk pc _ w1 hE1).mono ?_
      rintro e w2 ⟨rfl, hq⟩
      have HQ2 := Lib.hid hq
      clear hq
      go_wp2
      go_ret3
      exact ⟨rfl, HQ.out.trans (HQ2.out.mono HQ.out.size)⟩

set_option maxHeartbeats 400000 in
set_option maxRecDepth 100000 in
theorem back11_0 (k wk pc : Int)  (w : World) (hk : (k == 0) = false) (hE : ErrType w)  :
    Calls Tryd.prog 11 #[.int .i64 k, .int .i64 wk, .int .i64 pc, .int .i64 0] w fun e w' => e = .returned (.tuple #[.int .i64 k, .int .i64 wk, .int .i64 pc]) ∧ Below w.heap.size w w' := by
  unfold ErrType at hE
  have HE := Lib.hid hE
  clear hE
  go_enter Tryd.func11, Tryd.ntmps11
  go_wp2_with (go_at_call 10; refine (of10 _ _ _ _ hk).mono ?_; rintro e w' ⟨rfl, rfl⟩)
  have hE : ErrType w := HE.out
  go_loopg [11, 21] 0 (fun m v i wr => ∃ j : Nat, j + m = 0 ∧ i = .int .i64 j ∧ v = errVal k wk pc j ∧ w = wr)
  case atStart => exact ⟨0, by omega, rfl, rfl, rfl⟩
  case round =>
    obtain ⟨j, hj, rfl, rfl, rfl⟩ := hrel
    have HJ := Lib.hid hj
    by_cases hlt : j < 0
    · exact absurd hlt (Nat.not_lt_zero _)
    · have hjn : j = 0 := by omega
      clear hj HJ hlt
      subst hjn
      go_wp2_with fail
      refine (at12 k wk pc _ _ hE).mono ?_
      rintro e w1 ⟨rfl, hq⟩
      have HQ := Lib.hid hq
      have hE1 := hE.below hq
      clear hq
      go_wp2_with fail
      refine (kind14 k wk pc _ w1 hE1).mono ?_
      rintro e w2 ⟨rfl, hq⟩
      have HQ2 := Lib.hid hq
      clear hq
      go_wp2
      go_ret3
      exact ⟨rfl, HQ.out.trans (HQ2.out.mono HQ.out.size)⟩

set_option maxHeartbeats 400000 in
set_option maxRecDepth 100000 in
theorem back11_mid (k wk pc : Int) (d : Nat) (w : World) (hk : (k == 0) = false) (hE : ErrType w) (hd : 0 < d) (hd2 : d < 50) :
    Calls Tryd.prog 11 #[.int .i64 k, .int .i64 wk, .int .i64 pc, .int .i64 d] w fun e w' => e = .returned (.tuple #[.int .i64 k, .int .i64 wk, .int .i64 pc]) ∧ Below w.heap.size w w' := by
  unfold ErrType at hE
  have HE := Lib.hid hE
  clear hE
  go_enter Tryd.func11, Tryd.ntmps11
  go_wp2_with (go_at_call 10; refine (of10 _ _ _ _ hk).mono ?_; rintro e w' ⟨rfl, rfl⟩)
  have hE : ErrType w := HE.out
  go_loopg [11, 21] d (fun m v i wr => ∃ j : Nat, j + m = d ∧ i = .int .i64 j ∧ v = errVal k wk pc j ∧ w = wr)
  case atStart => exact ⟨0, by omega, rfl, rfl, rfl⟩
  case round =>
    obtain ⟨j, hj, rfl, rfl, rfl⟩ := hrel
    have HJ := Lib.hid hj
    by_cases hlt : j < d
    · obtain ⟨T, v, hv⟩ := eqv k wk pc j
      have hn : (errVal k wk pc (j + 1)) = .iface 43 (.agg #[errVal k wk pc j]) := rfl
      rw [hv] at hn
      rw [hv]
      have HN := Lib.hid hn
      clear hv hn hj
      go_wp2
      go_roundg (gk - 1)
      case measure => have := HJ.out; omega
      case rel => exact ⟨j + 1, by have := HJ.out; omega, by go_num, HN.out.symm, rfl⟩
    · have hjn : j = d := by omega
      clear hj HJ hlt
      subst hjn
      go_wp2_with fail
      refine (at12 k wk pc _ _ hE).mono ?_
      rintro e w1 ⟨rfl, hq⟩
      have HQ := Lib.hid hq
      have hE1 := hE.below hq
      clear hq
      go_wp2_with fail
      refine (kind14 k wk pc _ w1 hE1).mono ?_
      rintro e w2 ⟨rfl, hq⟩
      have HQ2 := Lib.hid hq
      clear hq
      go_wp2
      go_ret3
      exact ⟨rfl, HQ.out.trans (HQ2.out.mono HQ.out.size)⟩

set_option maxHeartbeats 400000 in
set_option maxRecDepth 100000 in
theorem back11_50 (k wk pc : Int)  (w : World) (hk : (k == 0) = false) (hE : ErrType w)  :
    Calls Tryd.prog 11 #[.int .i64 k, .int .i64 wk, .int .i64 pc, .int .i64 50] w fun e w' => e = .returned (.tuple #[.int .i64 k, .int .i64 wk, .int .i64 pc]) ∧ Below w.heap.size w w' := by
  unfold ErrType at hE
  have HE := Lib.hid hE
  clear hE
  go_enter Tryd.func11, Tryd.ntmps11
  go_wp2_with (go_at_call 10; refine (of10 _ _ _ _ hk).mono ?_; rintro e w' ⟨rfl, rfl⟩)
  have hE : ErrType w := HE.out
  go_loopg [11, 21] 50 (fun m v i wr => ∃ j : Nat, j + m = 50 ∧ i = .int .i64 j ∧ v = errVal k wk pc j ∧ w = wr)
  case atStart => exact ⟨0, by omega, rfl, rfl, rfl⟩
  case round =>
    obtain ⟨j, hj, rfl, rfl, rfl⟩ := hrel
    have HJ := Lib.hid hj
    by_cases hlt : j < 50
    · obtain ⟨T, v, hv⟩ := eqv k wk pc j
      have hn : (errVal k wk pc (j + 1)) = .iface 43 (.agg #[errVal k wk pc j]) := rfl
      rw [hv] at hn
      rw [hv]
      have HN := Lib.hid hn
      clear hv hn hj
      go_wp2
      go_roundg (gk - 1)
      case measure => have := HJ.out; omega
      case rel => exact ⟨j + 1, by have := HJ.out; omega, by go_num, HN.out.symm, rfl⟩
    · have hjn : j = 50 := by omega
      clear hj HJ hlt
      subst hjn
      go_wp2_with fail
      refine (at12 k wk pc _ _ hE).mono ?_
      rintro e w1 ⟨rfl, hq⟩
      have HQ := Lib.hid hq
      have hE1 := hE.below hq
      clear hq
      go_wp2_with fail
      refine (kind14 k wk pc _ w1 hE1).mono ?_
      rintro e w2 ⟨rfl, hq⟩
      have HQ2 := Lib.hid hq
      clear hq
      go_wp2
      go_ret3
      exact ⟨rfl, HQ.out.trans (HQ2.out.mono HQ.out.size)⟩

set_option maxHeartbeats 400000 in
set_option maxRecDepth 100000 in
theorem back11_high (k wk pc : Int) (deep : Int) (w : World) (hk : (k == 0) = false) (hE : ErrType w) (hd : 50 < deep) :
    Calls Tryd.prog 11 #[.int .i64 k, .int .i64 wk, .int .i64 pc, .int .i64 deep] w fun e w' => e = .returned (.tuple #[.int .i64 k, .int .i64 wk, .int .i64 pc]) ∧ Below w.heap.size w w' := by
  unfold ErrType at hE
  have HE := Lib.hid hE
  clear hE
  go_enter Tryd.func11, Tryd.ntmps11
  go_wp2_with (go_at_call 10; refine (of10 _ _ _ _ hk).mono ?_; rintro e w' ⟨rfl, rfl⟩)
  have hE : ErrType w := HE.out
  go_loopg [11, 21] 50 (fun m v i wr => ∃ j : Nat, j + m = 50 ∧ i = .int .i64 j ∧ v = errVal k wk pc j ∧ w = wr)
  case atStart => exact ⟨0, by omega, rfl, rfl, rfl⟩
  case round =>
    obtain ⟨j, hj, rfl, rfl, rfl⟩ := hrel
    have HJ := Lib.hid hj
    by_cases hlt : j < 50
    · obtain ⟨T, v, hv⟩ := eqv k wk pc j
      have hn : (errVal k wk pc (j + 1)) = .iface 43 (.agg #[errVal k wk pc j]) := rfl
      rw [hv] at hn
      rw [hv]
      have HN := Lib.hid hn
      clear hv hn hj
      go_wp2
      go_roundg (gk - 1)
      case measure => have := HJ.out; omega
      case rel => exact ⟨j + 1, by have := HJ.out; omega, by go_num, HN.out.symm, rfl⟩
    · have hjn : j = 50 := by omega
      clear hj HJ hlt
      subst hjn
      go_wp2_with fail
      refine (at12 k wk pc _ _ hE).mono ?_
      rintro e w1 ⟨rfl, hq⟩
      have HQ := Lib.hid hq
      have hE1 := hE.below hq
      clear hq
      go_wp2_with fail
      refine (kind14 k wk pc _ w1 hE1).mono ?_
      rintro e w2 ⟨rfl, hq⟩
      have HQ2 := Lib.hid hq
      clear hq
      go_wp2
      go_ret3
      exact ⟨rfl, HQ.out.trans (HQ2.out.mono HQ.out.size)⟩


theorem back11 (k wk pc deep : Int) (w : World) (hk : (k == 0) = false) (hE : ErrType w) :
    Calls Tryd.prog 11 #[.int .i64 k, .int .i64 wk, .int .i64 pc, .int .i64 deep] w fun e w' => e = .returned (.tuple #[.int .i64 k, .int .i64 wk, .int .i64 pc]) ∧ Below w.heap.size w w' := by
  by_cases h0 : deep < 0
  · exact back11_neg k wk pc deep w hk hE h0
  by_cases h1 : deep = 0
  · subst h1; exact back11_0 k wk pc w hk hE
  by_cases h2 : 50 < deep
  · exact back11_high k wk pc deep w hk hE h2
  by_cases h3 : deep = 50
  · subst h3; exact back11_50 k wk pc w hk hE
  obtain ⟨d, rfl⟩ := Int.eq_ofNat_of_zero_le (show 0 ≤ deep by omega)
  exact back11_mid k wk pc d w hk hE (by omega) (by omega)
end Go.Proofs.YtplepmebomanjaaDoor
