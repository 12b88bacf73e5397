/-
  fault.Name, fault.Line at small numbers: the walks.
-/
import Derived.Test.YtplepmebomanjaaDoorAs5
namespace Go.Proofs.YtplepmebomanjaaDoor
open Go.RowKit Go.Extern.Stop Go.Stop Go.Extern

theorem itoa0 (w : World) : Calls Tryd.prog 46 #[.int .i64 0] w fun e w' => e = .returned (.string ⟨#[48]⟩) ∧ w = w' := by
  go_enter Tryd.func46, Tryd.ntmps46
  go_wp2
  go_ret
  exact ⟨rfl, rfl⟩
theorem itoa4 (w : World) : Calls Tryd.prog 46 #[.int .i64 4] w fun e w' => e = .returned (.string ⟨#[52]⟩) ∧ w = w' := by
  go_enter Tryd.func46, Tryd.ntmps46
  go_wp2
  go_ret
  exact ⟨rfl, rfl⟩
theorem name1 (w : World) : Calls Tryd.prog 6 #[.int .i64 1] w fun e w' => e = .returned (.string ⟨#[100, 105, 118, 105, 100, 101]⟩) ∧ w = w' := by
  go_enter Tryd.func6, Tryd.ntmps6
  go_wp2
  go_ret
  exact ⟨rfl, rfl⟩
theorem name2 (w : World) : Calls Tryd.prog 6 #[.int .i64 2] w fun e w' => e = .returned (.string ⟨#[98, 111, 117, 110, 100, 115]⟩) ∧ w = w' := by
  go_enter Tryd.func6, Tryd.ntmps6
  go_wp2
  go_ret
  exact ⟨rfl, rfl⟩
def boundsLine : ByteArray := ⟨#[98, 111, 117, 110, 100, 115, 32, 97, 116, 32, 119, 111, 114, 107, 101, 114, 32, 48, 32, 112, 99, 32, 52]⟩
theorem error44 (w : World) : Calls Tryd.prog 44 #[.agg #[.int .i64 2, .int .i64 0, .int .i64 4]] w fun e w' => e = .returned (.string boundsLine) ∧ Below w.heap.size w w' := by
  go_enter Tryd.func44, Tryd.ntmps44
  go_wp2
  go_quiet (first | (go_at_call 6; exact Calls.quiet_of_same ((name2 _).mono fun _ _ h => ⟨h.1, h.2.symm⟩)) | (go_at_call 46; first | exact Calls.quiet_of_same ((itoa0 _).mono fun _ _ h => ⟨h.1, h.2.symm⟩) | exact Calls.quiet_of_same ((itoa4 _).mono fun _ _ h => ⟨h.1, h.2.symm⟩)))
  go_wp2
  go_ret
  exact ⟨by kernel_rfl, below_dr ((Below.refl _ _).alloc (Nat.le_refl _) _) nq⟩

theorem line8 (w : World) : Calls Tryd.prog 8 #[.int .i64 2, .int .i64 0, .int .i64 4] w fun e w' => e = .returned (.string boundsLine) ∧ Below w.heap.size w w' := by
  go_enter Tryd.func8, Tryd.ntmps8
  go_wp2_with fail
  refine (of10 2 0 4 _ rfl).mono ?_
  rintro e w1 ⟨rfl, rfl⟩
  simp only [errVal]
  go_wp2_with fail
  refine (error44 _).mono ?_
  rintro e w1 ⟨rfl, hq⟩
  have HQ := Lib.hid hq
  clear hq
  go_wp2
  go_ret
  exact ⟨rfl, HQ.out⟩

set_option maxHeartbeats 400000 in
theorem works5 (w : World) (hE : ErrType w) : Calls Tryd.prog 5 #[] w fun e w' => e = .returned (.bool true) ∧ Below w.heap.size w w' := by
  unfold ErrType at hE
  have HE := Lib.hid hE
  clear hE
  go_enter Tryd.func5, Tryd.ntmps5
  go_wp2_with fail
  refine (back11 2 3 4 1 _ rfl HE.out).mono ?_
  rintro e w1 ⟨rfl, hq⟩
  have HQ := Lib.hid hq
  clear hq
  go_wp2_with fail
  refine (name1 _).mono ?_
  rintro e w2 ⟨rfl, rfl⟩
  go_wp2_with fail
  refine (line8 _).mono ?_
  rintro e w3 ⟨rfl, hq⟩
  have HQ2 := Lib.hid hq
  clear hq
  have hb : (boundsLine.toList == [98, 111, 117, 110, 100, 115, 32, 97, 116, 32, 119, 111, 114, 107, 101, 114, 32, 48, 32, 112, 99, 32, 52]) = true := by decide +kernel
  go_wp2
  go_ret
  exact ⟨rfl, HQ.out.trans (HQ2.out.mono HQ.out.size)⟩

set_option maxHeartbeats 800000 in
set_option maxRecDepth 100000 in
theorem law4 (k wk pc deep : Int) (w : World) (hk : (k == 0) = false) (hE : ErrType w) :
    Calls Tryd.prog 4 #[.int .i64 k, .int .i64 wk, .int .i64 pc, .int .i64 deep] w fun e w' => e = .returned (.bool true) ∧ Below w.heap.size w w' := by
  unfold ErrType at hE
  have HE := Lib.hid hE
  clear hE
  go_enter Tryd.func4, Tryd.ntmps4
  go_wp2_with fail
  refine (works5 _ HE.out).mono ?_
  rintro e w1 ⟨rfl, hq⟩
  have HE1 := Lib.hid (ErrType.below HE.out hq)
  have B1 := Lib.hid hq
  clear hq
  go_wp2_with fail
  refine (back11 k wk pc deep _ hk HE1.out).mono ?_
  rintro e w2 ⟨rfl, hq⟩
  have HE2 := Lib.hid (ErrType.below HE1.out hq)
  have B2 := Lib.hid (B1.out.trans (hq.mono B1.out.size))
  clear hq
  go_wp2_with fail
  refine (of10 k wk pc _ hk).mono ?_
  rintro e w3 ⟨rfl, rfl⟩
  go_wp2_with fail
  refine (at12 k wk pc 0 _ HE2.out).mono ?_
  rintro e w3 ⟨rfl, hq⟩
  have HE3 := Lib.hid (ErrType.below HE2.out hq)
  have B3 := Lib.hid (B2.out.trans (hq.mono B2.out.size))
  clear hq
  go_wp2_with fail
  refine (unwrap13 k wk pc _).mono ?_
  rintro e w4 ⟨rfl, hq⟩
  have HE4 := Lib.hid (ErrType.below HE3.out hq)
  have B4 := Lib.hid (B3.out.trans (hq.mono B3.out.size))
  clear hq
  go_wp2_with fail
  refine (at12_kind k _ HE4.out).mono ?_
  rintro e w5 ⟨rfl, hq⟩
  have HE5 := Lib.hid (ErrType.below HE4.out hq)
  have B5 := Lib.hid (B4.out.trans (hq.mono B4.out.size))
  clear hq
  go_wp2_with fail
  refine (kind14 k wk pc 0 _ HE5.out).mono ?_
  rintro e w6 ⟨rfl, hq⟩
  have HE6 := Lib.hid (ErrType.below HE5.out hq)
  have B6 := Lib.hid (B5.out.trans (hq.mono B5.out.size))
  clear hq
  go_wp2_with fail
  refine (kind14_kind k _ HE6.out).mono ?_
  rintro e w7 ⟨rfl, hq⟩
  have B7 := Lib.hid (B6.out.trans (hq.mono B6.out.size))
  clear hq
  go_wp2_with fail
  refine (kind14_nil _).mono ?_
  rintro e w8 ⟨rfl, hq⟩
  have B8 := Lib.hid (B7.out.trans (hq.mono B7.out.size))
  clear hq
  go_wp2_with fail
  refine (is15 k wk pc _).mono ?_
  rintro e w9 ⟨rfl, hq⟩
  have B9 := Lib.hid (B8.out.trans (hq.mono B8.out.size))
  clear hq
  go_wp2
  go_ret
  exact ⟨rfl, B9.out⟩

set_option maxHeartbeats 400000 in
set_option maxRecDepth 100000 in
theorem backn_neg (wk pc : Int) (deep : Int) (w : World) (hd : deep < 0) :
    Calls Tryd.prog 11 #[.int .i64 0, .int .i64 wk, .int .i64 pc, .int .i64 deep] w fun e w' => e = .returned (.tuple #[.int .i64 0, .int .i64 0, .int .i64 0]) ∧ Below w.heap.size w w' := by
  go_enter Tryd.func11, Tryd.ntmps11
  go_wp2_with (go_at_call 10; refine (of10_nil _ _ _).mono ?_; rintro e w' ⟨rfl, rfl⟩)
  go_loopg [11, 21] 0 (fun m v i wr => ∃ j : Nat, j + m = 0 ∧ i = .int .i64 j ∧ v = .nilIface ∧ w = wr)
  case atStart => exact ⟨0, by omega, rfl, rfl, rfl⟩
  case round =>
    obtain ⟨j, hj, rfl, rfl, rfl⟩ := hrel
    have HJ := Lib.hid hj
    by_cases hlt : j < 0
    · exact absurd hlt (Nat.not_lt_zero _)
    · have hjn : j = 0 := by omega
      clear hj HJ hlt
      subst hjn
      go_wp2_with fail
      refine (at12_nil _).mono ?_
      rintro e w1 ⟨rfl, hq⟩
      have HQ := Lib.hid hq
      clear hq
      go_wp2_with fail
      refine (kind14_nil _).mono ?_
      rintro e w2 ⟨rfl, hq⟩
      have HQ2 := Lib.hid hq
      clear hq
      go_wp2
      go_ret3
      exact ⟨rfl, HQ.out.trans (HQ2.out.mono HQ.out.size)⟩

set_option maxHeartbeats 400000 in
set_option maxRecDepth 100000 in
theorem backn_0 (wk pc : Int)  (w : World)  :
    Calls Tryd.prog 11 #[.int .i64 0, .int .i64 wk, .int .i64 pc, .int .i64 0] w fun e w' => e = .returned (.tuple #[.int .i64 0, .int .i64 0, .int .i64 0]) ∧ Below w.heap.size w w' := by
  go_enter Tryd.func11, Tryd.ntmps11
  go_wp2_with (go_at_call 10; refine (of10_nil _ _ _).mono ?_; rintro e w' ⟨rfl, rfl⟩)
  go_loopg [11, 21] 0 (fun m v i wr => ∃ j : Nat, j + m = 0 ∧ i = .int .i64 j ∧ v = .nilIface ∧ w = wr)
  case atStart => exact ⟨0, by omega, rfl, rfl, rfl⟩
  case round =>
    obtain ⟨j, hj, rfl, rfl, rfl⟩ := hrel
    have HJ := Lib.hid hj
    by_cases hlt : j < 0
    · exact absurd hlt (Nat.not_lt_zero _)
    · have hjn : j = 0 := by omega
      clear hj HJ hlt
      subst hjn
      go_wp2_with fail
      refine (at12_nil _).mono ?_
      rintro e w1 ⟨rfl, hq⟩
      have HQ := Lib.hid hq
      clear hq
      go_wp2_with fail
      refine (kind14_nil _).mono ?_
      rintro e w2 ⟨rfl, hq⟩
      have HQ2 := Lib.hid hq
      clear hq
      go_wp2
      go_ret3
      exact ⟨rfl, HQ.out.trans (HQ2.out.mono HQ.out.size)⟩

set_option maxHeartbeats 400000 in
set_option maxRecDepth 100000 in
theorem backn_mid (wk pc : Int) (d : Nat) (w : World) (hd : 0 < d) (hd2 : d < 50) :
    Calls Tryd.prog 11 #[.int .i64 0, .int .i64 wk, .int .i64 pc, .int .i64 d] w fun e w' => e = .returned (.tuple #[.int .i64 0, .int .i64 0, .int .i64 0]) ∧ Below w.heap.size w w' := by
  go_enter Tryd.func11, Tryd.ntmps11
  go_wp2_with (go_at_call 10; refine (of10_nil _ _ _).mono ?_; rintro e w' ⟨rfl, rfl⟩)
  go_loopg [11, 21] d (fun m v i wr => ∃ j : Nat, j + m = d ∧ i = .int .i64 j ∧ v = .nilIface ∧ w = wr)
  case atStart => exact ⟨0, by omega, rfl, rfl, rfl⟩
  case round =>
    obtain ⟨j, hj, rfl, rfl, rfl⟩ := hrel
    have HJ := Lib.hid hj
    by_cases hlt : j < d
    · clear hj
      go_wp2
      go_roundg (gk - 1)
      case measure => have := HJ.out; omega
      case rel => exact ⟨j + 1, by have := HJ.out; omega, by go_num, rfl, rfl⟩
    · have hjn : j = d := by omega
      clear hj HJ hlt
      subst hjn
      go_wp2_with fail
      refine (at12_nil _).mono ?_
      rintro e w1 ⟨rfl, hq⟩
      have HQ := Lib.hid hq
      clear hq
      go_wp2_with fail
      refine (kind14_nil _).mono ?_
      rintro e w2 ⟨rfl, hq⟩
      have HQ2 := Lib.hid hq
      clear hq
      go_wp2
      go_ret3
      exact ⟨rfl, HQ.out.trans (HQ2.out.mono HQ.out.size)⟩

set_option maxHeartbeats 400000 in
set_option maxRecDepth 100000 in
theorem backn_50 (wk pc : Int)  (w : World)  :
    Calls Tryd.prog 11 #[.int .i64 0, .int .i64 wk, .int .i64 pc, .int .i64 50] w fun e w' => e = .returned (.tuple #[.int .i64 0, .int .i64 0, .int .i64 0]) ∧ Below w.heap.size w w' := by
  go_enter Tryd.func11, Tryd.ntmps11
  go_wp2_with (go_at_call 10; refine (of10_nil _ _ _).mono ?_; rintro e w' ⟨rfl, rfl⟩)
  go_loopg [11, 21] 50 (fun m v i wr => ∃ j : Nat, j + m = 50 ∧ i = .int .i64 j ∧ v = .nilIface ∧ w = wr)
  case atStart => exact ⟨0, by omega, rfl, rfl, rfl⟩
  case round =>
    obtain ⟨j, hj, rfl, rfl, rfl⟩ := hrel
    have HJ := Lib.hid hj
    by_cases hlt : j < 50
    · clear hj
      go_wp2
      go_roundg (gk - 1)
      case measure => have := HJ.out; omega
      case rel => exact ⟨j + 1, by have := HJ.out; omega, by go_num, rfl, rfl⟩
    · have hjn : j = 50 := by omega
      clear hj HJ hlt
      subst hjn
      go_wp2_with fail
      refine (at12_nil _).mono ?_
      rintro e w1 ⟨rfl, hq⟩
      have HQ := Lib.hid hq
      clear hq
      go_wp2_with fail
      refine (kind14_nil _).mono ?_
      rintro e w2 ⟨rfl, hq⟩
      have HQ2 := Lib.hid hq
      clear hq
      go_wp2
      go_ret3
      exact ⟨rfl, HQ.out.trans (HQ2.out.mono HQ.out.size)⟩

set_option maxHeartbeats 400000 in
set_option maxRecDepth 100000 in
theorem backn_high (wk pc : Int) (deep : Int) (w : World) (hd : 50 < deep) :
    Calls Tryd.prog 11 #[.int .i64 0, .int .i64 wk, .int .i64 pc, .int .i64 deep] w fun e w' => e = .returned (.tuple #[.int .i64 0, .int .i64 0, .int .i64 0]) ∧ Below w.heap.size w w' := by
  go_enter Tryd.func11, Tryd.ntmps11
  go_wp2_with (go_at_call 10; refine (of10_nil _ _ _).mono ?_; rintro e w' ⟨rfl, rfl⟩)
  go_loopg [11, 21] 50 (fun m v i wr => ∃ j : Nat, j + m = 50 ∧ i = .int .i64 j ∧ v = .nilIface ∧ w = wr)
  case atStart => exact ⟨0, by omega, rfl, rfl, rfl⟩
  case round =>
    obtain ⟨j, hj, rfl, rfl, rfl⟩ := hrel
    have HJ := Lib.hid hj
    by_cases hlt : j < 50
    · clear hj
      go_wp2
      go_roundg (gk - 1)
      case measure => have := HJ.out; omega
      case rel => exact ⟨j + 1, by have := HJ.out; omega, by go_num, rfl, rfl⟩
    · have hjn : j = 50 := by omega
      clear hj HJ hlt
      subst hjn
      go_wp2_with fail
      refine (at12_nil _).mono ?_
      rintro e w1 ⟨rfl, hq⟩
      have HQ := Lib.hid hq
      clear hq
      go_wp2_with fail
      refine (kind14_nil _).mono ?_
      rintro e w2 ⟨rfl, hq⟩
      have HQ2 := Lib.hid hq
      clear hq
      go_wp2
      go_ret3
      exact ⟨rfl, HQ.out.trans (HQ2.out.mono HQ.out.size)⟩

theorem back11_nil (wk pc deep : Int) (w : World) :
    Calls Tryd.prog 11 #[.int .i64 0, .int .i64 wk, .int .i64 pc, .int .i64 deep] w fun e w' => e = .returned (.tuple #[.int .i64 0, .int .i64 0, .int .i64 0]) ∧ Below w.heap.size w w' := by
  by_cases h0 : deep < 0
  · exact backn_neg wk pc deep w h0
  by_cases h1 : deep = 0
  · subst h1; exact backn_0 wk pc w
  by_cases h2 : 50 < deep
  · exact backn_high wk pc deep w h2
  by_cases h3 : deep = 50
  · subst h3; exact backn_50 wk pc w
  obtain ⟨d, rfl⟩ := Int.eq_ofNat_of_zero_le (show 0 ≤ deep by omega)
  exact backn_mid wk pc d w (by omega) (by omega)

set_option maxHeartbeats 400000 in
theorem law4_nil (wk pc deep : Int) (w : World) (hE : ErrType w) :
    Calls Tryd.prog 4 #[.int .i64 0, .int .i64 wk, .int .i64 pc, .int .i64 deep] w fun e w' => e = .returned (.bool true) ∧ Below w.heap.size w w' := by
  unfold ErrType at hE
  have HE := Lib.hid hE
  clear hE
  go_enter Tryd.func4, Tryd.ntmps4
  go_wp2_with fail
  refine (works5 _ HE.out).mono ?_
  rintro e w1 ⟨rfl, hq⟩
  have B1 := Lib.hid hq
  clear hq
  go_wp2_with fail
  refine (back11_nil wk pc deep _).mono ?_
  rintro e w2 ⟨rfl, hq⟩
  have B2 := Lib.hid (B1.out.trans (hq.mono B1.out.size))
  clear hq
  go_wp2
  go_ret
  exact ⟨rfl, B2.out⟩
end Go.Proofs.YtplepmebomanjaaDoor
