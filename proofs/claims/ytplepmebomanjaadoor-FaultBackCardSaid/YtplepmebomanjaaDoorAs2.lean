/-
  errors.As at a target of type *fault.place: the walk.
-/
import Derived.Test.YtplepmebomanjaaDoorAs
import Derived.Handy
namespace Go.Proofs.YtplepmebomanjaaDoor
open Go.RowKit Go.Extern.Stop Go.Stop Go.Extern

theorem errVal_one (k wk pc : Int) (m : Nat) : (errVal k wk pc m).oneCell' = true := by cases m <;> rfl

theorem again_unwrap (v : Value) (w : World) (_hv : v.oneCell' = true) :
    Calls Tryd.prog 61 #[.agg #[v]] w fun e w' => e = .returned v ∧ w.alloc (.cells #[v] 43) = w' := by
  go_enter Tryd.func61, Tryd.ntmps61
  go_wp2
  go_ret
  exact ⟨rfl, rfl⟩
theorem place_unwrap (k l m : Int) (w : World) :
    Calls Tryd.prog 45 #[.agg #[.int .i64 k, .int .i64 l, .int .i64 m]] w fun e w' => e = .returned (.iface 39 (.int .i64 k)) ∧ w.alloc (.cells #[.int .i64 k, .int .i64 l, .int .i64 m] 41) = w' := by
  go_enter Tryd.func45, Tryd.ntmps45
  go_wp2
  go_ret
  exact ⟨rfl, rfl⟩

theorem noAs43 (v : Value) (xT : TypeId) (w : World) : (Instr.typeAssert (.iface 43 v) xT 75 true).run Tryd.prog w = .ok (.tuple #[.nilIface, .bool false]) w := run_typeAssert_lacksB Tryd.underlying75 (by kernel_rfl) (by kernel_rfl) v xT w
theorem hasUnwrap43 (v : Value) (xT : TypeId) (w : World) : (Instr.typeAssert (.iface 43 v) xT 46 true).run Tryd.prog w = .ok (.tuple #[.iface 43 v, .bool true]) w := run_typeAssert_hasB Tryd.underlying46 (by kernel_rfl) v xT w

set_option maxHeartbeats 400000 in
set_option maxRecDepth 100000 in
theorem as23 (k wk pc : Int) (n t a : Nat) (x0 y0 z0 : Value) (w : World)
    (ht : w.heap[t]? = some (.cells #[x0, y0, z0] 41 (0, 0))) (ha : w.cell? ⟨a, 0, none⟩ = some (.pointer (some ⟨t, 0, none⟩))) :
    Calls Tryd.prog 23 #[errVal k wk pc n, .iface 45 (.pointer (some ⟨t, 0, none⟩)), .agg #[.pointer (some ⟨4, 45, none⟩), .pointer (some ⟨a, 0, none⟩), .int .u64 150], .iface 65 (.agg #[.pointer (some ⟨4, 41, none⟩)])] w
      fun e w' => e = .returned (.bool true) ∧ w'.heap[t]? = some (.cells #[.int .i64 k, .int .i64 wk, .int .i64 pc] 41 (0, 0)) ∧ w.grownBy w' (some t) := by
  have h18 := @run_callFunc_extern Tryd.prog 18 _ ReflectliteType.typeOf Tryd.func18 (by kernel_rfl) (by kernel_rfl) (by kernel_rfl) (by kernel_rfl)
  have h66 := @run_callFunc_extern Tryd.prog 66 _ (ReflectliteType.relation "AssignableTo" ReflectliteType.assignableTo) Tryd.func66 (by kernel_rfl) (by kernel_rfl) (by kernel_rfl) (by kernel_rfl)
  have h24 := @run_callFunc_extern Tryd.prog 24 _ (ReflectliteValue.method (ReflectliteValue.valueError "reflectlite.Value.Elem" 0) ReflectliteValue.elem) Tryd.func24 (by kernel_rfl) (by kernel_rfl) (by kernel_rfl) (by kernel_rfl)
  have h25 := @run_callFunc_extern Tryd.prog 25 _ ReflectliteValue.set Tryd.func25 (by kernel_rfl) (by kernel_rfl) (by kernel_rfl) (by kernel_rfl)
  have h20 := @run_callFunc_extern Tryd.prog 20 _ (fun args => ReflectliteValue.unpack (args.getD 0 (.tuple #[]))) Tryd.func20 (by kernel_rfl) (by kernel_rfl) (by kernel_rfl) (by kernel_rfl)
  go_enter Tryd.func23, Tryd.ntmps23
  go_wp2_with fail
  go_loopg [0] n (fun m v wr => v = errVal k wk pc m ∧ w.grownBy wr none ∧ wr.heap[w.heap.size]? = some (.cells #[.pointer (some ⟨4, 45, none⟩), .pointer (some ⟨a, 0, none⟩), .int .u64 150] 57 (0, 0)))
  case atStart => exact ⟨rfl, World.grownBy_alloc _ _ _, heap_alloc_new _ _⟩
  case round =>
    obtain ⟨rfl, hg, hb⟩ := hrel
    have b0 : wr.cell? ⟨w.heap.size, 0, none⟩ = some (.pointer (some ⟨4, 45, none⟩)) := by rw [cell_of_row _ _ 0 _ _ _ hb]; rfl
    have b1 : wr.cell? ⟨w.heap.size, 1, none⟩ = some (.pointer (some ⟨a, 0, none⟩)) := by rw [cell_of_row _ _ 1 _ _ _ hb]; rfl
    have b2 : wr.cell? ⟨w.heap.size, 2, none⟩ = some (.int .u64 150) := by rw [cell_of_row _ _ 2 _ _ _ hb]; rfl
    have ha' := hg.cell ha (by simp)
    have ht' : wr.heap[t]? = some (.cells #[x0, y0, z0] 41 (0, 0)) := by rw [hg.block t (lt_of_block ht) (by simp)]; exact ht
    cases gk with
    | zero =>
      have e1 := typeOf41
      have e2 := assignable41
      have e3 := elemV45 ⟨a, 0, none⟩ ⟨t, 0, none⟩ wr ha'
      have e4 := valueOf41
      have hn := heap_alloc_new wr (.cells #[.int .i64 k, .int .i64 wk, .int .i64 pc] 41)
      have ho : (wr.alloc (.cells #[.int .i64 k, .int .i64 wk, .int .i64 pc] 41)).heap[t]? = some (.cells #[x0, y0, z0] 41 (0, 0)) := by rw [Below.heap_alloc _ _ _ (lt_of_block ht')]; exact ht'
      have e5 := set41 t wr.heap.size k wk pc x0 y0 z0 _ hn ho
      have hend := set41_heap t (.int .i64 k) (.int .i64 wk) (.int .i64 pc) x0 y0 z0 _ ho
      have H := Lib.hid hend
      clear hend
      simp only [errVal]
      go_wp2
      go_ret
      refine ⟨rfl, H.out.1, ?_⟩
      have g1 := H.out.2
      exact ⟨g1.os.trans hg.os, g1.tape.trans hg.tape, g1.output.trans hg.output, Nat.le_trans hg.size (Nat.le_trans (by simp) g1.size), fun j hj hne => (g1.block j (Nat.lt_of_lt_of_le hj (Nat.le_trans hg.size (by simp))) hne).trans ((Below.heap_alloc _ _ _ (Nat.lt_of_lt_of_le hj hg.size)).trans (hg.block j hj (by simp)))⟩
    | succ m =>
      have e1 := typeOf43
      have e2 := assignable43
      have e3 := noAs43
      have e4 := hasUnwrap43
      have hb' : (wr.alloc (.cells #[errVal k wk pc m] 43)).heap[w.heap.size]? = some (.cells #[.pointer (some ⟨4, 45, none⟩), .pointer (some ⟨a, 0, none⟩), .int .u64 150] 57 (0, 0)) := (Below.heap_alloc _ _ _ (lt_of_block hb)).trans hb
      have hg' : w.grownBy (wr.alloc (.cells #[errVal k wk pc m] 43)) none := ⟨hg.os, hg.tape, hg.output, Nat.le_trans hg.size (by simp), fun j hj hne => (Below.heap_alloc _ _ _ (Nat.lt_of_lt_of_le hj hg.size)).trans (hg.block j hj hne)⟩
      have H := Lib.hid (And.intro hg' hb')
      clear hg' hb'
      cases m with
      | zero =>
        simp only [errVal]
        go_wp2_with (go_at_call 61; refine (again_unwrap _ _ rfl).mono ?_; rintro e w' ⟨rfl, rfl⟩)
        go_roundg 0
        case measure => omega
        case rel => exact ⟨rfl, H.out⟩
      | succ p =>
        simp only [errVal]
        go_wp2_with (go_at_call 61; refine (again_unwrap _ _ rfl).mono ?_; rintro e w' ⟨rfl, rfl⟩)
        go_roundg (p + 1)
        case measure => omega
        case rel => exact ⟨rfl, H.out⟩
end Go.Proofs.YtplepmebomanjaaDoor
