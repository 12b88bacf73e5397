/-
  errors.As at a target of type *fault.place, for an error of package fault wrapped n times by 'again'.
-/
import Derived.Test.YtplepmebomanjaaDoorRows
import Derived.WalkKit
import Derived.LaidEql
import Derived.Stop.Asserts
import Derived.RowKitTokens
import Derived.Deep.LoopGhost
import Derived.Lib.Hide
namespace Go.Proofs.YtplepmebomanjaaDoor
open Go.RowKit Go.Extern.Stop Go.Stop Go.Extern

/-- an error of package fault, wrapped n times -/
def errVal (k wk pc : Int) : Nat → Value
  | 0 => .iface 41 (.agg #[.int .i64 k, .int .i64 wk, .int .i64 pc])
  | n + 1 => .iface 43 (.agg #[errVal k wk pc n])

theorem as_nil (t : Value) (w : World) :
    Calls Tryd.prog 17 #[.nilIface, t] w fun e w' => e = .returned (.bool false) ∧ w = w' := by
  go_enter Tryd.func17, Tryd.ntmps17
  go_wp2
  go_ret
  exact ⟨rfl, rfl⟩

theorem valueOf45 (t : Addr) (w : World) : (ReflectliteValue.unpack (.iface 45 (.pointer (some t)))).run Tryd.prog w
    = .ok (.agg #[.pointer (some ⟨4, 45, none⟩), .pointer (some ⟨w.heap.size, 0, none⟩), .int .u64 150]) (w.alloc (.cells #[.pointer (some t)] 45)) := by kernel_rfl
theorem type45 (a : Addr) (w : World) : (ReflectliteValue.methodAny (ReflectliteValue.valueError "reflectlite.Value.Type" 0) (fun t _ _ _ => ReflectliteType.toType t) #[.agg #[.pointer (some ⟨4, 45, none⟩), .pointer (some a), .int .u64 150]]).run Tryd.prog w
    = .ok (.iface 65 (.agg #[.pointer (some ⟨4, 45, none⟩)])) w := by kernel_rfl
theorem kind45 (w : World) : ((ReflectliteType.abiMethod fun t => (fun a : Nat => Value.int IntKind.u8 (a : Int)) <$> Rtype.kind t) #[.pointer (some ⟨4, 45, none⟩)]).run Tryd.prog w = .ok (.int .u8 22) w := by kernel_rfl
theorem kind41 (w : World) : ((ReflectliteType.abiMethod fun t => (fun a : Nat => Value.int IntKind.u8 (a : Int)) <$> Rtype.kind t) #[.pointer (some ⟨4, 41, none⟩)]).run Tryd.prog w = .ok (.int .u8 25) w := by kernel_rfl
theorem rlm (z : Sem Value) (f : TypeId → Addr → Nat → Nat → Sem Value) (v : Value) :
    ReflectliteValue.method z f #[v] = (do match ← ReflectliteValue.parts v with | none => z | some (t, a, fl) => f t a fl (fl % 32)) := rfl
theorem parts45 (a : Addr) (w : World) : (ReflectliteValue.parts (.agg #[.pointer (some ⟨4, 45, none⟩), .pointer (some a), .int .u64 150])).run Tryd.prog w = .ok (some (45, a, 150)) w := by kernel_rfl
theorem isNil45 (a p : Addr) (W : World) (ha : W.cell? a = some (.pointer (some p))) :
    (ReflectliteValue.method (ReflectliteValue.valueError "reflectlite.Value.IsNil" 0) ReflectliteValue.isNil #[.agg #[.pointer (some ⟨4, 45, none⟩), .pointer (some a), .int .u64 150]]).run Tryd.prog W = .ok (.bool false) W := by
  rw [rlm]
  simp only [Sem.run_bind, parts45, Result.andThen]
  simp [ReflectliteValue.isNil, loadVar, isAgg, underlying, Tryd.underlying45, ha, Result.andThen]
theorem elem45 (w : World) : (ReflectliteType.method ReflectliteType.elem #[.agg #[.pointer (some ⟨4, 45, none⟩)]]).run Tryd.prog w = .ok (.iface 65 (.agg #[.pointer (some ⟨4, 41, none⟩)])) w := by kernel_rfl
theorem typeOf41 (v : Value) (w : World) : (ReflectliteType.typeOf #[.iface 41 v]).run Tryd.prog w = .ok (.iface 65 (.agg #[.pointer (some ⟨4, 41, none⟩)])) w := by kernel_rfl
theorem typeOf43 (v : Value) (w : World) : (ReflectliteType.typeOf #[.iface 43 v]).run Tryd.prog w = .ok (.iface 65 (.agg #[.pointer (some ⟨4, 43, none⟩)])) w := by kernel_rfl
theorem typeOf39 (v : Value) (w : World) : (ReflectliteType.typeOf #[.iface 39 v]).run Tryd.prog w = .ok (.iface 65 (.agg #[.pointer (some ⟨4, 39, none⟩)])) w := by kernel_rfl
theorem implements41 (w : World) : (ReflectliteType.relation "Implements" ReflectliteType.implements_ #[.agg #[.pointer (some ⟨4, 41, none⟩)], .iface 65 (.agg #[.pointer (some ⟨4, 26, none⟩)])]).run Tryd.prog w = .ok (.bool true) w := by kernel_rfl
theorem assignable41 (w : World) : (ReflectliteType.relation "AssignableTo" ReflectliteType.assignableTo #[.agg #[.pointer (some ⟨4, 41, none⟩)], .iface 65 (.agg #[.pointer (some ⟨4, 41, none⟩)])]).run Tryd.prog w = .ok (.bool true) w := by kernel_rfl
theorem assignable43 (w : World) : (ReflectliteType.relation "AssignableTo" ReflectliteType.assignableTo #[.agg #[.pointer (some ⟨4, 43, none⟩)], .iface 65 (.agg #[.pointer (some ⟨4, 41, none⟩)])]).run Tryd.prog w = .ok (.bool false) w := by kernel_rfl
theorem assignable39 (w : World) : (ReflectliteType.relation "AssignableTo" ReflectliteType.assignableTo #[.agg #[.pointer (some ⟨4, 39, none⟩)], .iface 65 (.agg #[.pointer (some ⟨4, 41, none⟩)])]).run Tryd.prog w = .ok (.bool false) w := by kernel_rfl
theorem valueOf41 (a b c : Value) (w : World) : (ReflectliteValue.unpack (.iface 41 (.agg #[a, b, c]))).run Tryd.prog w
    = .ok (.agg #[.pointer (some ⟨4, 41, none⟩), .pointer (some ⟨w.heap.size, 0, none⟩), .int .u64 153]) (w.alloc (.cells #[a, b, c] 41)) := by kernel_rfl
theorem elemOf45 (w : World) : (Rtype.elem? 45).run Tryd.prog w = .ok (some 41) w := by kernel_rfl
theorem mk41 (p : Addr) (w : World) : (ReflectliteValue.mk 41 p ReflectliteValue.flagAddr).run Tryd.prog w = .ok (.agg #[.pointer (some ⟨4, 41, none⟩), .pointer (some p), .int .u64 409]) w := by kernel_rfl
theorem elemV45 (a p : Addr) (W : World) (ha : W.cell? a = some (.pointer (some p))) :
    (ReflectliteValue.method (ReflectliteValue.valueError "reflectlite.Value.Elem" 0) ReflectliteValue.elem #[.agg #[.pointer (some ⟨4, 45, none⟩), .pointer (some a), .int .u64 150]]).run Tryd.prog W
      = .ok (.agg #[.pointer (some ⟨4, 41, none⟩), .pointer (some p), .int .u64 409]) W := by
  rw [rlm]
  simp only [Sem.run_bind, parts45, Result.andThen]
  simp [ReflectliteValue.elem, loadVar, isAgg, underlying, Tryd.underlying45, ha, Result.andThen, elemOf45, mk41]
theorem rls (v x : Value) : ReflectliteValue.set #[v, x] = (do
    let (some (dst, a, fl), some (src, b, _)) := (← ReflectliteValue.parts v, ← ReflectliteValue.parts x)
      | unsupported (.noEntry "extern/(internal/reflectlite.Value).Set.zeroValue")
    if fl / ReflectliteValue.flagAddr % 2 == 0 then unsupported (.noEntry "extern/(internal/reflectlite.Value).Set.unaddressable")
    let val ← loadVar src b
    if ← Rtype.directlyAssignable dst src then storeVar dst a val
    else if ← Rtype.implements dst src then
      if (← Rtype.kind src) == 20 then
        match val with
        | .nilIface => unsupported (.noEntry "extern/reflectlite: a nil value of one interface type handed on as a value of another")
        | _ => storeVar dst a val
      else storeVar dst a (.iface src val)
    else panicString ("reflectlite.Set: value of type " ++ (← Rtype.spelt src) ++ " is not assignable to type " ++ (← Rtype.spelt dst))
    pure (.tuple #[])) := rfl
theorem parts41a (a : Addr) (w : World) : (ReflectliteValue.parts (.agg #[.pointer (some ⟨4, 41, none⟩), .pointer (some a), .int .u64 409])).run Tryd.prog w = .ok (some (41, a, 409)) w := by kernel_rfl
theorem parts41 (a : Addr) (w : World) : (ReflectliteValue.parts (.agg #[.pointer (some ⟨4, 41, none⟩), .pointer (some a), .int .u64 153])).run Tryd.prog w = .ok (some (41, a, 153)) w := by kernel_rfl
theorem direct41 (w : World) : (Rtype.directlyAssignable 41 41).run Tryd.prog w = .ok true w := by kernel_rfl
theorem size41 (w : World) : (sizeOf 41).run Tryd.prog w = .ok 3 w := by kernel_rfl

theorem store_ok {P : Program} {w : World} {a : Addr} {v old : Value} {m : Mode} (hc : w.cell? a = some old) (hf : w.frozen? a = false) (hv : v.oneCell' = true) :
    (store a v m).run P w = .ok () (w.setCell a v) := by
  rw [run_store P w a v m hv]; simp [hc, hf]

/-- (Value).Set: the place at 'ta' gets what the Value's own variable 'b' holds. -/
theorem set41 (t b : Nat) (k l m : Int) (x0 y0 z0 : Value) (W : World) (hb : W.heap[b]? = some (.cells #[.int .i64 k, .int .i64 l, .int .i64 m] 41 (0, 0))) (ht : W.heap[t]? = some (.cells #[x0, y0, z0] 41 (0, 0))) :
    (ReflectliteValue.set #[.agg #[.pointer (some ⟨4, 41, none⟩), .pointer (some ⟨t, 0, none⟩), .int .u64 409], .agg #[.pointer (some ⟨4, 41, none⟩), .pointer (some ⟨b, 0, none⟩), .int .u64 153]]).run Tryd.prog W
      = .ok (.tuple #[]) (((W.setCell ⟨t, 0, none⟩ (.int .i64 k)).setCell ⟨t, 1, none⟩ (.int .i64 l)).setCell ⟨t, 2, none⟩ (.int .i64 m)) := by
  rw [rls]
  simp only [Sem.run_bind, parts41a, parts41, Result.andThen]
  have hl := run_loadCells_list (P := Tryd.prog) (w := W) ⟨b, 0, none⟩ [.int .i64 k, .int .i64 l, .int .i64 m] (by
    intro j v hj
    rw [show ((⟨b, 0, none⟩ : Addr).add j) = ⟨b, j, none⟩ from by unfold Addr.add; split <;> simp_all, cell_of_row W b j _ _ _ hb]
    simpa using hj)
  have c0 : W.cell? ⟨t, 0, none⟩ = some x0 := by rw [cell_of_row W t 0 _ _ _ ht]; rfl
  have c1 : W.cell? ⟨t, 1, none⟩ = some y0 := by rw [cell_of_row W t 1 _ _ _ ht]; rfl
  have c2 : W.cell? ⟨t, 2, none⟩ = some z0 := by rw [cell_of_row W t 2 _ _ _ ht]; rfl
  have f0 := frozen_of_row W t 0 _ _ ht
  have f1 := frozen_of_row W t 1 _ _ ht
  have f2 := frozen_of_row W t 2 _ _ ht
  simp only [List.length_cons, List.length_nil] at hl
  simp [ReflectliteValue.flagAddr, loadVar, isAgg, underlying, Tryd.underlying41, Result.andThen, direct41, storeVar, Value.cells, storeCells, Addr.add, hl]
  have g1 := heap_setCell_same W t 0 _ 41 (.int .i64 k) ht
  have g2 := heap_setCell_same _ t 1 _ 41 (.int .i64 l) g1
  rw [store_ok (P := Tryd.prog) c0 f0 rfl]
  dsimp only
  rw [store_ok (P := Tryd.prog) (w := W.setCell ⟨t, 0, none⟩ (.int .i64 k)) (a := ⟨t, 1, none⟩) (old := y0) (by rw [cell_of_row _ t 1 _ _ _ g1]; rfl) (frozen_of_row _ t 1 _ _ g1) rfl]
  dsimp only
  rw [store_ok (P := Tryd.prog) (w := (W.setCell ⟨t, 0, none⟩ (.int .i64 k)).setCell ⟨t, 1, none⟩ (.int .i64 l)) (a := ⟨t, 2, none⟩) (old := z0) (by rw [cell_of_row _ t 2 _ _ _ g2]; rfl) (frozen_of_row _ t 2 _ _ g2) rfl]

/-- what the world is behind the three stores -/
theorem set41_heap (t : Nat) (k l m x0 y0 z0 : Value) (W : World) (ht : W.heap[t]? = some (.cells #[x0, y0, z0] 41 (0, 0))) :
    (((W.setCell ⟨t, 0, none⟩ k).setCell ⟨t, 1, none⟩ l).setCell ⟨t, 2, none⟩ m).heap[t]? = some (.cells #[k, l, m] 41 (0, 0)) ∧ W.grownBy (((W.setCell ⟨t, 0, none⟩ k).setCell ⟨t, 1, none⟩ l).setCell ⟨t, 2, none⟩ m) (some t) := by
  have g1 := heap_setCell_same W t 0 _ 41 k ht
  have g2 := heap_setCell_same _ t 1 _ 41 l g1
  have g3 := heap_setCell_same _ t 2 _ 41 m g2
  refine ⟨g3, rfl, rfl, rfl, by simp [World.setCell], fun j _ hj => ?_⟩
  have hj' : j ≠ t := fun e => hj (by rw [e])
  rw [heap_setCell_other _ _ _ _ hj', heap_setCell_other _ _ _ _ hj', heap_setCell_other _ _ _ _ hj']
end Go.Proofs.YtplepmebomanjaaDoor
