/- copy of a text into an array; a text is taken in. -/
import Derived.Test.YtackbjbmadkkhaaDoorHashD
import Derived.Laws.CopyRow
import Derived.Laws.CopyOwn
namespace Go.Proofs.YtackbjbmadkkhaaDoor
open Go.RowKit
set_option linter.unusedSimpArgs false
set_option linter.unusedVariables false
/-- bytes as cells -/
def bcs (l : List UInt8) : List Value := l.map fun x => .int .u8 (B8 x)
theorem bcs_len (l : List UInt8) : (bcs l).length = l.length := by simp [bcs]
theorem bcs_one (l : List UInt8) : ∀ v ∈ bcs l, v.oneCell' = true := by
  intro v hv
  obtain ⟨x, _, rfl⟩ := List.mem_map.1 hv
  rfl
theorem run_copy_str (w : World) (l : List UInt8) (ty : TypeId) (g off dLen dCap n : Nat) (cur : Array Value) (t : TypeId) (hg : w.heap[g]? = some (.cells cur t (0, 0))) (hn : Nat.min l.length dLen = n) (hfit : off + n ≤ cur.size) :
    (Builtin.copy_ #[35, 9] ty #[.slice (some ⟨g, off, none⟩) dLen dCap, .string ⟨l.toArray⟩]).run Tryd.prog w =
      .ok (goInt n) (w.setRow g (cur.toList.take off ++ bcs (l.take n) ++ cur.toList.drop (off + n)).toArray) := by
  have hnl : n ≤ l.length := by rw [← hn]; exact Nat.min_le_left _ _
  have hlen : (bcs (l.take n)).length = n := by rw [bcs_len, List.length_take, Nat.min_eq_left hnl]
  have hst := run_storeCells_at Tryd.prog g off t (bcs (l.take n)) 0 cur w hg (by rw [hlen]; simpa using hfit) (bcs_one _)
  rw [hlen] at hst
  simp only [Nat.add_zero] at hst
  have hsz : (ByteArray.mk l.toArray).size = l.length := rfl
  have htk : List.take n (List.map (fun b : UInt8 => Value.int IntKind.u8 (b.toNat : Int)) l) = bcs (l.take n) := by
    rw [← List.map_take]; rfl
  have hs1 : (Tryd.prog.info? 5).map (·.size) = some 1 := by kernel_rfl
  cases hq : Tryd.prog.info? 5 with
  | none => simp [hq] at hs1
  | some i =>
    have hi : i.size = 1 := by simpa [hq] using hs1
    simp [Builtin.copy_, run_underlying Tryd.underlying35, Builtin.lenOf, Builtin.firstCells, sizeOf, typeInfo, hq, hi, hsz, hn]
    rw [htk, hst]
    simp
/-- copy of a text into a row -/
theorem cp_str {ops : Array Oper} {rest : List Oper} {o : Oper} {a : Act} {w : World} {Q : Exit → Act → World → Prop} (hgd : o.guard = none) (d s : Operand)
    (ho : o.op = .call { callee := .builtin .copy, args := #[d, s], argTypes := #[35, 9] }) (l : List UInt8) (g off dLen dCap n : Nat) (hd : a.eval d = .slice (some ⟨g, off, none⟩) dLen dCap) (hs : a.eval s = .string ⟨l.toArray⟩)
    (cur : Array Value) (t : TypeId) (hg : w.heap[g]? = some (.cells cur t (0, 0))) (hn : Nat.min l.length dLen = n) (hfit : off + n ≤ cur.size)
    (h : ∀ w', w'.heap[g]? = some (.cells (cur.toList.take off ++ bcs (l.take n) ++ cur.toList.drop (off + n)).toArray t (0, 0)) → (∀ k, k ≠ g → w'.heap[k]? = w.heap[k]?) → (∀ B, B ≤ g → Below B w w') → wpList Tryd.prog ops Q rest (a.put o.dst (goInt n)) w') : wpList Tryd.prog ops Q (o :: rest) a w := by
  refine wpList_plain hgd fun K hK => ?_
  have hrun := run_copy_str w l o.type g off dLen dCap n cur t hg hn hfit
  unfold Oper.wp
  simp [execOp, ho, resolve, invoke, builtin, hd, hs, hrun, Result.andThen]
  refine hK _ _ ?_
  simpa using h _ (setRow_heap _ _ _ _ _ _ hg) (fun k hk => setRow_else _ _ _ _ hk) (fun B hB => below_row hB)
end Go.Proofs.YtackbjbmadkkhaaDoor
