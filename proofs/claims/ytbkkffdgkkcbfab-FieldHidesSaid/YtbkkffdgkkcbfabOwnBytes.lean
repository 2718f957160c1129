/- Bytes of one's own. -/
import Derived.Test.YtbkkffdgkkcbfabPureF6d
import Derived.Deep.RegionLaw
import Derived.Deep.AppendLies
namespace Go.Proofs.Ytbkkffdgkkcbfab
open Go.RowKit
set_option linter.unusedSimpArgs false
set_option linter.unusedVariables false
/-- a slice of bytes of one's own -/
def bv (l : List UInt8) : List Value := l.map fun b => .int .u8 (B8 b)
def OwnB (w : World) (base : Nat) (v : Value) (l : List UInt8) : Prop := w.ownsRow base 5 1 v l.length (bv l)
theorem bv_one (l : List UInt8) : ∀ u ∈ bv l, u.oneCell' = true := by
  intro u hu
  obtain ⟨b, _, rfl⟩ := List.mem_map.1 hu
  rfl
theorem info5 : (Try.prog.info? 5).map (fun i => (i.zero, i.size, i.bytes)) = some (some (.int .u8 0), 1, 1) := by kernel_rfl
/-- append of bytes that lie somewhere to a slice of one's own -/
theorem app_b {w : World} {ops : Array Oper} {rest : List Oper} {o : Oper} {a : Act} {Q : Exit → Act → World → Prop} (hgd : o.guard = none) (s x : Operand)
    (ho : o.op = .call { callee := .builtin .append, args := #[s, x], argTypes := #[30, 30] })
    (base : Nat) (v : Value) (l : List UInt8) (hs : a.eval s = v) (hown : OwnB w base v l) (ad : Addr) (m c : Nat) (news : List UInt8) (hx : a.eval x = .slice (some ad) m c) (hl : news.length = m)
    (hnews : ∀ j u, (bv news)[j]? = some u → w.cell? (ad.add j) = some u) (hsz : l.length + m ≤ 1000000000) (hbase : base ≤ w.heap.size)
    (h : ∀ v' w', OwnB w' base v' (l ++ news) → Below base w w' → wpList Try.prog ops Q rest (a.put o.dst v') w') : wpList Try.prog ops Q (o :: rest) a w := by
  obtain ⟨i0, hi, hz0, hz1, hz2⟩ := info_parts info5
  refine wpList_append_own w hgd s x 30 ho base 5 i0 (.int .u8 0) 1 1 Try.underlying30 hi hz0 hz1 hz2 rfl (by decide) v l.length (bv l) hs hown ad m c (bv news) hx (by simp [bv, hl]) hnews (bv_one news)
    (by unfold maxLen; omega) (by omega) hbase ?_
  intro v' w' h1 h2 _
  refine h v' w' ?_ ((Below.refl base w).grown h2 hbase (fun k hk => (hown.lt k hk).1))
  unfold OwnB
  rw [List.length_append, hl]
  have : bv (l ++ news) = bv l ++ bv news := by simp [bv]
  rw [this]
  exact h1

theorem cell_new (w : World) (cs : Array Value) (T : TypeId) (j : Nat) (u : Value) (h : cs.toList[j]? = some u) : (w.alloc (.cells cs T)).cell? ((⟨w.heap.size, 0, none⟩ : Addr).add j) = some u := by
  have hadd : (⟨w.heap.size, 0, none⟩ : Addr).add j = ⟨w.heap.size, j, none⟩ := by unfold Addr.add; split <;> simp_all
  rw [hadd, cell_of_row _ _ j cs T (0, 0) (heap_alloc_new w _), ← Array.getElem?_toList]
  exact h
theorem OwnB.below {w w' : World} {base : Nat} {v : Value} {l : List UInt8} (h : OwnB w base v l) (hb : Below w.heap.size w w') : OwnB w' base v l := by
  refine ⟨h.1, ?_⟩
  rcases h.2 with hn | ⟨g, cap, cur, rfl, hg, hgg, r⟩
  · exact .inl hn
  · exact .inr ⟨g, cap, cur, rfl, hg, by rw [hb.block _ (Array.getElem?_eq_some_iff.1 hgg).1]; exact hgg, r⟩
theorem OwnB.nil (w : World) (base : Nat) : OwnB w base (.slice none 0 0) [] := World.ownsRow_nil w base _ 1
theorem strOf_u8 (l : List UInt8) : strOfNums (l.map B8) = ⟨l.toArray⟩ := by
  unfold strOfNums
  rw [List.map_map]
  congr 2
  have : ((fun n : Int => UInt8.ofNat n.toNat) ∘ B8) = id := by
    funext x
    simp [B8]
  rw [this, List.map_id]
theorem conv_own {w : World} {base : Nat} {v : Value} {l : List UInt8} (h : OwnB w base v l) : (convert 30 9 v).run Try.prog w = .ok (.string ⟨l.toArray⟩) w := by
  rcases h.2 with ⟨rfl, hn⟩ | ⟨g, cap, cur, rfl, _, hgg, h1, _, h2, h3⟩
  · have hl : l = [] := List.length_eq_zero_iff.1 hn
    subst hl
    exact run_convert_bytes_nil w _ _ Try.underlying30 Try.underlying5 _ _ _ Try.underlying9
  · rw [← strOf_u8 l]
    refine run_convert_bytes_arg w _ _ Try.underlying30 Try.underlying5 g 0 _ _ _ (by simp) (fun i hi => ?_) _ Try.underlying9
    rw [Nat.zero_add, cell_of_row _ _ _ _ _ _ hgg]
    have e : (cur.toList.take (l.length * 1))[i]? = (bv l)[i]? := by rw [h3]
    rw [List.getElem?_take, if_pos (by omega), Array.getElem?_toList] at e
    rw [e]
    simp [bv, List.getD_eq_getElem?_getD, List.getElem?_eq_getElem hi]

theorem mk_b {w : World} {ops : Array Oper} {rest : List Oper} {o : Oper} {a : Act} {Q : Exit → Act → World → Prop} (hgd : o.guard = none) (l c : Operand) (hop : o.op = Op.makeSlice 30 l c)
    (base : Nat) (n : Nat) (hl : a.eval l = .int .i64 0) (hc : a.eval c = .int .i64 (n : Int)) (hn : n ≤ 1000000000) (hbase : base ≤ w.heap.size)
    (h : ∀ v w', OwnB w' base v [] → Below base w w' → wpList Try.prog ops Q rest (a.put o.dst v) w') : wpList Try.prog ops Q (o :: rest) a w := by
  obtain ⟨i0, hi, hz0, hz1, hz2⟩ := info_parts info5
  refine wpList_make_own w hgd l c 30 hop base 5 i0 (.int .u8 0) 1 Try.underlying30 hi hz0 hz1 .i64 .i64 n n hl hc rfl (by rw [hz2]; omega) (by unfold maxLen; omega) hbase ?_
  intro w' h1 h2
  exact h _ w' h1 ((Below.refl base w).grown h2 hbase (fun k hk => by cases hk))

/-- append to one's own bytes, as a step of a region that draws -/
theorem step_app_b {ops : Array Oper} {o : Oper} {a : Act} {w : World} {K : Act → World → Prop} {Q : Exit → Act → World → Prop} {E : Prop} (hgd : o.guard = none) (s x : Operand)
    (ho : o.op = .call { callee := .builtin .append, args := #[s, x], argTypes := #[30, 30] })
    (base : Nat) (v : Value) (l : List UInt8) (hs : a.eval s = v) (hown : OwnB w base v l) (ad : Addr) (m c : Nat) (news : List UInt8) (hx : a.eval x = .slice (some ad) m c) (hl : news.length = m) (hm : 0 < m)
    (hnews : ∀ j u, (bv news)[j]? = some u → w.cell? (ad.add j) = some u) (hsz : l.length + m ≤ 1000000000) (hbase : base ≤ w.heap.size)
    (h : ∀ v' w', OwnB w' base v' (l ++ news) → Below base w w' → K (a.put o.dst v') w') :
    if Region.wanted o (yielded ops a.tmps) = true then Oper.wp Try.prog o a w K Q else E := by
  obtain ⟨i0, hi, hz0, hz1, hz2⟩ := info_parts info5
  refine step_append_lies w hgd s x 30 ho base 5 i0 (.int .u8 0) 1 1 Try.underlying30 hi hz0 hz1 hz2 rfl (by decide) v l.length (bv l) hs hown ad m c (bv news) hx (by simp [bv, hl]) hnews (bv_one news) hm
    (by unfold maxLen; omega) (by omega) hbase w.heap.size rfl ?_
  intro g cap w' h1 h2 _ _
  refine h _ w' ?_ ((Below.refl base w).grown h2 hbase (fun k hk => (hown.lt k hk).1))
  unfold OwnB
  rw [List.length_append, hl]
  have : bv (l ++ news) = bv l ++ bv news := by simp [bv]
  rw [this]
  exact h1
theorem OwnB.drew {w : World} {base : Nat} {v : Value} {l : List UInt8} (n : Nat) (h : OwnB w base v l) : OwnB (w.drewN n) base v l := h.below (below_drewN n (Below.refl _ _))
/-- what is one's own can be read -/
theorem OwnB.rd {w : World} {base : Nat} {v : Value} {l : List UInt8} (h : OwnB w base v l) : RdB w v l := by
  rcases h.2 with ⟨rfl, hn⟩ | ⟨g, cap, cur, rfl, _, hgg, h1, h2, _, h3⟩
  · exact ⟨none, 0, by rw [hn], by omega, by unfold maxLen; omega, fun h0 => by omega⟩
  · refine ⟨_, cap, rfl, h1, h2, fun h0 => ⟨g, 0, rfl, (Array.getElem?_eq_some_iff.1 hgg).1, fun i hi => ?_⟩⟩
    rw [Nat.zero_add, cell_of_row _ _ _ _ _ _ hgg]
    have e : (cur.toList.take (l.length * 1))[i]? = (bv l)[i]? := by rw [h3]
    rw [List.getElem?_take, if_pos (by omega), Array.getElem?_toList] at e
    rw [e]
    simp [bv, byteAt, List.getD_eq_getElem?_getD, List.getElem?_eq_getElem hi]
theorem OwnB.lt {w : World} {base : Nat} {v : Value} {l : List UInt8} (h : OwnB w base v l) (k : Nat) (hk : v.ownBlock = some k) : base ≤ k := (World.ownsRow.lt h k hk).1
/-- one's own slice laid open, its length under a name -/
theorem OwnB.opened {w : World} {base : Nat} {v : Value} {l : List UInt8} {n : Nat} (h : OwnB w base v l) (hn : l.length = n) :
    ∃ a cap, v = .slice a n cap ∧ n ≤ cap ∧ cap ≤ maxLen ∧ (0 < n → ∃ g, a = some ⟨g, 0, none⟩ ∧ base ≤ g ∧ g < w.heap.size ∧ ∀ i, i < n → w.cell? ⟨g, i, none⟩ = some (.int .u8 (B8 (byteAt l i)))) := by
  subst hn
  rcases h.2 with ⟨rfl, hn⟩ | ⟨g, cap, cur, rfl, hb, hgg, h1, h2, _, h3⟩
  · exact ⟨none, 0, by rw [hn], by omega, by unfold maxLen; omega, fun h0 => by omega⟩
  · refine ⟨_, cap, rfl, h1, h2, fun h0 => ⟨g, rfl, hb, (Array.getElem?_eq_some_iff.1 hgg).1, fun i hi => ?_⟩⟩
    rw [cell_of_row _ _ _ _ _ _ hgg]
    have e : (cur.toList.take (l.length * 1))[i]? = (bv l)[i]? := by rw [h3]
    rw [List.getElem?_take, if_pos (by omega), Array.getElem?_toList] at e
    rw [e]
    simp [bv, byteAt, List.getD_eq_getElem?_getD, List.getElem?_eq_getElem hi]
end Go.Proofs.Ytbkkffdgkkcbfab
