/- append of keys as a step of a region that draws. -/
import Derived.Test.YtjbndfnhollfnaaKeyV
import Derived.Deep.RegionLaw
import Derived.Deep.AppendLies
import Derived.Deep.RegionLawGrows
namespace Go.Proofs.Ytjbndfnhollfnaa
open Go.RowKit Go.Shelf
set_option linter.unusedSimpArgs false
set_option linter.unusedVariables false
/-- append to one's own keys, as a step of a region that draws -/
theorem step_app_k {ops : Array Oper} {o : Oper} {a : Act} {w : World} {K : Act → World → Prop} {Q : Exit → Act → World → Prop} {E : Prop} (hgd : o.guard = none) (s x : Operand)
    (ho : o.op = .call { callee := .builtin .append, args := #[s, x], argTypes := #[22, 22] })
    (base : Nat) (v : Value) (l : List Go.Proofs.Ytjbndfnhollfnaa.K) (hs : a.eval s = v) (hown : OwnK w base v l) (ad : Addr) (m c : Nat) (news : List Go.Proofs.Ytjbndfnhollfnaa.K) (hx : a.eval x = .slice (some ad) m c) (hl : news.length = m) (hm : 0 < m)
    (hnews : RdK w (.slice (some ad) m c) news) (hsz : l.length + m ≤ 1000000) (hbase : base ≤ w.heap.size)
    (h : ∀ v' w', OwnK w' base v' (l ++ news) → Below base w w' → K (a.put o.dst v') w') :
    if Region.wanted o (yielded ops a.tmps) = true then Oper.wp Try.prog o a w K Q else E := by
  obtain ⟨i0, z0, hi, hz, hs9, hz9, hb0, hb1⟩ := info_k3
  refine step_append_lies w hgd s x 22 ho base 30 i0 z0 9 i0.bytes Try.underlying22 hi hz hs9 rfl hz9 (by decide) v l.length (kflat l) hs hown ad m c (kflat news) hx (by rw [kflat_len, hl]) (hnews.flat ad rfl) (kflat_one news) hm
    (by unfold maxLen; omega) (Nat.le_trans (Nat.mul_le_mul hsz hb1) (by decide)) hbase w.heap.size rfl ?_
  intro g cap w' h1 h2 _ _
  refine h _ w' ?_ ((Below.refl base w).grown h2 hbase (fun k hk => (World.ownsRow.lt hown k hk).1))
  unfold OwnK
  rw [List.length_append, hl, kflat_append]
  exact h1
/-- append to keys that have no room, as such a step -/
theorem step_grow_k {ops : Array Oper} {o : Oper} {a : Act} {w : World} {K : Act → World → Prop} {Q : Exit → Act → World → Prop} {E : Prop} (hgd : o.guard = none) (s x : Operand)
    (ho : o.op = .call { callee := .builtin .append, args := #[s, x], argTypes := #[22, 22] })
    (ao : Option Addr) (l : List Go.Proofs.Ytjbndfnhollfnaa.K) (hs : a.eval s = .slice ao l.length l.length) (hr : RdK w (.slice ao l.length l.length) l) (ad : Addr) (m c : Nat) (news : List Go.Proofs.Ytjbndfnhollfnaa.K) (hx : a.eval x = .slice (some ad) m c) (hl : news.length = m) (hm : 0 < m)
    (hnews : RdK w (.slice (some ad) m c) news) (hsz : l.length + m ≤ 1000000)
    (h : ∀ v' w', OwnK w' w.heap.size v' (l ++ news) → Below w.heap.size w w' → K (a.put o.dst v') w') :
    if Region.wanted o (yielded ops a.tmps) = true then Oper.wp Try.prog o a w K Q else E := by
  obtain ⟨i0, z0, hi, hz, hs9, hz9, hb0, hb1⟩ := info_k3
  have hn : ao = none → l.length = 0 ∧ l.length = 0 := by
    intro e
    subst e
    obtain ⟨a', c', e, _, _, h3⟩ := hr
    cases e
    have : l.length = 0 := by
      rcases Nat.eq_zero_or_pos l.length with h0 | h0
      · exact h0
      · obtain ⟨b, off, e, _⟩ := h3 h0
        cases e
    exact ⟨this, this⟩
  refine step_append_grows hgd s x 22 ho 30 i0 z0 9 i0.bytes Try.underlying22 hi hz hs9 rfl hz9 (by decide) ao l.length l.length (kflat l) hs hn (kflat_len l) hr.flat ad m c (kflat news) hx (by rw [kflat_len, hl]) (hnews.flat ad rfl) (kflat_one news)
    (by omega) (by unfold maxLen; omega) (Nat.le_trans (Nat.mul_le_mul hsz hb1) (by decide)) ?_
  intro v' w' h1 h2
  refine h v' w' ?_ ((Below.refl _ w).grown h2 (Nat.le_refl _) (fun k hk => by cases hk))
  unfold OwnK
  rw [List.length_append, hl, kflat_append]
  exact h1
end Go.Proofs.Ytjbndfnhollfnaa
