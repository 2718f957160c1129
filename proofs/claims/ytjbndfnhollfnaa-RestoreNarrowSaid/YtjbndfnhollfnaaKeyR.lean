/- append of keys; Clone. -/
import Derived.Test.YtjbndfnhollfnaaKeyQ
import Derived.Deep.Upon
import Derived.Lib.SliceRun
namespace Go.Proofs.Ytjbndfnhollfnaa
open Go.RowKit Go.Shelf
set_option linter.unusedSimpArgs false
set_option linter.unusedVariables false
theorem info_k2 : (Try.prog.info? 30).map (fun i => (i.zero.map (·.cells.size), i.size, decide (0 < i.bytes ∧ i.bytes ≤ 200))) = some (some 9, 9, true) := by kernel_rfl
theorem info_k3 : ∃ i z, Try.prog.info? 30 = some i ∧ i.zero = some z ∧ i.size = 9 ∧ z.cells.size = 9 ∧ 0 < i.bytes ∧ i.bytes ≤ 200 := by
  have h := info_k2
  cases hi : Try.prog.info? 30 with
  | none => rw [hi] at h; cases h
  | some i =>
    rw [hi] at h
    simp only [Option.map_some, Option.some.injEq, Prod.mk.injEq, decide_eq_true_eq] at h
    cases hz : i.zero with
    | none => rw [hz] at h; cases h.1
    | some z =>
      rw [hz] at h
      exact ⟨i, z, rfl, hz, h.2.1, by simpa using h.1, h.2.2.1, h.2.2.2⟩
def OwnK (w : World) (base : Nat) (v : Value) (l : List K) : Prop := w.ownsRow base 30 9 v l.length (kflat l)
theorem OwnK.rd {w : World} {base : Nat} {v : Value} {l : List K} (h : OwnK w base v l) : RdK w v l := ownK_rd rfl h
theorem OwnK.nil (w : World) (base : Nat) : OwnK w base (.slice none 0 0) [] := World.ownsRow_nil w base _ 9
theorem OwnK.keep {w w' : World} {base B : Nat} {v : Value} {l : List K} (h : OwnK w base v l) (hb : Below B w w') (hB : w.heap.size ≤ B) : OwnK w' base v l := by
  refine ⟨h.1, ?_⟩
  rcases h.2 with hn | ⟨g, cap, cur, rfl, hg, hgg, r⟩
  · exact .inl hn
  · exact .inr ⟨g, cap, cur, rfl, hg, by rw [hb.block _ (Nat.lt_of_lt_of_le (Array.getElem?_eq_some_iff.1 hgg).1 hB)]; exact hgg, r⟩
/-- append of keys that can be read to keys of one's own -/
theorem app_k {w : World} {ops : Array Oper} {rest : List Oper} {o : Oper} {a : Act} {Q : Exit → Act → World → Prop} (hgd : o.guard = none) (s x : Operand)
    (ho : o.op = .call { callee := .builtin .append, args := #[s, x], argTypes := #[22, 22] })
    (base : Nat) (v : Value) (l : List K) (hs : a.eval s = v) (hown : OwnK w base v l) (xv : Value) (news : List K) (hx : a.eval x = xv) (hr : RdK w xv news)
    (hsz : l.length + news.length ≤ 1000000) (hbase : base ≤ w.heap.size)
    (h : ∀ v' w', OwnK w' base v' (l ++ news) → Below base w w' → wpList Try.prog ops Q rest (a.put o.dst v') w') : wpList Try.prog ops Q (o :: rest) a w := by
  obtain ⟨i0, z0, hi, hz, hs9, hz9, hb0, hb1⟩ := info_k3
  have hfl := hr
  obtain ⟨ad, cap, rfl, hcap, _, hc⟩ := hr
  have hflat := hfl.flat
  cases ad with
  | some p =>
    refine wpList_append_own w hgd s x 22 ho base 30 i0 z0 9 i0.bytes Try.underlying22 hi hz hs9 rfl hz9 (by decide) v l.length (kflat l) hs hown p news.length cap (kflat news) hx (kflat_len news) (hflat p rfl) (kflat_one news)
      (by unfold maxLen; omega) (Nat.le_trans (Nat.mul_le_mul hsz hb1) (by decide)) hbase ?_
    intro v' w' h1 h2 _
    refine h v' w' ?_ ((Below.refl base w).grown h2 hbase (fun k hk => (World.ownsRow.lt hown k hk).1))
    unfold OwnK
    rw [List.length_append, kflat_append]
    exact h1
  | none =>
    have hn : news = [] := by
      cases news with
      | nil => rfl
      | cons c l =>
        obtain ⟨b, off, e, _⟩ := hc (by simp)
        cases e
    subst hn
    have key : ∃ ad' n cap', v = .slice ad' n cap' ∧ n ≤ cap' := by
      rcases hown.2 with ⟨rfl, _⟩ | ⟨g, cap', cur, rfl, _, _, h1, _⟩
      · exact ⟨none, 0, 0, rfl, Nat.le_refl _⟩
      · exact ⟨_, _, _, rfl, h1⟩
    obtain ⟨ad', n, cap', rfl, hle⟩ := key
    have hrun := run_append_nothing (P := Try.prog) w 22 22 o.type 30 i0 Try.underlying22 hi ad' n cap' hle (.slice none 0 cap) (Src.ofNil w Try.underlying22 cap)
    refine wpList_plain hgd fun K hK => ?_
    unfold Oper.wp execOp
    have hx' : a.eval x = .slice none 0 cap := hx
    simp only [ho, resolve, invoke, builtin, Sem.run_bind, Sem.run_pure, Result.andThen_ok, List.map_toArray, List.map_cons, List.map_nil, hs, hx', hrun]
    exact hK _ _ (h _ _ (by rw [List.append_nil]; exact hown) (Below.refl _ _))
theorem one_k (w : World) (k : K) : RdK (w.alloc (.cells (kc k) 30)) (.slice (some ⟨w.heap.size, 0, none⟩) 1 1) [k] :=
  ⟨_, 1, rfl, Nat.le_refl _, by unfold maxLen; omega, fun _ => ⟨w.heap.size, 0, rfl, by simp, fun j hj i hi => by
    have : j = 0 := by simpa using hj
    subst this
    rw [cell_of_row _ _ _ _ _ _ (heap_alloc_new _ _)]
    simp [keyAt]⟩⟩
theorem empty_k (w : World) : OwnK (w.alloc (.cells #[] 30)) w.heap.size (.slice (some ⟨w.heap.size, 0, none⟩) 0 0) [] :=
  ⟨rfl, .inr ⟨w.heap.size, 0, #[], rfl, Nat.le_refl _, heap_alloc_new _ _, Nat.le_refl _, by unfold maxLen; omega, rfl, rfl⟩⟩
attribute [local irreducible] Calls
set_option maxRecDepth 100000 in
set_option maxHeartbeats 1000000 in
theorem clone_k (v : Value) (l : List K) (w : World) (hv : RdK w v l) (hl : l.length ≤ 5000) :
    Calls Try.prog 25 #[v] w fun e w' => ∃ v', e = .returned v' ∧ OwnK w' w.heap.size v' l ∧ Below w.heap.size w w' := by
  have HV := Lib.hid hv
  obtain ⟨a, cap, rfl, _, _, hc⟩ := hv
  have heq : ∀ (a : Option Addr) (n c : Nat) (w : World), (binOp .eql 22 (.slice a n c) (.slice none 0 0)).run Try.prog w = .ok (.bool a.isNone) w := fun a n c w => Lib.run_eql_slice_nil w _ _ a n c 0 0 Try.underlying22
  cases a with
  | none =>
    have hn : l = [] := by
      cases l with
      | nil => rfl
      | cons c l =>
        obtain ⟨b, off, e, _⟩ := hc (by simp)
        cases e
    subst hn
    go_enter Try.func25, Try.ntmps25
    go_wp2
    go_ret
    exact ⟨_, rfl, OwnK.nil _ _, Below.refl _ _⟩
  | some p =>
    have hsz : Hid (([] : List K).length + l.length ≤ 1000000) := Lib.hid (by simp; omega)
    clear hc
    go_enter Try.func25, Try.ntmps25
    go_wp2_with (at_builtin; refine app_k rfl (.tmp 5) (.tmp 6) rfl w.heap.size _ [] rfl (empty_k w) _ l rfl (HV.out.alloc _) hsz.out (by rw [World.size_alloc]; exact Nat.le_succ _) ?_; intro v' w' ho hb)
    go_ret
    exact ⟨_, rfl, ho, ((Below.refl _ _).alloc (Nat.le_refl _) _).trans hb⟩
end Go.Proofs.Ytjbndfnhollfnaa
