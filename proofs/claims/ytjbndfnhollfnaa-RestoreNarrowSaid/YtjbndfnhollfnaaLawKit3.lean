/- What RestoreNarrow leans on: equality of keys, what its inner loops find. -/
import Derived.Test.YtjbndfnhollfnaaLawKit2
namespace Go.Proofs.Ytjbndfnhollfnaa
open Go.RowKit
set_option linter.unusedSimpArgs false
set_option linter.unusedVariables false
theorem eql_k (a b : K) (w : World) : (binOp .eql 30 (.agg (kc a)) (.agg (kc b))).run Try.prog w = .ok (.bool (kEq a b)) w := by
  rw [run_eql_struct]
  have ht : Try.prog.underlying 30 = some (.struct (Try.prog.fieldsOf 30)) := by kernel_rfl
  have hp : Try.prog.stoodInHeld 30 = false := by kernel_rfl
  rw [show (10000 : Nat) = 9999 + 1 from rfl, run_equalIn_struct w 9999 _ _ _ ht hp]
  have hf := fields_k
  generalize (Try.prog.fieldsOf 30).toList = fs at hf
  rcases fs with _ | ⟨f0, _ | ⟨f1, _ | ⟨f2, _ | ⟨f3, _ | ⟨f4, _ | ⟨f5, _ | ⟨f6, _ | ⟨f7, _ | ⟨f8, _ | ⟨f9, fs⟩⟩⟩⟩⟩⟩⟩⟩⟩⟩
  case cons.cons.cons.cons.cons.cons.cons.cons.cons.nil =>
    simp only [List.map_cons, List.map_nil, List.cons.injEq, Prod.mk.injEq, and_true] at hf
    obtain ⟨⟨n0, t0, o0⟩, ⟨n1, t1, o1⟩, ⟨n2, t2, o2⟩, ⟨n3, t3, o3⟩, ⟨n4, t4, o4⟩, ⟨n5, t5, o5⟩, ⟨n6, t6, o6⟩, ⟨n7, t7, o7⟩, ⟨n8, t8, o8⟩⟩ := hf
    have m0 : f0.name ≠ "_" := by simpa using n0
    have m1 : f1.name ≠ "_" := by simpa using n1
    have m2 : f2.name ≠ "_" := by simpa using n2
    have m3 : f3.name ≠ "_" := by simpa using n3
    have m4 : f4.name ≠ "_" := by simpa using n4
    have m5 : f5.name ≠ "_" := by simpa using n5
    have m6 : f6.name ≠ "_" := by simpa using n6
    have m7 : f7.name ≠ "_" := by simpa using n7
    have m8 : f8.name ≠ "_" := by simpa using n8
    have e0 : (Op.equalIn 9999 3 (.int .i64 a.id) (.int .i64 b.id)).run Try.prog w = .ok (a.id == b.id) w := run_equalIn_int w 9998 _ _ _ _ _ Try.underlying3
    have e1 : (Op.equalIn 9999 3 (.int .i64 a.ty) (.int .i64 b.ty)).run Try.prog w = .ok (a.ty == b.ty) w := run_equalIn_int w 9998 _ _ _ _ _ Try.underlying3
    have e2 : (Op.equalIn 9999 9 (.string ⟨a.val.toArray⟩) (.string ⟨b.val.toArray⟩)).run Try.prog w = .ok (a.val == b.val) w := by rw [run_equalIn_string w 9998 _ _ _ Try.underlying9, str_beq]
    have e3 : (Op.equalIn 9999 3 (.int .i64 a.uses) (.int .i64 b.uses)).run Try.prog w = .ok (a.uses == b.uses) w := run_equalIn_int w 9998 _ _ _ _ _ Try.underlying3
    have e4 : (Op.equalIn 9999 3 (.int .i64 a.start) (.int .i64 b.start)).run Try.prog w = .ok (a.start == b.start) w := run_equalIn_int w 9998 _ _ _ _ _ Try.underlying3
    have e5 : (Op.equalIn 9999 3 (.int .i64 a.fin) (.int .i64 b.fin)).run Try.prog w = .ok (a.fin == b.fin) w := run_equalIn_int w 9998 _ _ _ _ _ Try.underlying3
    have e6 : (Op.equalIn 9999 3 (.int .i64 a.ver) (.int .i64 b.ver)).run Try.prog w = .ok (a.ver == b.ver) w := run_equalIn_int w 9998 _ _ _ _ _ Try.underlying3
    have e7 : (Op.equalIn 9999 3 (.int .i64 a.par) (.int .i64 b.par)).run Try.prog w = .ok (a.par == b.par) w := run_equalIn_int w 9998 _ _ _ _ _ Try.underlying3
    have e8 : (Op.equalIn 9999 4 (.bool a.raw) (.bool b.raw)).run Try.prog w = .ok (a.raw == b.raw) w := run_equalIn_bool w 9998 _ _ _ Try.underlying4
    rw [eqf_step 9999 _ _ f0 _ m0 w (.int .i64 a.id) (.int .i64 b.id) (a.id == b.id) (by rw [t0, o0]; simp [part, ag_i, kc]) (by rw [t0, o0]; simp [part, ag_i, kc]) (by rw [t0]; exact e0),
      eqf_step 9999 _ _ f1 _ m1 w (.int .i64 a.ty) (.int .i64 b.ty) (a.ty == b.ty) (by rw [t1, o1]; simp [part, ag_i, kc]) (by rw [t1, o1]; simp [part, ag_i, kc]) (by rw [t1]; exact e1),
      eqf_step 9999 _ _ f2 _ m2 w (.string ⟨a.val.toArray⟩) (.string ⟨b.val.toArray⟩) (a.val == b.val) (by rw [t2, o2]; simp [part, ag_s, kc]) (by rw [t2, o2]; simp [part, ag_s, kc]) (by rw [t2]; exact e2),
      eqf_step 9999 _ _ f3 _ m3 w (.int .i64 a.uses) (.int .i64 b.uses) (a.uses == b.uses) (by rw [t3, o3]; simp [part, ag_i, kc]) (by rw [t3, o3]; simp [part, ag_i, kc]) (by rw [t3]; exact e3),
      eqf_step 9999 _ _ f4 _ m4 w (.int .i64 a.start) (.int .i64 b.start) (a.start == b.start) (by rw [t4, o4]; simp [part, ag_i, kc]) (by rw [t4, o4]; simp [part, ag_i, kc]) (by rw [t4]; exact e4),
      eqf_step 9999 _ _ f5 _ m5 w (.int .i64 a.fin) (.int .i64 b.fin) (a.fin == b.fin) (by rw [t5, o5]; simp [part, ag_i, kc]) (by rw [t5, o5]; simp [part, ag_i, kc]) (by rw [t5]; exact e5),
      eqf_step 9999 _ _ f6 _ m6 w (.int .i64 a.ver) (.int .i64 b.ver) (a.ver == b.ver) (by rw [t6, o6]; simp [part, ag_i, kc]) (by rw [t6, o6]; simp [part, ag_i, kc]) (by rw [t6]; exact e6),
      eqf_step 9999 _ _ f7 _ m7 w (.int .i64 a.par) (.int .i64 b.par) (a.par == b.par) (by rw [t7, o7]; simp [part, ag_i, kc]) (by rw [t7, o7]; simp [part, ag_i, kc]) (by rw [t7]; exact e7),
      eqf_step 9999 _ _ f8 _ m8 w (.bool a.raw) (.bool b.raw) (a.raw == b.raw) (by rw [t8, o8]; simp [part, ag_b, kc]) (by rw [t8, o8]; simp [part, ag_b, kc]) (by rw [t8]; exact e8)]
    unfold kEq
    cases (a.id == b.id)
    · rfl
    cases (a.ty == b.ty)
    · rfl
    cases (a.val == b.val)
    · rfl
    cases (a.uses == b.uses)
    · rfl
    cases (a.start == b.start)
    · rfl
    cases (a.fin == b.fin)
    · rfl
    cases (a.ver == b.ver)
    · rfl
    cases (a.par == b.par)
    · rfl
    cases (a.raw == b.raw)
    · rfl
    rfl
  all_goals simp at hf
/-- a key of the backup is x but for Id and Parent, among the first m -/
def fnd (bl : List K) (x : K) (m : Nat) : Bool := (bl.take m).any fun y => kEq x (withPar (withId y x.id) x.par)
theorem fnd_zero (bl : List K) (x : K) : fnd bl x 0 = false := by unfold fnd; rw [List.take_zero]; rfl
theorem fnd_succ (bl : List K) (x : K) (m : Nat) (h : m < bl.length) : fnd bl x (m + 1) = (fnd bl x m || kEq x (withPar (withId (keyAt bl m) x.id) x.par)) := by
  unfold fnd
  rw [take_keyAt bl m h, List.any_append, List.any_cons, List.any_nil, Bool.or_false]
theorem fnd_all (bl : List K) (x : K) (h : ∃ y ∈ bl, x = withPar (withId y x.id) x.par) : fnd bl x bl.length = true := by
  unfold fnd
  rw [List.take_length, List.any_eq_true]
  obtain ⟨y, hy, e⟩ := h
  refine ⟨y, hy, ?_⟩
  rw [kEq_eq, ← e]
  exact decide_eq_true rfl
/-- x has no parent, or one among the first m -/
def ear (l : List K) (x : K) (m : Nat) : Bool := (x.par == 0) || (l.take m).any fun y => y.id == x.par
theorem ear_zero (l : List K) (x : K) : ear l x 0 = (x.par == 0) := by unfold ear; rw [List.take_zero]; simp
theorem ear_succ (l : List K) (x : K) (m : Nat) (h : m < l.length) : ear l x (m + 1) = (ear l x m || ((keyAt l m).id == x.par)) := by
  unfold ear
  rw [take_keyAt l m h, List.any_append, List.any_cons, List.any_nil, Bool.or_false, Bool.or_assoc]
theorem ear_all (l : List K) (x : K) (m : Nat) (hm : m ≤ l.length) (h : x.par = 0 ∨ ∃ i, i < m ∧ (keyAt l i).id = x.par) : ear l x m = true := by
  unfold ear
  rcases h with h | ⟨i, hi, h⟩
  · rw [h]; rfl
  · have : (l.take m).any (fun y => y.id == x.par) = true := by
      rw [List.any_eq_true]
      refine ⟨l[i], ?_, ?_⟩
      · rw [List.mem_take_iff_getElem]
        exact ⟨i, by omega, rfl⟩
      · rw [← keyAt_eq l i (by omega), h]; simp
    rw [this, Bool.or_true]
/-- the j-th new key -/
structure NewAt (n0 : Int) (a0 bl : List K) (now : Int) (s : PS) (j : Nat) : Prop where
  id : intAt s.ids j = n0 + j
  kid : (keyAt s.ks (a0.length + j)).id = n0 + j
  fin : now < (keyAt s.ks (a0.length + j)).fin
  fnd : fnd bl (keyAt s.ks (a0.length + j)) bl.length = true
  ear : ear s.ks (keyAt s.ks (a0.length + j)) (a0.length + j) = true
theorem newAt {n0 : Int} {a0 bl : List K} {now : Int} {s : PS} (h : Good n0 a0 bl now s) (j : Nat) (hj : j < s.ids.length) : NewAt n0 a0 bl now s j := by
  have hk := h.klen
  obtain ⟨new, hks, hl, hn⟩ := h.news
  obtain ⟨e1, e2, e3, e4, e5⟩ := hn j (by omega)
  have hx : keyAt s.ks (a0.length + j) = keyAt new j := by rw [hks]; exact keyAt_append_right a0 new j (by omega)
  refine ⟨?_, by rw [hx]; exact e2, by rw [hx]; exact e3, fnd_all _ _ (by rw [hx]; exact e4), ear_all _ _ _ (by omega) (by rw [hx]; exact e5)⟩
  unfold intAt
  rw [List.getD_eq_getElem?_getD, e1]
  rfl
theorem old_key {n0 : Int} {a0 bl : List K} {now : Int} {s : PS} (h : Good n0 a0 bl now s) (i : Nat) (hi : i < a0.length) : keyAt s.ks i = keyAt a0 i := by
  obtain ⟨new, hks, _, _⟩ := h.news
  rw [hks]; exact keyAt_append_left a0 new i hi
end Go.Proofs.Ytjbndfnhollfnaa
