/- Plan as a function of lists; what holds of it. -/
import Derived.Test.YtjbndfnhollfnaaKeyV
namespace Go.Proofs.Ytjbndfnhollfnaa
open Go.RowKit Go.Shelf
set_option linter.unusedSimpArgs false
set_option linter.unusedVariables false
/-- the key with another Id -/
def withId (k : K) (n : Int) : K := { k with id := n }
/-- the key with another Parent -/
def withPar (k : K) (n : Int) : K := { k with par := n }
/-- what stands for a key: the last pair that says it, or 0 -/
def lookP (ps : List (Int × Int)) (x : Int) : Int := ps.foldl (fun acc p => if p.1 = x then p.2 else acc) 0
theorem lookP_snoc (ps : List (Int × Int)) (p : Int × Int) (x : Int) : lookP (ps ++ [p]) x = if p.1 = x then p.2 else lookP ps x := by
  simp [lookP, List.foldl_append]
/-- where the plan stands -/
structure PS where
  nx : Int
  ks : List K
  ps : List (Int × Int)
  ids : List Int
/-- the key as it is added -/
def newK (s : PS) (x : K) : K := withPar x (lookP s.ps x.par)
def plTwin (s : PS) (x : K) : PS := ⟨s.nx, s.ks, s.ps ++ [(x.id, twinId s.ks x)], s.ids⟩
def plAdd (s : PS) (x : K) : PS := ⟨s.nx + 1, s.ks ++ [withId (newK s x) s.nx], s.ps ++ [(x.id, s.nx)], s.ids ++ [s.nx]⟩
def plStep (now : Int) (s : PS) (x : K) : Except Int PS :=
  if x.fin ≤ now then .ok s else if twinIs s.ks x = true then .ok (plTwin s x) else if addErr s.nx s.ks (newK s x) = 0 then .ok (plAdd s x) else .error (addErr s.nx s.ks (newK s x))
def plRun (now : Int) : PS → List K → Except Int PS
  | s, [] => .ok s
  | s, x :: l => match plStep now s x with
    | .ok s' => plRun now s' l
    | .error e => .error e
theorem plRun_append (now : Int) (l m : List K) : ∀ s, plRun now s (l ++ m) = (match plRun now s l with | .ok s' => plRun now s' m | .error e => .error e) := by
  induction l with
  | nil => intro s; rfl
  | cons x l ih =>
    intro s
    simp only [List.cons_append, plRun]
    cases plStep now s x with
    | ok s' => exact ih s'
    | error e => rfl
theorem take_keyAt (l : List K) (i : Nat) (h : i < l.length) : l.take (i + 1) = l.take i ++ [keyAt l i] := by
  rw [keyAt_eq l i h]
  exact List.take_succ_eq_append_getElem h
theorem plRun_take (now : Int) (s0 s : PS) (l : List K) (i : Nat) (h : i < l.length) (hr : plRun now s0 (l.take i) = .ok s) : plRun now s0 (l.take (i + 1)) = plStep now s (keyAt l i) := by
  rw [take_keyAt l i h, plRun_append, hr]
  simp only [plRun]
  cases plStep now s (keyAt l i) <;> rfl
theorem plRun_fell (now : Int) (s0 s : PS) (l : List K) (i : Nat) (h : i < l.length) (hr : plRun now s0 (l.take i) = .ok s) (e : Int) (he : plStep now s (keyAt l i) = .error e) : plRun now s0 l = .error e := by
  have h1 := plRun_take now s0 s l i h hr
  rw [he] at h1
  have h2 := plRun_append now (l.take (i + 1)) (l.drop (i + 1)) s0
  rw [List.take_append_drop, h1] at h2
  exact h2
/-- the four ways of a step -/
theorem plStep_parts (now : Int) (s : PS) (x : K) : (x.fin ≤ now ∧ plStep now s x = .ok s) ∨ (¬ x.fin ≤ now ∧ twinIs s.ks x = true ∧ plStep now s x = .ok (plTwin s x)) ∨
    (¬ x.fin ≤ now ∧ twinIs s.ks x = false ∧ addErr s.nx s.ks (newK s x) ≠ 0 ∧ plStep now s x = .error (addErr s.nx s.ks (newK s x))) ∨
    (¬ x.fin ≤ now ∧ twinIs s.ks x = false ∧ addErr s.nx s.ks (newK s x) = 0 ∧ plStep now s x = .ok (plAdd s x)) := by
  unfold plStep
  by_cases h1 : x.fin ≤ now
  · exact .inl ⟨h1, if_pos h1⟩
  rw [if_neg h1]
  cases h2 : twinIs s.ks x with
  | true => exact .inr (.inl ⟨h1, rfl, rfl⟩)
  | false =>
    by_cases h3 : addErr s.nx s.ks (newK s x) = 0
    · exact .inr (.inr (.inr ⟨h1, rfl, h3, by rw [if_neg (by simp), if_pos h3]⟩))
    · exact .inr (.inr (.inl ⟨h1, rfl, h3, by rw [if_neg (by simp), if_neg h3]⟩))
/-- the whole plan -/
def planK (nx : Int) (tl : List K) (b : BK) (bl : List K) (now : Int) : Except Int PS :=
  if validB b bl = true ∧ 0 ≤ now ∧ now ≤ 1099511627776 then plRun now ⟨nx, tl, [], []⟩ bl else .error 1
theorem planK_four (nx : Int) (tl : List K) (b : BK) (bl : List K) (now : Int) : (validB b bl = false ∧ planK nx tl b bl now = .error 1) ∨ (validB b bl = true ∧ now < 0 ∧ planK nx tl b bl now = .error 1) ∨
    (validB b bl = true ∧ ¬ now < 0 ∧ 1099511627776 < now ∧ planK nx tl b bl now = .error 1) ∨ (validB b bl = true ∧ ¬ now < 0 ∧ ¬ 1099511627776 < now ∧ planK nx tl b bl now = plRun now ⟨nx, tl, [], []⟩ bl) := by
  unfold planK
  cases h1 : validB b bl
  · exact .inl ⟨rfl, if_neg (by simp)⟩
  by_cases h2 : now < 0
  · exact .inr (.inl ⟨rfl, h2, if_neg (by omega)⟩)
  by_cases h3 : 1099511627776 < now
  · exact .inr (.inr (.inl ⟨rfl, h2, h3, if_neg (by omega)⟩))
  · exact .inr (.inr (.inr ⟨rfl, h2, h3, if_pos ⟨rfl, by omega, by omega⟩⟩))
/-! valid tables -/
theorem validTab_iff (nx : Int) (l : List K) : validTab nx l = true ↔ l.length ≤ 4096 ∧ 1 ≤ nx ∧ nx ≤ 2147483647 ∧ ∀ j, j < l.length → okAt nx l j = true := by
  unfold validTab
  rw [Bool.and_eq_true, Bool.and_eq_true, decide_eq_true_eq, win_iff, List.all_eq_true]
  simp only [List.mem_range]
  constructor
  · rintro ⟨⟨a, b, c⟩, d⟩; exact ⟨a, b, c, d⟩
  · rintro ⟨a, b, c, d⟩; exact ⟨⟨a, b, c⟩, d⟩
theorem okAt_iff (nx : Int) (l : List K) (i : Nat) : okAt nx l i = true ↔ validK (keyAt l i) = true ∧ lastId l i < (keyAt l i).id ∧ (keyAt l i).id < nx ∧ (keyAt l i).par < nx := by
  unfold okAt
  simp only [Bool.and_eq_true, decide_eq_true_eq]
  constructor
  · rintro ⟨⟨⟨a, b⟩, c⟩, d⟩; exact ⟨a, b, c, d⟩
  · rintro ⟨a, b, c, d⟩; exact ⟨⟨⟨a, b⟩, c⟩, d⟩
theorem keyAt_append_left (l m : List K) (i : Nat) (h : i < l.length) : keyAt (l ++ m) i = keyAt l i := by
  rw [keyAt_eq _ _ (by rw [List.length_append]; omega), keyAt_eq _ _ h, List.getElem_append_left]
theorem keyAt_append_right (l m : List K) (i : Nat) (h : i < m.length) : keyAt (l ++ m) (l.length + i) = keyAt m i := by
  rw [keyAt_eq _ _ (by rw [List.length_append]; omega), keyAt_eq _ _ h, List.getElem_append_right (by omega)]
  simp
theorem keyAt_last (l : List K) (x : K) : keyAt (l ++ [x]) l.length = x := by
  have := keyAt_append_right l [x] 0 (by simp)
  rw [Nat.add_zero] at this
  rw [this]; rfl
theorem lastId_append (l m : List K) (i : Nat) (h : i ≤ l.length) : lastId (l ++ m) i = lastId l i := by
  unfold lastId
  by_cases h0 : i = 0
  · simp [h0]
  · rw [if_neg h0, if_neg h0, keyAt_append_left _ _ _ (by omega)]
theorem lastId_lt (nx : Int) (l : List K) (h : validTab nx l = true) : lastId l l.length < nx := by
  obtain ⟨_, h1, _, h2⟩ := (validTab_iff nx l).1 h
  unfold lastId
  by_cases h0 : l.length = 0
  · rw [if_pos h0]; omega
  · rw [if_neg h0]
    exact ((okAt_iff _ _ _).1 (h2 (l.length - 1) (by omega))).2.2.1
theorem addErr_zero (nx : Int) (l : List K) (k : K) : addErr nx l k = 0 ↔ validK k = true ∧ k.par < nx ∧ l.length < 4096 ∧ nx < 2147483647 := by
  unfold addErr
  by_cases h : validK k = true ∧ k.par < nx
  · rw [if_pos h]
    by_cases h2 : l.length < 4096 ∧ nx < 2147483647
    · rw [if_pos h2]; simp only [true_iff]; exact ⟨h.1, h.2, h2.1, h2.2⟩
    · rw [if_neg h2]
      constructor
      · intro e; omega
      · rintro ⟨_, _, a, b⟩; exact absurd ⟨a, b⟩ h2
  · rw [if_neg h]
    constructor
    · intro e; omega
    · rintro ⟨a, b, _, _⟩; exact absurd ⟨a, b⟩ h
theorem validK_withId (k : K) (n : Int) : validK (withId k n) = validK k := rfl
theorem validTab_add (nx : Int) (l : List K) (k : K) (h : validTab nx l = true) (he : addErr nx l k = 0) : validTab (nx + 1) (l ++ [withId k nx]) = true := by
  obtain ⟨a, b, c, d⟩ := (validTab_iff nx l).1 h
  obtain ⟨e1, e2, e3, e4⟩ := (addErr_zero nx l k).1 he
  rw [validTab_iff]
  refine ⟨by rw [List.length_append, List.length_singleton]; omega, by omega, by omega, fun j hj => ?_⟩
  rw [okAt_iff]
  rw [List.length_append, List.length_singleton] at hj
  by_cases hlt : j < l.length
  · obtain ⟨o1, o2, o3, o4⟩ := (okAt_iff nx l j).1 (d j hlt)
    rw [keyAt_append_left _ _ _ hlt, lastId_append _ _ _ (by omega)]
    exact ⟨o1, o2, by omega, by omega⟩
  · obtain rfl : j = l.length := by omega
    rw [keyAt_last, lastId_append _ _ _ (Nat.le_refl _), validK_withId]
    refine ⟨e1, lastId_lt nx l h, ?_, ?_⟩
    · show nx < nx + 1; omega
    · show k.par < nx + 1; omega
/-! what stays true -/
/-- s has come of a start with the table (nx, tl) -/
structure Good (nx : Int) (tl : List K) (bl : List K) (now : Int) (s : PS) : Prop where
  tab : validTab s.nx s.ks = true
  news : ∃ new, s.ks = tl ++ new ∧ new.length = s.ids.length ∧ ∀ j, j < new.length → s.ids[j]? = some (nx + j) ∧ (keyAt new j).id = nx + j ∧ now < (keyAt new j).fin ∧ (∃ y ∈ bl, keyAt new j = withPar (withId y (keyAt new j).id) (keyAt new j).par) ∧
    ((keyAt new j).par = 0 ∨ ∃ i, i < tl.length + j ∧ (keyAt s.ks i).id = (keyAt new j).par)
  nxt : s.nx = nx + s.ids.length
  pto : ∀ p ∈ s.ps, ∃ k ∈ s.ks, k.id = p.2
theorem Good.start (nx : Int) (tl bl : List K) (now : Int) (h : validTab nx tl = true) : Good nx tl bl now ⟨nx, tl, [], []⟩ where
  tab := h
  news := ⟨[], by simp, rfl, fun j hj => absurd hj (by simp)⟩
  nxt := by simp
  pto := fun p hp => by simp at hp
theorem lookP_aux (x : Int) (ps : List (Int × Int)) : ∀ acc : Int, (ps.foldl (fun acc p => if p.1 = x then p.2 else acc) acc = acc) ∨ ∃ p ∈ ps, p.2 = ps.foldl (fun acc p => if p.1 = x then p.2 else acc) acc := by
  induction ps with
  | nil => intro acc; exact .inl rfl
  | cons q ps ih =>
    intro acc
    rw [List.foldl_cons]
    by_cases h : q.1 = x
    · rw [if_pos h]
      rcases ih q.2 with h0 | ⟨p, hp, h0⟩
      · exact .inr ⟨q, by simp, h0.symm⟩
      · exact .inr ⟨p, by simp [hp], h0⟩
    · rw [if_neg h]
      rcases ih acc with h0 | ⟨p, hp, h0⟩
      · exact .inl h0
      · exact .inr ⟨p, by simp [hp], h0⟩
theorem lookP_mem (ps : List (Int × Int)) (x : Int) : lookP ps x = 0 ∨ ∃ p ∈ ps, p.2 = lookP ps x := lookP_aux x ps 0
theorem twinIs_iff (l : List K) (x : K) : twinIs l x = true ↔ ∃ y ∈ l, alikeK y x = true := by
  rcases twin_parts l x with ⟨_, h, _, hn⟩ | ⟨i, hi, _, h, _, hp, _⟩
  · rw [h]
    simp only [Bool.false_eq_true, false_iff]
    rintro ⟨y, hy, hp⟩
    obtain ⟨i, hi, rfl⟩ := List.mem_iff_getElem.1 hy
    have := hn i hi
    rw [keyAt_eq l i hi, hp] at this
    cases this
  · rw [h]
    simp only [true_iff]
    exact ⟨_, List.getElem_mem hi, by rw [← keyAt_eq l i hi]; exact hp⟩
theorem twinId_mem (l : List K) (x : K) (h : twinIs l x = true) : ∃ k ∈ l, k.id = twinId l x := by
  rcases twin_parts l x with ⟨_, h0, _, hn⟩ | ⟨i, hi, h1, _⟩
  · rw [h0] at h; cases h
  · exact ⟨l[i], List.getElem_mem hi, by rw [h1, keyAt_eq l i hi]⟩
theorem Good.step {nx : Int} {tl bl : List K} {now : Int} {s s' : PS} (h : Good nx tl bl now s) (x : K) (hx : x ∈ bl) (hs : plStep now s x = .ok s') : Good nx tl bl now s' := by
  rcases plStep_parts now s x with ⟨_, e⟩ | ⟨_, ht, e⟩ | ⟨_, _, _, e⟩ | ⟨hf, ht, he, e⟩
  · rw [e] at hs; cases hs; exact h
  · rw [e] at hs; cases hs
    refine ⟨h.tab, h.news, h.nxt, fun p hp => ?_⟩
    rcases List.mem_append.1 hp with hp | hp
    · exact h.pto p hp
    · rw [List.mem_singleton.1 hp]; exact twinId_mem _ _ ht
  · rw [e] at hs; cases hs
  · rw [e] at hs; cases hs
    obtain ⟨new, hk, hl, hj⟩ := h.news
    refine ⟨validTab_add _ _ _ h.tab he, ⟨new ++ [withId (newK s x) s.nx], by show s.ks ++ _ = _; rw [hk, List.append_assoc], by show _ = (s.ids ++ [s.nx]).length; simp [hl], fun j hjl => ?_⟩, by show s.nx + 1 = nx + ((s.ids ++ [s.nx]).length : Int); rw [h.nxt, List.length_append, List.length_singleton]; omega, fun p hp => ?_⟩
    · rw [List.length_append, List.length_singleton] at hjl
      have hks : (plAdd s x).ks = s.ks ++ [withId (newK s x) s.nx] := rfl
      have hid : (plAdd s x).ids = s.ids ++ [s.nx] := rfl
      rw [hks, hid]
      by_cases hlt : j < new.length
      · obtain ⟨a1, a2, a3, a4, a5⟩ := hj j hlt
        rw [keyAt_append_left _ _ _ hlt]
        refine ⟨by rw [List.getElem?_append_left (by omega)]; exact a1, a2, a3, a4, a5.imp id (fun ⟨i, hi, hp⟩ => ⟨i, hi, ?_⟩)⟩
        rw [keyAt_append_left _ _ _ (by rw [hk, List.length_append]; omega)]; exact hp
      · obtain rfl : j = new.length := by omega
        rw [keyAt_last]
        have hn := h.nxt
        refine ⟨by rw [List.getElem?_append_right (by omega), hl]; simp [hn], by show s.nx = _; omega, by show now < x.fin; omega, ⟨x, hx, rfl⟩, ?_⟩
        show lookP s.ps x.par = 0 ∨ ∃ i, _ ∧ _ = lookP s.ps x.par
        rcases lookP_mem s.ps x.par with h0 | ⟨p, hp, h0⟩
        · exact .inl h0
        · obtain ⟨k, hk1, hk2⟩ := h.pto p hp
          obtain ⟨i, hi, rfl⟩ := List.mem_iff_getElem.1 hk1
          refine .inr ⟨i, by rw [hk, List.length_append] at hi; exact hi, ?_⟩
          rw [keyAt_append_left _ _ _ hi, keyAt_eq _ _ hi, hk2, h0]
    · have hp' : p ∈ s.ps ++ [(x.id, s.nx)] := hp
      rcases List.mem_append.1 hp' with hp | hp
      · obtain ⟨k, hk1, hk2⟩ := h.pto p hp
        exact ⟨k, List.mem_append_left _ hk1, hk2⟩
      · rw [List.mem_singleton.1 hp]
        exact ⟨withId (newK s x) s.nx, List.mem_append_right _ (by simp), rfl⟩
theorem plRun_ind {now : Int} {P : PS → Prop} (l : List K) : ∀ (s s' : PS), P s → (∀ s s' x, x ∈ l → P s → plStep now s x = .ok s' → P s') → plRun now s l = .ok s' → P s' := by
  induction l with
  | nil => intro s s' hs _ h; cases h; exact hs
  | cons x l ih =>
    intro s s' hs hst h
    rw [plRun] at h
    cases h1 : plStep now s x with
    | ok s1 =>
      rw [h1] at h
      exact ih s1 s' (hst s s1 x (by simp) hs h1) (fun a b y hy => hst a b y (by simp [hy])) h
    | error e => rw [h1] at h; cases h
theorem Good.run {nx : Int} {tl bl : List K} {now : Int} {s s' : PS} (h : Good nx tl bl now s) (l : List K) (hl : ∀ x ∈ l, x ∈ bl) (hr : plRun now s l = .ok s') : Good nx tl bl now s' :=
  plRun_ind (P := Good nx tl bl now) l s s' h (fun _ _ x hx hg hs => hg.step x (hl x hx) hs) hr
theorem Good.klen {nx : Int} {tl bl : List K} {now : Int} {s : PS} (h : Good nx tl bl now s) : s.ks.length = tl.length + s.ids.length := by
  obtain ⟨new, hk, hl, _⟩ := h.news
  rw [hk, List.length_append, hl]
/-- the lists are no longer than what has been gone through -/
theorem plRun_len {now : Int} (l : List K) : ∀ (s s' : PS), plRun now s l = .ok s' → s'.ps.length ≤ s.ps.length + l.length ∧ s'.ids.length ≤ s.ids.length + l.length ∧ s'.ks.length ≤ s.ks.length + l.length := by
  induction l with
  | nil => intro s s' h; cases h; simp
  | cons x l ih =>
    intro s s' h
    rw [plRun] at h
    cases h1 : plStep now s x with
    | error e => rw [h1] at h; cases h
    | ok s1 =>
      rw [h1] at h
      have := ih s1 s' h
      have hc : s1.ps.length ≤ s.ps.length + 1 ∧ s1.ids.length ≤ s.ids.length + 1 ∧ s1.ks.length ≤ s.ks.length + 1 := by
        rcases plStep_parts now s x with ⟨_, e⟩ | ⟨_, ht, e⟩ | ⟨_, _, _, e⟩ | ⟨hf, ht, he, e⟩
        · rw [e] at h1; cases h1; omega
        · rw [e] at h1; cases h1; simp [plTwin]
        · rw [e] at h1; cases h1
        · rw [e] at h1; cases h1; simp [plAdd]
      rw [List.length_cons]
      omega
/-! every key of the backup that is not over has a twin afterwards -/
theorem twinIs_append (l m : List K) (x : K) (h : twinIs l x = true) : twinIs (l ++ m) x = true := by
  rw [twinIs_iff] at h ⊢
  obtain ⟨y, hy, hp⟩ := h
  exact ⟨y, List.mem_append_left _ hy, hp⟩
theorem plStep_keeps {now : Int} {s s' : PS} {x : K} (h : plStep now s x = .ok s') : ∃ m, s'.ks = s.ks ++ m := by
  rcases plStep_parts now s x with ⟨_, e⟩ | ⟨_, ht, e⟩ | ⟨_, _, _, e⟩ | ⟨hf, ht, he, e⟩
  · rw [e] at h; cases h; exact ⟨[], by simp⟩
  · rw [e] at h; cases h; exact ⟨[], by simp [plTwin]⟩
  · rw [e] at h; cases h
  · rw [e] at h; cases h; exact ⟨_, rfl⟩
theorem plRun_keeps {now : Int} (l : List K) {s s' : PS} (h : plRun now s l = .ok s') : ∃ m, s'.ks = s.ks ++ m :=
  plRun_ind (P := fun t => ∃ m, t.ks = s.ks ++ m) l s s' ⟨[], by simp⟩ (fun a b x _ ha hs => by
    obtain ⟨m, hm⟩ := ha
    obtain ⟨m2, h2⟩ := plStep_keeps hs
    exact ⟨m ++ m2, by rw [h2, hm, List.append_assoc]⟩) h
theorem plStep_twin {now : Int} {s s' : PS} {x : K} (h : plStep now s x = .ok s') (hf : now < x.fin) : twinIs s'.ks x = true := by
  rcases plStep_parts now s x with ⟨h1, e⟩ | ⟨_, ht, e⟩ | ⟨_, _, _, e⟩ | ⟨_, ht, he, e⟩
  · omega
  · rw [e] at h; cases h; exact ht
  · rw [e] at h; cases h
  · rw [e] at h; cases h
    rw [twinIs_iff]
    refine ⟨withId (newK s x) s.nx, List.mem_append_right _ (by simp), ?_⟩
    simp [alikeK, withId, newK, withPar]
theorem plRun_twin {now : Int} (l : List K) : ∀ (s s' : PS), plRun now s l = .ok s' → ∀ x ∈ l, now < x.fin → twinIs s'.ks x = true := by
  induction l with
  | nil => intro s s' _ x hx; simp at hx
  | cons y l ih =>
    intro s s' h x hx hf
    rw [plRun] at h
    cases h1 : plStep now s y with
    | error e => rw [h1] at h; cases h
    | ok s1 =>
      rw [h1] at h
      rcases List.mem_cons.1 hx with rfl | hx
      · obtain ⟨m, hm⟩ := plRun_keeps l h
        rw [hm]
        exact twinIs_append _ _ _ (plStep_twin h1 hf)
      · exact ih s1 s' h x hx hf
theorem holdsK_iff (tl bl : List K) (now : Int) : holdsK tl bl now = true ↔ ∀ x ∈ bl, now < x.fin → twinIs tl x = true := by
  unfold holdsK
  rw [Bool.not_eq_true', List.any_eq_false]
  constructor
  · intro h x hx hf
    have := h x hx
    unfold lacks at this
    rw [decide_eq_true hf] at this
    simpa using this
  · intro h x hx
    unfold lacks
    by_cases hf : now < x.fin
    · rw [h x hx hf]; simp
    · rw [decide_eq_false hf]; simp
/-- a plan over a table that holds the backup adds nothing -/
theorem plRun_again {now : Int} (l : List K) : ∀ (s : PS), (∀ x ∈ l, now < x.fin → twinIs s.ks x = true) → ∃ s', plRun now s l = .ok s' ∧ s'.nx = s.nx ∧ s'.ks = s.ks ∧ s'.ids = s.ids := by
  induction l with
  | nil => intro s _; exact ⟨s, rfl, rfl, rfl, rfl⟩
  | cons x l ih =>
    intro s h
    rw [plRun]
    by_cases hf : now < x.fin
    · have e : plStep now s x = .ok (plTwin s x) := by
        unfold plStep
        rw [if_neg (by omega), if_pos (h x (by simp) hf)]
      rw [e]
      exact ih (plTwin s x) (fun y hy => h y (by simp [hy]))
    · have e : plStep now s x = .ok s := by unfold plStep; rw [if_pos (by omega)]
      rw [e]
      exact ih s (fun y hy => h y (by simp [hy]))
end Go.Proofs.Ytjbndfnhollfnaa
