/- Parts of a proof, joined: contracts of functions of the program and plain lemmas (BakK, KeyO, KeyP, KeyQ, KeyR, KeyS, KeyT, KeyU, KeyV, KeyW, PlanA, KeyX, KeyY, PlanB). No condition. -/
import Derived.Test.YtbpjdfnnlmblaaaGreatDoorMA10
import Derived.ArgAppend
import Derived.Deep.Upon
import Derived.Lib.SliceRun
import Derived.Deep.RegionLaw
import Derived.Deep.AppendLies
import Derived.Deep.RegionLawGrows
import Derived.Deep.Onto
/- A key is read out of an element of the content. -/
namespace Go.Proofs.YtbpjdfnnlmblaaaGreatDoor
open Go.RowKit Go.Shelf
set_option linter.unusedSimpArgs false
set_option linter.unusedVariables false
def zK : K := ⟨0, 0, [], 0, 0, 0, 0, 0, false⟩
/-- the key of numbers and a value -/
def mkK (l : List Int) (v : List UInt8) : K := ⟨l.getD 0 0, l.getD 1 0, v, l.getD 2 0, l.getD 3 0, l.getD 4 0, l.getD 5 0, l.getD 6 0, l.getD 7 0 == 1⟩
/-- the error of a key's numbers -/
def kE2 (p : List UInt8) : Int := if whX decIs p 0 = 0 ∧ decide ((rdV [] decIs p 0).length = 8) = false then 6 else whX decIs p 0
def kN (p : List UInt8) : Int := if kE2 p = 0 ∧ win ((rdV [] decIs p 0).getD 7 0) 0 1 = false then 6 else kE2 p
def kE1 (s : List UInt8) (e : Int) : Int := if whX decSs s e = 0 ∧ decide ((rdV [] decSs s e).length = 2) = false then 6 else whX decSs s e
/-- the error behind a key, the key -/
def keyE (s : List UInt8) (e : Int) : Int := if kE1 s e = 0 then kN ((rdV [] decSs s e).getD 0 []) else kE1 s e
def keyK (s : List UInt8) (e : Int) : K := if keyE s e = 0 then mkK (rdV [] decIs ((rdV [] decSs s e).getD 0 []) 0) ((rdV [] decSs s e).getD 1 []) else zK
theorem zero_key' : (Tryz.prog.info? 45).map (·.zero) = some (some (.agg (kc zK))) := by kernel_rfl
theorem zero_key (w : World) : (zeroValue 45).run Tryz.prog w = .ok (.agg (kc zK)) w := by
  have h := zero_key'
  generalize kc zK = L at h ⊢
  cases hq : Tryz.prog.info? 45 with
  | none => rw [hq] at h; cases h
  | some i =>
    rw [hq] at h
    simp at h
    simp [zeroValue, typeInfo, hq, h]
theorem row_by {x y : World} {g k : Nat} {o : Obj} (h : x.heap[k]? = some o) (hy : x.grownBy y (some g)) (hne : k ≠ g) : y.heap[k]? = some o := by
  rw [hy.block _ (Array.getElem?_eq_some_iff.1 h).1 (fun e => hne (Option.some.inj e))]
  exact h
theorem RV.by {x y : World} {g k : Nat} {T : TypeId} {tl : Option (List UInt8)} {v : Value} {e : Int} (h : RV x k T tl v e) (hy : x.grownBy y (some g)) (hne : k ≠ g) : RV y k T tl v e := row_by h hy hne
/-- a list of one's own behind the writing of an older or a newer block -/
theorem OwnE.byO {α : Type} {E : El α} {x y : World} {base : Nat} {v : Value} {l : List α} {g : Nat} (h : OwnE E x base v l) (hy : x.grownBy y (some g)) (hne : g < base) : OwnE E y base v l :=
  h.grown hy (fun g2 hg2 => by cases hg2; exact h.neOld hne)
theorem grown_otherN {w x y : World} {g g2 : Nat} (h : w.grownBy x (some g)) (hy : x.grownBy y (some g2)) (hge : w.heap.size ≤ g2) : w.grownBy y (some g) :=
  ⟨hy.os.trans h.os, hy.tape.trans h.tape, hy.output.trans h.output, Nat.le_trans h.size hy.size, fun k hk hne => (hy.block k (Nat.lt_of_lt_of_le hk h.size) (fun e => by cases e; omega)).trans (h.block k hk hne)⟩
theorem ld_key0 {ops : Array Oper} {rest : List Oper} {o : Oper} {a : Act} {w : World} {Q : Exit → Act → World → Prop} (k : K) (g : Nat) (T : TypeId) (hg : w.heap[g]? = some (.cells (kc k) T (0, 0)))
    (hgd : o.guard = none) (x : Operand) (ho : o.op = .load 45 x) (hx : a.eval x = .pointer (some ⟨g, 0, none⟩))
    (h : wpList Tryz.prog ops Q rest (a.put o.dst (.agg (kc k))) w) : wpList Tryz.prog ops Q (o :: rest) a w :=
  wpList_load_row hgd _ x ho g hx _ (kc k) (0, 0) _ hg Tryz.underlying45 rfl (by kernel_rfl) h
theorem kc_one (k : K) : (kc k).all (·.oneCell') = true := by
  unfold kc
  simp [Value.oneCell']
theorem st_key0 {ops : Array Oper} {rest : List Oper} {o : Oper} {a : Act} {w : World} {Q : Exit → Act → World → Prop} (k k0 : K) (hgd : o.guard = none) (x y : Operand) (ho : o.op = .store 45 x y)
    (g : Nat) (hx : a.eval x = .pointer (some ⟨g, 0, none⟩)) (hy : a.eval y = .agg (kc k)) (T : TypeId) (hg : w.heap[g]? = some (.cells (kc k0) T (0, 0)))
    (h : wpList Tryz.prog ops Q rest (a.put o.dst undef) (w.setRow g (kc k))) : wpList Tryz.prog ops Q (o :: rest) a w :=
  wpList_store_row hgd _ x y ho g (kc k) hx hy T (kc k0) hg (by kernel_rfl) rfl (kc_one k) h
theorem run_keyrow (w : World) (g : Nat) (k : K) (T : TypeId) (hg : w.heap[g]? = some (.cells (kc k) T (0, 0))) : (loadVar 45 ⟨g, 0, none⟩).run Tryz.prog w = .ok (.agg (kc k)) w :=
  run_loadVar_row w g T 45 (kc k) (0, 0) _ hg Tryz.underlying45 rfl (by kernel_rfl)
theorem q_build {ops : Array Oper} {C : World → Prop} {Q : Act → Prop} {a : Act} {o : Oper} {rest : List Oper} (hw : Region.wanted o (yielded ops a.tmps) = true) (T : TypeId) (parts : Array (Nat × Operand)) (ho : o.op = .build T parts)
    (cs : Array Value) (hb : Tryz.prog.built T (parts.map fun (i, x) => (i, a.eval x)).toList = some cs) (h : wpQuiet Tryz.prog ops C Q rest (a.put o.dst (.agg cs))) : wpQuiet Tryz.prog ops C Q (o :: rest) a := by
  unfold wpQuiet
  rw [if_pos hw]
  refine ⟨.agg cs, fun w' hw' => ?_, h⟩
  unfold Oper.quietAt execOp
  simp only [ho, Sem.run_bind, Sem.run_pure, Result.andThen_ok, run_build w' T _ cs hb]
  exact ⟨rfl, rfl⟩
theorem len_catS (l : List (List UInt8)) (x : List UInt8) (h : x ∈ l) : x.length ≤ (catE encS l).length := by
  induction l with
  | nil => cases h
  | cons y l ih =>
    rw [catE_cons, List.length_append]
    rcases List.mem_cons.1 h with rfl | h
    · unfold encS; rw [List.length_append]; omega
    · have := ih h; omega
theorem rdVL_len (s : List UInt8) (e : Int) (x : List UInt8) (h : x ∈ rdV [] decSs s e) : x.length ≤ s.length := by
  rcases rd_parts [] decSs s e with ⟨_, p3, _⟩ | ⟨_, _, p3, _⟩ | ⟨_, p2, p3, _⟩
  · rw [p3] at h; cases h
  · rw [p3] at h; cases h
  · rw [p3] at h
    have h3 := congrArg List.length (decL_ok codecS s _ _ (show decL decS s = ((decSs s).1, (decSs s).2.1, 0) by rw [← p2]; rfl)).1
    have h4 := len_catS _ x h
    unfold encL at h3
    rw [List.length_append, List.length_append] at h3
    omega
attribute [local irreducible] Calls rc win
set_option maxRecDepth 100000 in
set_option maxHeartbeats 4000000 in
theorem key_c (g : Nat) (T : TypeId) (tl : Option (List UInt8)) (v : Value) (e : Int) (s : List UInt8) (w : World) (h1 : RV w g T tl v e) (hl : s.length ≤ 900000) :
    Calls Tryz.prog 54 #[.pointer (some ⟨g, 0, none⟩), .string ⟨s.toArray⟩] w fun en w' => en = .returned (kv (keyK s e)) ∧ RV w' g T tl v (keyE s e) ∧ w.grownBy w' (some g) := by
  have hz := zero_key
  have HL := Lib.hid hl
  have HGG := Lib.hid h1.lt
  obtain ⟨W0, hW0⟩ : ∃ W0, W0 = w.alloc (.cells (kc zK) 45) := ⟨_, rfl⟩
  have HW := Lib.hid hW0
  have HB0 : Hid (Below w.heap.size w W0) := Lib.hid (by rw [hW0]; exact (Below.refl _ _).alloc (Nat.le_refl _) _)
  have HK0 : Hid (W0.heap[w.heap.size]? = some (.cells (kc zK) 45 (0, 0))) := Lib.hid (by rw [hW0]; exact heap_last _ _ _ rfl)
  have HR0 : Hid (RV W0 g T tl v e) := Lib.hid (h1.on HB0.out)
  have c1 : W0.cell? ⟨g, 1, none⟩ = some (.int .i64 e) := by rw [cell_of_row _ _ _ _ _ _ HR0.out]; exact rc_1 v e tl
  have hcv := conv_sb W0 s
  have HSB := Lib.hid (sb_below W0 s)
  have HSR := Lib.hid (sb_rd W0 s (by unfold maxLen; omega))
  generalize Lib.bytesWorld W0 5 ⟨s.toArray⟩ = ws at hcv HSB HSR
  have c1s : ws.cell? ⟨g, 1, none⟩ = some (.int .i64 e) := by rw [HSB.out.cell (p := ⟨g, 1, none⟩) HR0.out.lt]; exact c1
  generalize hn0 : (Value.slice (some ⟨W0.heap.size, 0, none⟩) s.length (grownCap W0 s.length 0 5)) = vx at hcv HSR
  have HVX := Lib.hid hn0
  rw [← hn0] at hcv
  clear h1 hl hW0 hn0 c1
  go_enter Tryz.func54, Tryz.ntmps54
  go_upto_region 1 with fail
  rw [← HW.out]
  go_upto_region 2 with fail
  have HX1 : Hid (RV (ws.alloc (.cells #[.slice (some ⟨W0.heap.size, 0, none⟩) s.length (grownCap W0 s.length 0 5), .int .i64 e] 66)) ws.heap.size 66 none vx e) := Lib.hid (by unfold RV; rw [rc_none, ← HVX.out]; exact heap_last _ _ _ rfl)
  have HA1 := Lib.hid ((Below.refl ws.heap.size ws).alloc (Nat.le_refl _) (.cells #[.slice (some ⟨W0.heap.size, 0, none⟩) s.length (grownCap W0 s.length 0 5), .int .i64 e] 66))
  have HGX : Hid (w.heap.size < ws.heap.size) := Lib.hid (Nat.lt_of_lt_of_le (Array.getElem?_eq_some_iff.1 HK0.out).1 HSB.out.size)
  generalize ws.alloc (.cells #[.slice (some ⟨W0.heap.size, 0, none⟩) s.length (grownCap W0 s.length 0 5), .int .i64 e] 66) = w1 at HX1 HA1 ⊢
  have HB1 : Hid (Below W0.heap.size W0 w1) := Lib.hid (HSB.out.trans (HA1.out.mono HSB.out.size))
  have HK1 : Hid (w1.heap[w.heap.size]? = some (.cells (kc zK) 45 (0, 0))) := Lib.hid (by rw [HB1.out.block _ (Array.getElem?_eq_some_iff.1 HK0.out).1]; exact HK0.out)
  have HR1 := Lib.hid (HR0.out.on HB1.out)
  have HG1 := Lib.hid (grown_then (grownB g HB0.out) HB1.out)
  have HRX := Lib.hid (HSR.out.on HA1.out)
  generalize hgx : ws.heap.size = gx at HX1 HGX
  clear hcv c1s hgx
  have C2 := Lib.hid (wholeL_c gx 66 none vx s e w1 HX1.out HRX.out HL.out)
  generalize hps : rdV [] decSs s e = ps at C2
  generalize rdR decSs s e = rr at C2
  generalize hpx : whX decSs s e = px at C2
  have EPS := Lib.hid hps
  have EPX := Lib.hid hpx
  have HN : Hid ((((ps.length : Int) == 2) = decide (ps.length = 2))) := Lib.hid (by by_cases h0 : ps.length = 2 <;> simp [h0]; omega)
  generalize he1 : (if px = 0 ∧ decide (ps.length = 2) = false then 6 else px) = e1
  have EE1 := Lib.hid he1
  have HE1 : Hid (kE1 s e = e1) := Lib.hid (by unfold kE1; rw [hps, hpx, he1])
  clear hps hpx he1
  have hgx1 := HX1.out.lt
  have HGX1 := Lib.hid hgx1
  clear hgx1
  go_upto_if 23 with (first
    | (go_at_call 52; refine C2.out.mono ?_; rintro en w2 ⟨x2, v2, rfl, ho2, hr2, hp2, hg2⟩; have HO2 := Lib.hid ho2; have HX2 := Lib.hid hr2; have HG12 := Lib.hid hg2; obtain ⟨pa, pc2, rfl, _, _, _⟩ := ho2.rd; clear hr2 hp2 hg2 ho2)
    | (go_at_call 55; rw [HN.out]; refine (check_x gx _ none _ px (decide (ps.length = 2)) 6 _ HX2.out).mono ?_; rintro en w3 ⟨rfl, hw3⟩; have HG23 := Lib.hid (check_gr hw3); have HX3 := Lib.hid (check_rv HX2.out hw3); rw [EE1.out] at HX3; clear hw3; rw [EE1.out]))
  have HG13 := Lib.hid (grown_trans HG12.out HG23.out)
  have HK3 := Lib.hid (row_by HK1.out HG13.out (by have := HGX.out; omega))
  have HR3 := Lib.hid (HR1.out.by HG13.out (by have := HGX.out; have := HGG.out; omega))
  have HG3 := Lib.hid (grown_otherN HG1.out HG13.out (by have := HGX.out; omega))
  have HO3 := Lib.hid (HO2.out.byO HG23.out HGX1.out)
  by_cases h10 : e1 = 0
  · subst h10
    have hl2 : ps.length = 2 := by
      have h := EE1.out
      split at h
      · cases h
      · rename_i hn
        exact Decidable.of_not_not (fun h4 => hn ⟨h, decide_eq_false h4⟩)
    obtain ⟨p0, p1, rfl⟩ : ∃ p0 p1, ps = [p0, p1] := by
      match ps, hl2 with
      | [p0, p1], _ => exact ⟨p0, p1, rfl⟩
    have HPL : Hid (p0.length ≤ 900000) := Lib.hid (Nat.le_trans (rdVL_len s e p0 (by rw [EPS.out]; simp)) HL.out)
    obtain ⟨bp, op, rfl, hbp, hrow⟩ := RdS_cells HO3.out.rd (by simp)
    have y0 := hrow 0 (by simp)
    rw [Nat.add_zero] at y0
    simp only [List.getElem_cons_zero] at y0
    have hcv3 := conv_sb w3 p0
    have HSB3 := Lib.hid (sb_below w3 p0)
    have HSR3 := Lib.hid (sb_rd w3 p0 (by have := HPL.out; unfold maxLen; omega))
    generalize Lib.bytesWorld w3 5 ⟨p0.toArray⟩ = ws3 at hcv3 HSB3 HSR3
    generalize hn3 : (Value.slice (some ⟨w3.heap.size, 0, none⟩) p0.length (grownCap w3 p0.length 0 5)) = vn at HSR3
    have HVN := Lib.hid hn3
    clear hrow hl2 hn3
    go_upto_region 5 with fail
    have HN4 : Hid (RV (ws3.alloc (.cells #[.slice (some ⟨w3.heap.size, 0, none⟩) p0.length (grownCap w3 p0.length 0 5), .int .i64 0] 66)) ws3.heap.size 66 none vn 0) := Lib.hid (by unfold RV; rw [rc_none, ← HVN.out]; exact heap_last _ _ _ rfl)
    have HA4 := Lib.hid ((Below.refl ws3.heap.size ws3).alloc (Nat.le_refl _) (.cells #[.slice (some ⟨w3.heap.size, 0, none⟩) p0.length (grownCap w3 p0.length 0 5), .int .i64 0] 66))
    have HGN : Hid (w3.heap.size ≤ ws3.heap.size) := Lib.hid HSB3.out.size
    generalize ws3.alloc (.cells #[.slice (some ⟨w3.heap.size, 0, none⟩) p0.length (grownCap w3 p0.length 0 5), .int .i64 0] 66) = w4 at HN4 HA4 ⊢
    have HB34 : Hid (Below w3.heap.size w3 w4) := Lib.hid (HSB3.out.trans (HA4.out.mono HSB3.out.size))
    have HK4 : Hid (w4.heap[w.heap.size]? = some (.cells (kc zK) 45 (0, 0))) := Lib.hid (by rw [HB34.out.block _ (Array.getElem?_eq_some_iff.1 HK3.out).1]; exact HK3.out)
    have HR4 := Lib.hid (HR3.out.on HB34.out)
    have HX4 := Lib.hid (HX3.out.on HB34.out)
    have HG4 := Lib.hid (grown_then HG3.out HB34.out)
    have HRN := Lib.hid (HSR3.out.on HA4.out)
    have HO4 := Lib.hid (HO3.out.on HB34.out)
    have HGXN : Hid (gx < ws3.heap.size) := Lib.hid (Nat.lt_of_lt_of_le HX3.out.lt HSB3.out.size)
    have HPN : Hid (bp < ws3.heap.size) := Lib.hid (Nat.lt_of_lt_of_le hbp HSB3.out.size)
    have HPO : Hid (w1.heap.size ≤ bp) := Lib.hid (HO3.out.lt bp rfl).1
    generalize hgn : ws3.heap.size = gn at HN4 HGN HGXN HPN
    clear hcv3 y0 hbp hgn
    have C5 := Lib.hid (wholeI_c gn 66 none vn p0 0 w4 HN4.out HRN.out HPL.out)
    generalize hls : rdV [] decIs p0 0 = l at C5
    generalize rdR decIs p0 0 = rr5 at C5
    generalize hnx : whX decIs p0 0 = nx at C5
    have ELS := Lib.hid hls
    have ENX := Lib.hid hnx
    have HN8 : Hid ((((l.length : Int) == 8) = decide (l.length = 8))) := Lib.hid (by by_cases h0 : l.length = 8 <;> simp [h0]; omega)
    generalize he2 : (if nx = 0 ∧ decide (l.length = 8) = false then 6 else nx) = e2
    have EE2 := Lib.hid he2
    have HE2 : Hid (kE2 p0 = e2) := Lib.hid (by unfold kE2; rw [hls, hnx, he2])
    clear hls hnx he2
    have HGN4 : Hid (gn < w4.heap.size) := Lib.hid HN4.out.lt
    go_upto_region 6 with (go_at_call 91; refine C5.out.mono ?_; rintro en w5 ⟨x5, v5, rfl, ho5, hr5, hp5, hg5⟩; have HO5 := Lib.hid ho5; have HN5 := Lib.hid hr5; have HG45 := Lib.hid hg5; obtain ⟨la, lc, rfl, _, _, _⟩ := ho5.rd; clear hr5 hp5 hg5 ho5)
    have HK5 := Lib.hid (row_by HK4.out HG45.out (by have := HGX.out; have := HGXN.out; omega))
    have HR5 := Lib.hid (HR4.out.by HG45.out (by have := HGX.out; have := HGG.out; have := HGXN.out; omega))
    have HX5 := Lib.hid (HX4.out.by HG45.out (by have := HGXN.out; omega))
    have HG5 := Lib.hid (grown_otherN HG4.out HG45.out (by have := HGX.out; have := HGXN.out; omega))
    have HO45 := Lib.hid (HO4.out.grown HG45.out (fun g2 hg2 => by cases hg2; intro e9; have e10 : bp = gn := Option.some.inj e9; have := HPN.out; omega))
    by_cases h20 : e2 = 0
    · subst h20
      have hl8 : l.length = 8 := by
        have h := EE2.out
        split at h
        · cases h
        · rename_i hn
          exact Decidable.of_not_not (fun h4 => hn ⟨h, decide_eq_false h4⟩)
      have HL8 := Lib.hid hl8
      obtain ⟨bl, ol, rfl, hbl, hrow⟩ := RdI_cells HO5.out.rd (by omega)
      have hbl4 : w4.heap.size ≤ bl := (HO5.out.lt bl rfl).1
      have HBL4 := Lib.hid hbl4
      have HROW : Hid (∀ y, w5.grownBy y (some gn) → ∀ j (hj : j < l.length), y.cell? ⟨bl, ol + j, none⟩ = some (.int .i64 l[j])) := Lib.hid (by
        intro y hy j hj
        rw [World.cell?_of_block (a := ⟨bl, ol + j, none⟩) (hy.block bl hbl (fun e => by have e2 := Option.some.inj e; have := HGN4.out; omega))]
        exact hrow j hj)
      have i7n : 7 < l.length := by omega
      have i7 : (7 : Int) < l.length := by omega
      obtain ⟨m7, hm7⟩ : ∃ m, m = l[7] := ⟨_, rfl⟩
      have HM7 := Lib.hid hm7
      have HD7 : Hid (l.getD 7 0 = m7) := Lib.hid (by rw [hm7, List.getD_eq_getElem?_getD, List.getElem?_eq_getElem i7n]; rfl)
      clear hm7
      generalize he3 : (if (0 : Int) = 0 ∧ win m7 0 1 = false then (6 : Int) else 0) = e3
      have EE3 := Lib.hid he3
      have HE3 : Hid (keyE s e = e3) := Lib.hid (by unfold keyE; rw [HE1.out, if_pos rfl, EPS.out]; show kN p0 = e3; unfold kN; rw [HE2.out, ELS.out, HD7.out]; exact he3)
      clear hrow hl8 hbl4 hbl he3
      generalize hwn : win m7 0 1 = wn at EE3
      have HWN : Hid ([m7].all (fun n => win n 0 1) = wn) := Lib.hid (by rw [← hwn]; simp)
      clear hwn
      go_upto_if 45 with (first
        | (go_at_call 55; rw [HN8.out]; refine (check_x gn _ none _ nx (decide (l.length = 8)) 6 _ HN5.out).mono ?_; rintro en w6 ⟨rfl, hw6⟩; have HG56 := Lib.hid (check_gr hw6); have HN6 := Lib.hid (check_rv HN5.out hw6); rw [EE2.out] at HN6; have y7 := (HROW.out w6 HG56.out 7 (by have := HL8.out; omega)); rw [← HM7.out] at y7; clear hw6; rw [EE2.out])
        | (go_at_call 36; refine (within_b 1 _ [m7] _ (bi1 _ m7)).mono ?_; rw [HWN.out]; rintro en w7 ⟨rfl, hb7⟩; have HB67 := Lib.hid (((Below.refl w6.heap.size w6).alloc (Nat.le_refl _) (.cells #[.int .i64 m7] 3)).trans (hb7.mono (by simp))); have HN7 := Lib.hid (HN6.out.on HB67.out); clear hb7 y7)
        | (go_at_call 55; refine (check_x gn _ none _ 0 wn 6 _ HN7.out).mono ?_; rintro en w8 ⟨rfl, hw8⟩; have HG78 := Lib.hid (check_gr hw8); have hif : (if (0 : Int) = 0 ∧ wn = false then (6 : Int) else 0) = e3 := (by have h2 := EE3.out; simpa using h2); have HN8' := Lib.hid (check_rv HN7.out hw8); rw [hif] at HN8'; clear hw8; rw [hif]; clear hif))

      have HK6 := Lib.hid (row_by HK5.out HG56.out (by have := HGX.out; have := HGXN.out; omega))
      have HR6 := Lib.hid (HR5.out.by HG56.out (by have := HGX.out; have := HGG.out; have := HGXN.out; omega))
      have HX6 := Lib.hid (HX5.out.by HG56.out (by have := HGXN.out; omega))
      have HG6 := Lib.hid (grown_otherN HG5.out HG56.out (by have := HGX.out; have := HGXN.out; omega))

      have HG58 : Hid (w5.grownBy w8 (some gn)) := Lib.hid (grown_trans (grown_then HG56.out HB67.out) HG78.out)
      have HK8 := Lib.hid (row_by HK5.out HG58.out (by have := HGX.out; have := HGXN.out; omega))
      have HR8 := Lib.hid (HR5.out.by HG58.out (by have := HGX.out; have := HGG.out; have := HGXN.out; omega))
      have HX8 := Lib.hid (HX5.out.by HG58.out (by have := HGXN.out; omega))
      have HG8 := Lib.hid (grown_otherN HG5.out HG58.out (by have := HGX.out; have := HGXN.out; omega))
      clear HN8
      have HN8 := HN8'
      clear HN8' HK6 HR6 HX6 HG6
      by_cases h30 : e3 = 0
      · obtain ⟨m0, m1, m2, m3, m4, m5, m6, n7, rfl⟩ : ∃ m0 m1 m2 m3 m4 m5 m6 m7, l = [m0, m1, m2, m3, m4, m5, m6, m7] := by
          have h8 := HL8.out
          match l, h8 with
          | [m0, m1, m2, m3, m4, m5, m6, m7], _ => exact ⟨m0, m1, m2, m3, m4, m5, m6, m7, rfl⟩
        obtain rfl : m7 = n7 := HM7.out
        subst h30
        have HP8 : Hid (OwnE eS w8 w1.heap.size (.slice (some ⟨bp, op, none⟩) [p0, p1].length pc2) [p0, p1]) := Lib.hid (HO45.out.grown HG58.out (fun g2 hg2 => by cases hg2; intro e9; have e10 : bp = gn := Option.some.inj e9; have := HPN.out; omega))
        have HKE : Hid (keyK s e = mkK [m0, m1, m2, m3, m4, m5, m6, m7] p1) := Lib.hid (by unfold keyK; rw [HE3.out, if_pos rfl, EPS.out]; show mkK (rdV [] decIs p0 0) p1 = _; rw [ELS.out])
        have HMK : Hid (kc (mkK [m0, m1, m2, m3, m4, m5, m6, m7] p1) = #[.int .i64 m0, .int .i64 m1, .string ⟨p1.toArray⟩, .int .i64 m2, .int .i64 m3, .int .i64 m4, .int .i64 m5, .int .i64 m6, .bool (m7 == 1)]) := Lib.hid rfl
        generalize mkK [m0, m1, m2, m3, m4, m5, m6, m7] p1 = km at HKE HMK
        have q0 := HROW.out w8 HG58.out 0 (by simp)
        have q1 := HROW.out w8 HG58.out 1 (by simp)
        have q2 := HROW.out w8 HG58.out 2 (by simp)
        have q3 := HROW.out w8 HG58.out 3 (by simp)
        have q4 := HROW.out w8 HG58.out 4 (by simp)
        have q5 := HROW.out w8 HG58.out 5 (by simp)
        have q6 := HROW.out w8 HG58.out 6 (by simp)
        have q7 := HROW.out w8 HG58.out 7 (by simp)
        obtain ⟨bp2, op2, hbe, _, hrow2⟩ := RdS_cells HP8.out.rd (by simp)
        cases hbe
        have q8 := hrow2 1 (by simp)
        simp only [List.getElem_cons_zero, List.getElem_cons_succ] at q0 q1 q2 q3 q4 q5 q6 q7 q8
        rw [Nat.add_zero] at q0
        clear hrow2
        go_upto_region 7 with fail
        try dsimp only [Act.put]
        refine tail0 29 (by kernel_rfl) (by kernel_rfl) ?_
        simp only [List.take_succ_cons, List.take_zero, List.drop_succ_cons, List.drop_zero]
        repeat (first
          | (refine q_build rfl 45 #[(0, .tmp 48), (1, .tmp 51), (2, .tmp 54), (3, .tmp 57), (4, .tmp 60), (5, .tmp 63), (6, .tmp 66), (7, .tmp 69), (8, .tmp 73)] rfl (kc km) (by rw [HMK.out]; kernel_rfl) ?_; simp only [Act.put, List.setIfInBounds_toArray, List.set_cons_zero, List.set_cons_succ])
          | go_big_quiet_step (fail))
        refine wpQuiet_nil ?_
        rintro _ ⟨nq, rfl⟩
        have HK8n : Hid ((w8.drewN nq).heap[w.heap.size]? = some (.cells (kc zK) 45 (0, 0))) := Lib.hid HK8.out
        go_upto_region 8 with (refine st_key0 km zK rfl (.tmp 4) (.tmp 74) rfl w.heap.size rfl rfl _ HK8n.out ?_)
        have HKc : Hid (((w8.drewN nq).setRow w.heap.size (kc km)).heap[w.heap.size]? = some (.cells (kc km) 45 (0, 0))) := Lib.hid (setRow_heap _ _ _ _ _ _ HK8n.out)
        have HNc : Hid (RV ((w8.drewN nq).setRow w.heap.size (kc km)) gn 66 none v5 0) := Lib.hid (RV.by (x := w8.drewN nq) HN8.out (grown_setRow _ _ _) (by have := HGX.out; have := HGXN.out; omega))
        have HXc : Hid (RV ((w8.drewN nq).setRow w.heap.size (kc km)) gx 66 none v2 0) := Lib.hid (RV.by (x := w8.drewN nq) HX8.out (grown_setRow _ _ _) (by have := HGX.out; omega))
        have HRc : Hid (RV ((w8.drewN nq).setRow w.heap.size (kc km)) g T tl v e) := Lib.hid (RV.by (x := w8.drewN nq) HR8.out (grown_setRow _ _ _) (by have := HGG.out; omega))
        have HGc : Hid (w.grownBy ((w8.drewN nq).setRow w.heap.size (kc km)) (some g)) := Lib.hid (grown_new _ (w1 := w8.drewN nq) (grown_then HG8.out (below_drewN nq (Below.refl _ _))) (Nat.le_refl _))
        clear q0 q1 q2 q3 q4 q5 q6 q7 q8
        generalize (w8.drewN nq).setRow w.heap.size (kc km) = wc at HKc HNc HXc HRc HGc ⊢

        have s1 : wc.cell? ⟨gn, 1, none⟩ = some (.int .i64 0) := by rw [cell_of_row _ _ _ _ _ _ HNc.out]; exact rc_1 _ 0 none
        have s2 : wc.cell? ⟨gx, 1, none⟩ = some (.int .i64 0) := by rw [cell_of_row _ _ _ _ _ _ HXc.out]; exact rc_1 _ 0 none
        have s3 := frozen_of_row _ _ 1 _ _ HXc.out
        have HWS : Hid (wc.setCell ⟨gx, 1, none⟩ (.int .i64 0) = wc.setRow gx (rc v2 0 none)) := Lib.hid (by rw [setCell_rowC _ _ _ _ _ _ _ HXc.out, rc_set1])
        go_upto_region 9 with fail
        rw [HWS.out]
        have HX9 : Hid (RV (wc.setRow gx (rc v2 0 none)) gx 66 none v2 0) := Lib.hid (setRow_heap _ _ _ _ _ _ HXc.out)
        have HR9 : Hid (RV (wc.setRow gx (rc v2 0 none)) g T tl v e) := Lib.hid (HRc.out.by (grown_setRow _ _ _) (by have := HGX.out; have := HGG.out; omega))
        have HK9 : Hid ((wc.setRow gx (rc v2 0 none)).heap[w.heap.size]? = some (.cells (kc km) 45 (0, 0))) := Lib.hid (row_by HKc.out (grown_setRow _ _ _) (by have := HGX.out; omega))
        have HG9 : Hid (w.grownBy (wc.setRow gx (rc v2 0 none)) (some g)) := Lib.hid (grown_otherN HGc.out (grown_setRow _ gx _) (by have := HGX.out; omega))
        clear s1 s2 s3
        generalize wc.setRow gx (rc v2 0 none) = w9 at HX9 HR9 HK9 HG9 ⊢

        have t1 : w9.cell? ⟨gx, 1, none⟩ = some (.int .i64 0) := by rw [cell_of_row _ _ _ _ _ _ HX9.out]; exact rc_1 _ 0 none
        have t2 : w9.cell? ⟨g, 1, none⟩ = some (.int .i64 e) := by rw [cell_of_row _ _ _ _ _ _ HR9.out]; exact rc_1 v e tl
        have t3 := frozen_of_row _ _ 1 _ _ HR9.out
        have HWT : Hid (w9.setCell ⟨g, 1, none⟩ (.int .i64 0) = w9.setRow g (rc v 0 tl)) := Lib.hid (by rw [setCell_rowC _ _ _ _ _ _ _ HR9.out, rc_set1])
        go_upto_region 10 with fail
        rw [HWT.out]
        have HRT : Hid (RV (w9.setRow g (rc v 0 tl)) g T tl v 0) := Lib.hid (setRow_heap _ _ _ _ _ _ HR9.out)
        have HKT : Hid ((w9.setRow g (rc v 0 tl)).heap[w.heap.size]? = some (.cells (kc km) 45 (0, 0))) := Lib.hid (by rw [setRow_else _ _ _ _ (by have := HGG.out; omega)]; exact HK9.out)
        have HGT : Hid (w.grownBy (w9.setRow g (rc v 0 tl)) (some g)) := Lib.hid (grown_trans HG9.out (grown_setRow _ _ _))
        clear t1 t2 t3
        generalize w9.setRow g (rc v 0 tl) = wt at HRT HKT HGT ⊢
        go_wp2_with (first
          | (refine ld_key0 km w.heap.size _ HKT.out rfl (.tmp 4) rfl rfl ?_)
          | (refine st_key0 km km rfl (.tmp 4) (.tmp 89) rfl w.heap.size rfl rfl _ HKT.out ?_))
        refine bodyPost_ret (results_row1 rfl _ _ w.heap.size _ rfl (run_keyrow _ _ km _ (setRow_heap _ _ _ _ _ _ HKT.out))) rfl ?_
        have HKR := HKE.out
        have HER := HE3.out
        refine ⟨by rw [HKR]; rfl, ?_, grown_new _ HGT.out (Nat.le_refl _)⟩
        rw [HER]
        unfold RV
        rw [setRow_else _ _ _ _ (by have := HGG.out; omega)]
        exact HRT.out
      · have HKE : Hid (keyK s e = zK) := Lib.hid (by unfold keyK; rw [HE3.out, if_neg h30])
        have HEE := HE3
        go_upto_region 8 with fail

        have s1 : w8.cell? ⟨gn, 1, none⟩ = some (.int .i64 e3) := by rw [cell_of_row _ _ _ _ _ _ HN8.out]; exact rc_1 _ e3 none
        have s2 : w8.cell? ⟨gx, 1, none⟩ = some (.int .i64 0) := by rw [cell_of_row _ _ _ _ _ _ HX8.out]; exact rc_1 _ 0 none
        have s3 := frozen_of_row _ _ 1 _ _ HX8.out
        have HWS : Hid (w8.setCell ⟨gx, 1, none⟩ (.int .i64 e3) = w8.setRow gx (rc v2 e3 none)) := Lib.hid (by rw [setCell_rowC _ _ _ _ _ _ _ HX8.out, rc_set1])
        go_upto_region 9 with fail
        rw [HWS.out]
        have HX9 : Hid (RV (w8.setRow gx (rc v2 e3 none)) gx 66 none v2 e3) := Lib.hid (setRow_heap _ _ _ _ _ _ HX8.out)
        have HR9 : Hid (RV (w8.setRow gx (rc v2 e3 none)) g T tl v e) := Lib.hid (HR8.out.by (grown_setRow _ _ _) (by have := HGX.out; have := HGG.out; omega))
        have HK9 : Hid ((w8.setRow gx (rc v2 e3 none)).heap[w.heap.size]? = some (.cells (kc zK) 45 (0, 0))) := Lib.hid (row_by HK8.out (grown_setRow _ _ _) (by have := HGX.out; omega))
        have HG9 : Hid (w.grownBy (w8.setRow gx (rc v2 e3 none)) (some g)) := Lib.hid (grown_otherN HG8.out (grown_setRow _ gx _) (by have := HGX.out; omega))
        clear s1 s2 s3
        generalize w8.setRow gx (rc v2 e3 none) = w9 at HX9 HR9 HK9 HG9 ⊢

        have t1 : w9.cell? ⟨gx, 1, none⟩ = some (.int .i64 e3) := by rw [cell_of_row _ _ _ _ _ _ HX9.out]; exact rc_1 _ e3 none
        have t2 : w9.cell? ⟨g, 1, none⟩ = some (.int .i64 e) := by rw [cell_of_row _ _ _ _ _ _ HR9.out]; exact rc_1 v e tl
        have t3 := frozen_of_row _ _ 1 _ _ HR9.out
        have HWT : Hid (w9.setCell ⟨g, 1, none⟩ (.int .i64 e3) = w9.setRow g (rc v e3 tl)) := Lib.hid (by rw [setCell_rowC _ _ _ _ _ _ _ HR9.out, rc_set1])
        go_upto_region 10 with fail
        rw [HWT.out]
        have HRT : Hid (RV (w9.setRow g (rc v e3 tl)) g T tl v e3) := Lib.hid (setRow_heap _ _ _ _ _ _ HR9.out)
        have HKT : Hid ((w9.setRow g (rc v e3 tl)).heap[w.heap.size]? = some (.cells (kc zK) 45 (0, 0))) := Lib.hid (by rw [setRow_else _ _ _ _ (by have := HGG.out; omega)]; exact HK9.out)
        have HGT : Hid (w.grownBy (w9.setRow g (rc v e3 tl)) (some g)) := Lib.hid (grown_trans HG9.out (grown_setRow _ _ _))
        clear t1 t2 t3
        generalize w9.setRow g (rc v e3 tl) = wt at HRT HKT HGT ⊢
        go_wp2_with (first
          | (refine ld_key0 zK w.heap.size _ HKT.out rfl (.tmp 4) rfl rfl ?_)
          | (refine st_key0 zK zK rfl (.tmp 4) (.tmp 89) rfl w.heap.size rfl rfl _ HKT.out ?_))
        refine bodyPost_ret (results_row1 rfl _ _ w.heap.size _ rfl (run_keyrow _ _ zK _ (setRow_heap _ _ _ _ _ _ HKT.out))) rfl ?_
        have HKR := HKE.out
        have HER := HEE.out
        refine ⟨by rw [HKR]; rfl, ?_, grown_new _ HGT.out (Nat.le_refl _)⟩
        rw [HER]
        unfold RV
        rw [setRow_else _ _ _ _ (by have := HGG.out; omega)]
        exact HRT.out
    · go_upto_region 8 with (go_at_call 55; rw [HN8.out]; refine (check_x gn _ none _ nx (decide (l.length = 8)) 6 _ HN5.out).mono ?_; rintro en w6 ⟨rfl, hw6⟩; have HG56 := Lib.hid (check_gr hw6); have HN6 := Lib.hid (check_rv HN5.out hw6); rw [EE2.out] at HN6; clear hw6; rw [EE2.out])
      have HK6 := Lib.hid (row_by HK5.out HG56.out (by have := HGX.out; have := HGXN.out; omega))
      have HR6 := Lib.hid (HR5.out.by HG56.out (by have := HGX.out; have := HGG.out; have := HGXN.out; omega))
      have HX6 := Lib.hid (HX5.out.by HG56.out (by have := HGXN.out; omega))
      have HG6 := Lib.hid (grown_otherN HG5.out HG56.out (by have := HGX.out; have := HGXN.out; omega))

      have HEE : Hid (keyE s e = e2) := Lib.hid (by unfold keyE; rw [HE1.out, if_pos rfl, EPS.out]; show kN p0 = e2; unfold kN; rw [HE2.out, if_neg (fun h => h20 h.1)])
      have HKE : Hid (keyK s e = zK) := Lib.hid (by unfold keyK; rw [HEE.out, if_neg h20])

      have s1 : w6.cell? ⟨gn, 1, none⟩ = some (.int .i64 e2) := by rw [cell_of_row _ _ _ _ _ _ HN6.out]; exact rc_1 _ e2 none
      have s2 : w6.cell? ⟨gx, 1, none⟩ = some (.int .i64 0) := by rw [cell_of_row _ _ _ _ _ _ HX6.out]; exact rc_1 _ 0 none
      have s3 := frozen_of_row _ _ 1 _ _ HX6.out
      have HWS : Hid (w6.setCell ⟨gx, 1, none⟩ (.int .i64 e2) = w6.setRow gx (rc v2 e2 none)) := Lib.hid (by rw [setCell_rowC _ _ _ _ _ _ _ HX6.out, rc_set1])
      go_upto_region 9 with fail
      rw [HWS.out]
      have HX9 : Hid (RV (w6.setRow gx (rc v2 e2 none)) gx 66 none v2 e2) := Lib.hid (setRow_heap _ _ _ _ _ _ HX6.out)
      have HR9 : Hid (RV (w6.setRow gx (rc v2 e2 none)) g T tl v e) := Lib.hid (HR6.out.by (grown_setRow _ _ _) (by have := HGX.out; have := HGG.out; omega))
      have HK9 : Hid ((w6.setRow gx (rc v2 e2 none)).heap[w.heap.size]? = some (.cells (kc zK) 45 (0, 0))) := Lib.hid (row_by HK6.out (grown_setRow _ _ _) (by have := HGX.out; omega))
      have HG9 : Hid (w.grownBy (w6.setRow gx (rc v2 e2 none)) (some g)) := Lib.hid (grown_otherN HG6.out (grown_setRow _ gx _) (by have := HGX.out; omega))
      clear s1 s2 s3
      generalize w6.setRow gx (rc v2 e2 none) = w9 at HX9 HR9 HK9 HG9 ⊢

      have t1 : w9.cell? ⟨gx, 1, none⟩ = some (.int .i64 e2) := by rw [cell_of_row _ _ _ _ _ _ HX9.out]; exact rc_1 _ e2 none
      have t2 : w9.cell? ⟨g, 1, none⟩ = some (.int .i64 e) := by rw [cell_of_row _ _ _ _ _ _ HR9.out]; exact rc_1 v e tl
      have t3 := frozen_of_row _ _ 1 _ _ HR9.out
      have HWT : Hid (w9.setCell ⟨g, 1, none⟩ (.int .i64 e2) = w9.setRow g (rc v e2 tl)) := Lib.hid (by rw [setCell_rowC _ _ _ _ _ _ _ HR9.out, rc_set1])
      go_upto_region 10 with fail
      rw [HWT.out]
      have HRT : Hid (RV (w9.setRow g (rc v e2 tl)) g T tl v e2) := Lib.hid (setRow_heap _ _ _ _ _ _ HR9.out)
      have HKT : Hid ((w9.setRow g (rc v e2 tl)).heap[w.heap.size]? = some (.cells (kc zK) 45 (0, 0))) := Lib.hid (by rw [setRow_else _ _ _ _ (by have := HGG.out; omega)]; exact HK9.out)
      have HGT : Hid (w.grownBy (w9.setRow g (rc v e2 tl)) (some g)) := Lib.hid (grown_trans HG9.out (grown_setRow _ _ _))
      clear t1 t2 t3
      generalize w9.setRow g (rc v e2 tl) = wt at HRT HKT HGT ⊢
      go_wp2_with (first
        | (refine ld_key0 zK w.heap.size _ HKT.out rfl (.tmp 4) rfl rfl ?_)
        | (refine st_key0 zK zK rfl (.tmp 4) (.tmp 89) rfl w.heap.size rfl rfl _ HKT.out ?_))
      refine bodyPost_ret (results_row1 rfl _ _ w.heap.size _ rfl (run_keyrow _ _ zK _ (setRow_heap _ _ _ _ _ _ HKT.out))) rfl ?_
      have HKR := HKE.out
      have HER := HEE.out
      refine ⟨by rw [HKR]; rfl, ?_, grown_new _ HGT.out (Nat.le_refl _)⟩
      rw [HER]
      unfold RV
      rw [setRow_else _ _ _ _ (by have := HGG.out; omega)]
      exact HRT.out
  · have HEE : Hid (keyE s e = e1) := Lib.hid (by unfold keyE; rw [HE1.out, if_neg h10])
    have HKE : Hid (keyK s e = zK) := Lib.hid (by unfold keyK; rw [HEE.out, if_neg h10])

    have t1 : w3.cell? ⟨gx, 1, none⟩ = some (.int .i64 e1) := by rw [cell_of_row _ _ _ _ _ _ HX3.out]; exact rc_1 _ e1 none
    have t2 : w3.cell? ⟨g, 1, none⟩ = some (.int .i64 e) := by rw [cell_of_row _ _ _ _ _ _ HR3.out]; exact rc_1 v e tl
    have t3 := frozen_of_row _ _ 1 _ _ HR3.out
    have HWT : Hid (w3.setCell ⟨g, 1, none⟩ (.int .i64 e1) = w3.setRow g (rc v e1 tl)) := Lib.hid (by rw [setCell_rowC _ _ _ _ _ _ _ HR3.out, rc_set1])
    go_upto_region 10 with fail
    rw [HWT.out]
    have HRT : Hid (RV (w3.setRow g (rc v e1 tl)) g T tl v e1) := Lib.hid (setRow_heap _ _ _ _ _ _ HR3.out)
    have HKT : Hid ((w3.setRow g (rc v e1 tl)).heap[w.heap.size]? = some (.cells (kc zK) 45 (0, 0))) := Lib.hid (by rw [setRow_else _ _ _ _ (by have := HGG.out; omega)]; exact HK3.out)
    have HGT : Hid (w.grownBy (w3.setRow g (rc v e1 tl)) (some g)) := Lib.hid (grown_trans HG3.out (grown_setRow _ _ _))
    clear t1 t2 t3
    generalize w3.setRow g (rc v e1 tl) = wt at HRT HKT HGT ⊢
    go_wp2_with (first
      | (refine ld_key0 zK w.heap.size _ HKT.out rfl (.tmp 4) rfl rfl ?_)
      | (refine st_key0 zK zK rfl (.tmp 4) (.tmp 89) rfl w.heap.size rfl rfl _ HKT.out ?_))
    refine bodyPost_ret (results_row1 rfl _ _ w.heap.size _ rfl (run_keyrow _ _ zK _ (setRow_heap _ _ _ _ _ _ HKT.out))) rfl ?_
    have HKR := HKE.out
    have HER := HEE.out
    refine ⟨by rw [HKR]; rfl, ?_, grown_new _ HGT.out (Nat.le_refl _)⟩
    rw [HER]
    unfold RV
    rw [setRow_else _ _ _ _ (by have := HGG.out; omega)]
    exact HRT.out
end Go.Proofs.YtbpjdfnnlmblaaaGreatDoor
/- The program's Admit. -/
namespace Go.Proofs.YtbpjdfnnlmblaaaGreatDoor
open Go.RowKit Go.Shelf
set_option linter.unusedSimpArgs false
set_option linter.unusedVariables false
theorem part_dg (cs : Array Value) (off : Nat) (w : World) : (part 23 cs off).run Tryz.prog w = .ok (.agg (cs.extract off (off + 16))) w := by
  have h1 : (isAgg 23).run Tryz.prog w = .ok true w := by simp [isAgg, run_underlying Tryz.underlying23]
  have h2 : (sizeOf 23).run Tryz.prog w = .ok 16 w := by
    cases hq : Tryz.prog.info? 23 with
    | none => have := info_d; rw [hq] at this; cases this
    | some i => have h1 := info_d; rw [hq] at h1; simp at h1; simp [sizeOf, typeInfo, hq, h1]
  simp [part, h1, h2]
theorem part_in (cs : Array Value) (off : Nat) (v : Value) (h : cs[off]? = some v) (w : World) : (part 3 cs off).run Tryz.prog w = .ok v w := by
  have h1 : (isAgg 3).run Tryz.prog w = .ok false w := by simp [isAgg, run_underlying Tryz.underlying3]
  simp [part, h1, h]
def pEq (p q : PK) : Bool := dEq p.dom q.dom && (dEq p.pol q.pol && ((p.fw == q.fw) && (p.num == q.num)))
theorem ex_dom (p : PK) : (pc p).extract 0 (0 + 16) = drow p.dom := rfl
theorem ex_pol (p : PK) : (pc p).extract 16 (16 + 16) = drow p.pol := rfl
theorem eqf_step (d : Nat) (xs ys : Array Value) (f : Field) (fs : List Field) (hn : f.name ≠ "_") (w : World) (a b : Value) (r : Bool) (h1 : (part f.type xs f.offset).run Tryz.prog w = .ok a w) (h2 : (part f.type ys f.offset).run Tryz.prog w = .ok b w)
    (h3 : (Op.equalIn d f.type a b).run Tryz.prog w = .ok r w) : (Op.eqFields d xs ys (f :: fs)).run Tryz.prog w = if r = true then (Op.eqFields d xs ys fs).run Tryz.prog w else .ok false w := by
  simp only [Op.eqFields, hn, ne_eq, not_false_eq_true, if_true, Sem.run_bind, h1, h2, h3, Result.andThen_ok]
  cases r <;> rfl
end Go.Proofs.YtbpjdfnnlmblaaaGreatDoor
/- The program's Admit. -/
namespace Go.Proofs.YtbpjdfnnlmblaaaGreatDoor
open Go.RowKit Go.Shelf
set_option linter.unusedSimpArgs false
set_option linter.unusedVariables false
theorem pc_size (p : PK) : (pc p).size = 34 := rfl
theorem dEq_comm (x y : List UInt8) : dEq x y = dEq y x := by
  unfold dEq
  congr 1
  funext i
  exact Bool.beq_comm
theorem pEq_at (p : PK) (b : BK) : pEq p ⟨b.dom, b.pol, p.fw, p.num⟩ = (dEq b.dom p.dom && dEq b.pol p.pol) := by
  unfold pEq
  rw [dEq_comm p.dom, dEq_comm p.pol]
  simp
attribute [local irreducible] pc drow Calls validB admitK dEq pEq
end Go.Proofs.YtbpjdfnnlmblaaaGreatDoor
/- Lists of keys, appended to. -/
namespace Go.Proofs.YtbpjdfnnlmblaaaGreatDoor
open Go.RowKit Go.Shelf
set_option linter.unusedSimpArgs false
set_option linter.unusedVariables false
/-- the cells of keys, one after the other -/
def kflat : List K → List Value
  | [] => []
  | k :: l => (kc k).toList ++ kflat l
theorem kc_len (k : K) : (kc k).toList.length = 9 := rfl
theorem kflat_len (l : List K) : (kflat l).length = l.length * 9 := by
  induction l with
  | nil => rfl
  | cons k l ih => rw [kflat, List.length_append, kc_len, ih, List.length_cons]; omega
theorem kflat_append (l m : List K) : kflat (l ++ m) = kflat l ++ kflat m := by
  induction l with
  | nil => rfl
  | cons k l ih => rw [List.cons_append, kflat, kflat, ih, List.append_assoc]
theorem kflat_at (l : List K) (j i : Nat) (hj : j < l.length) (hi : i < 9) : (kflat l)[j * 9 + i]? = (kc (keyAt l j))[i]? := by
  induction l generalizing j with
  | nil => simp at hj
  | cons k l ih =>
    cases j with
    | zero =>
      rw [kflat, Nat.zero_mul, Nat.zero_add, List.getElem?_append_left (by rw [kc_len]; exact hi), Array.getElem?_toList]
      rfl
    | succ j =>
      have hj' : j < l.length := by simpa using hj
      rw [kflat, List.getElem?_append_right (by rw [kc_len]; omega), kc_len, show (j + 1) * 9 + i - 9 = j * 9 + i by omega, ih j hj']
      rw [keyAt_eq _ _ hj', keyAt_eq _ _ hj]
      rfl
theorem kflat_one (l : List K) : ∀ u ∈ kflat l, u.oneCell' = true := by
  induction l with
  | nil => intro u hu; simp [kflat] at hu
  | cons k l ih =>
    intro u hu
    rw [kflat, List.mem_append] at hu
    rcases hu with hu | hu
    · simp [kc] at hu
      rcases hu with rfl | rfl | rfl | rfl | rfl | rfl | rfl | rfl | rfl <;> rfl
    · exact ih u hu
theorem RdK.flat {w : World} {a : Option Addr} {n cap : Nat} {l : List K} (h : RdK w (.slice a n cap) l) : ∀ b, a = some b → ∀ j u, (kflat l)[j]? = some u → w.cell? (b.add j) = some u := by
  obtain ⟨a', c', e, _, _, h3⟩ := h
  cases e
  intro b hb j u hu
  have hj : j < l.length * 9 := by
    have := (List.getElem?_eq_some_iff.1 hu).1
    rwa [kflat_len] at this
  obtain ⟨b0, off, e, _, hc⟩ := h3 (by omega)
  rw [hb] at e
  cases e
  have hadd : (⟨b0, off, none⟩ : Addr).add j = ⟨b0, off + j, none⟩ := by unfold Addr.add; split <;> simp_all
  have e2 : j = (j / 9) * 9 + j % 9 := by omega
  rw [hadd]
  have := hc (j / 9) (by omega) (j % 9) (by omega)
  rw [show off + j / 9 * 9 + j % 9 = off + j by omega, ← kflat_at l (j / 9) (j % 9) (by omega) (by omega), ← e2, hu] at this
  exact this
theorem ownK_rd {w : World} {base : Nat} {v : Value} {l : List K} {n : Nat} (hn : n = l.length) (h : w.ownsRow base 45 9 v n (kflat l)) : RdK w v l := by
  subst hn
  rcases h.2 with ⟨rfl, h0⟩ | ⟨g, cap, cur, rfl, hb, hg, h1, h2, h3, h4⟩
  · have : l = [] := List.length_eq_zero_iff.1 h0
    subst this
    exact RdK.nil w
  · refine ⟨_, cap, rfl, h1, h2, fun h0 => ⟨g, 0, rfl, (Array.getElem?_eq_some_iff.1 hg).1, fun j hj i hi => ?_⟩⟩
    rw [Nat.zero_add, cell_of_row _ _ _ _ _ _ hg, ← kflat_at l j i hj hi, ← h4, List.getElem?_take, if_pos (by omega), Array.getElem?_toList]
theorem info_k : (Tryz.prog.info? 45).map (fun i => (i.zero.map (·.cells.size), i.size)) = some (some 9, 9) := by kernel_rfl
end Go.Proofs.YtbpjdfnnlmblaaaGreatDoor
/- append of keys; Clone. -/
namespace Go.Proofs.YtbpjdfnnlmblaaaGreatDoor
open Go.RowKit Go.Shelf
set_option linter.unusedSimpArgs false
set_option linter.unusedVariables false
theorem info_k2 : (Tryz.prog.info? 45).map (fun i => (i.zero.map (·.cells.size), i.size, decide (0 < i.bytes ∧ i.bytes ≤ 200))) = some (some 9, 9, true) := by kernel_rfl
theorem info_k3 : ∃ i z, Tryz.prog.info? 45 = some i ∧ i.zero = some z ∧ i.size = 9 ∧ z.cells.size = 9 ∧ 0 < i.bytes ∧ i.bytes ≤ 200 := by
  have h := info_k2
  cases hi : Tryz.prog.info? 45 with
  | none => rw [hi] at h; cases h
  | some i =>
    rw [hi] at h
    simp only [Option.map_some, Option.some.injEq, Prod.mk.injEq, decide_eq_true_eq] at h
    cases hz : i.zero with
    | none => rw [hz] at h; cases h.1
    | some z =>
      rw [hz] at h
      exact ⟨i, z, rfl, hz, h.2.1, by simpa using h.1, h.2.2.1, h.2.2.2⟩
def OwnK (w : World) (base : Nat) (v : Value) (l : List K) : Prop := w.ownsRow base 45 9 v l.length (kflat l)
theorem OwnK.rd {w : World} {base : Nat} {v : Value} {l : List K} (h : OwnK w base v l) : RdK w v l := ownK_rd rfl h
theorem OwnK.nil (w : World) (base : Nat) : OwnK w base (.slice none 0 0) [] := World.ownsRow_nil w base _ 9
theorem OwnK.keep {w w' : World} {base B : Nat} {v : Value} {l : List K} (h : OwnK w base v l) (hb : Below B w w') (hB : w.heap.size ≤ B) : OwnK w' base v l := by
  refine ⟨h.1, ?_⟩
  rcases h.2 with hn | ⟨g, cap, cur, rfl, hg, hgg, r⟩
  · exact .inl hn
  · exact .inr ⟨g, cap, cur, rfl, hg, by rw [hb.block _ (Nat.lt_of_lt_of_le (Array.getElem?_eq_some_iff.1 hgg).1 hB)]; exact hgg, r⟩
/-- append of keys that can be read to keys of one's own -/
theorem app_k {w : World} {ops : Array Oper} {rest : List Oper} {o : Oper} {a : Act} {Q : Exit → Act → World → Prop} (hgd : o.guard = none) (s x : Operand)
    (ho : o.op = .call { callee := .builtin .append, args := #[s, x], argTypes := #[24, 24] })
    (base : Nat) (v : Value) (l : List K) (hs : a.eval s = v) (hown : OwnK w base v l) (xv : Value) (news : List K) (hx : a.eval x = xv) (hr : RdK w xv news)
    (hsz : l.length + news.length ≤ 1000000) (hbase : base ≤ w.heap.size)
    (h : ∀ v' w', OwnK w' base v' (l ++ news) → Below base w w' → wpList Tryz.prog ops Q rest (a.put o.dst v') w') : wpList Tryz.prog ops Q (o :: rest) a w := by
  obtain ⟨i0, z0, hi, hz, hs9, hz9, hb0, hb1⟩ := info_k3
  have hfl := hr
  obtain ⟨ad, cap, rfl, hcap, _, hc⟩ := hr
  have hflat := hfl.flat
  cases ad with
  | some p =>
    refine wpList_append_own w hgd s x 24 ho base 45 i0 z0 9 i0.bytes Tryz.underlying24 hi hz hs9 rfl hz9 (by decide) v l.length (kflat l) hs hown p news.length cap (kflat news) hx (kflat_len news) (hflat p rfl) (kflat_one news)
      (by unfold maxLen; omega) (Nat.le_trans (Nat.mul_le_mul hsz hb1) (by decide)) hbase ?_
    intro v' w' h1 h2 _
    refine h v' w' ?_ ((Below.refl base w).grown h2 hbase (fun k hk => (World.ownsRow.lt hown k hk).1))
    unfold OwnK
    rw [List.length_append, kflat_append]
    exact h1
  | none =>
    have hn : news = [] := by
      cases news with
      | nil => rfl
      | cons c l =>
        obtain ⟨b, off, e, _⟩ := hc (by simp)
        cases e
    subst hn
    have key : ∃ ad' n cap', v = .slice ad' n cap' ∧ n ≤ cap' := by
      rcases hown.2 with ⟨rfl, _⟩ | ⟨g, cap', cur, rfl, _, _, h1, _⟩
      · exact ⟨none, 0, 0, rfl, Nat.le_refl _⟩
      · exact ⟨_, _, _, rfl, h1⟩
    obtain ⟨ad', n, cap', rfl, hle⟩ := key
    have hrun := run_append_nothing (P := Tryz.prog) w 24 24 o.type 45 i0 Tryz.underlying24 hi ad' n cap' hle (.slice none 0 cap) (Src.ofNil w Tryz.underlying24 cap)
    refine wpList_plain hgd fun K hK => ?_
    unfold Oper.wp execOp
    have hx' : a.eval x = .slice none 0 cap := hx
    simp only [ho, resolve, invoke, builtin, Sem.run_bind, Sem.run_pure, Result.andThen_ok, List.map_toArray, List.map_cons, List.map_nil, hs, hx', hrun]
    exact hK _ _ (h _ _ (by rw [List.append_nil]; exact hown) (Below.refl _ _))
theorem one_k (w : World) (k : K) : RdK (w.alloc (.cells (kc k) 45)) (.slice (some ⟨w.heap.size, 0, none⟩) 1 1) [k] :=
  ⟨_, 1, rfl, Nat.le_refl _, by unfold maxLen; omega, fun _ => ⟨w.heap.size, 0, rfl, by simp, fun j hj i hi => by
    have : j = 0 := by simpa using hj
    subst this
    rw [cell_of_row _ _ _ _ _ _ (heap_alloc_new _ _)]
    simp [keyAt]⟩⟩
theorem empty_k (w : World) : OwnK (w.alloc (.cells #[] 45)) w.heap.size (.slice (some ⟨w.heap.size, 0, none⟩) 0 0) [] :=
  ⟨rfl, .inr ⟨w.heap.size, 0, #[], rfl, Nat.le_refl _, heap_alloc_new _ _, Nat.le_refl _, by unfold maxLen; omega, rfl, rfl⟩⟩
attribute [local irreducible] Calls
end Go.Proofs.YtbpjdfnnlmblaaaGreatDoor
/- Equal tables, equal lists of numbers, small inputs. -/
namespace Go.Proofs.YtbpjdfnnlmblaaaGreatDoor
open Go.RowKit Go.Shelf
set_option linter.unusedSimpArgs false
set_option linter.unusedVariables false
theorem ext_i {l m : List Int} (h : l.length = m.length) (h2 : ∀ j, j < l.length → intAt l j = intAt m j) : l = m := by
  refine List.ext_getElem h (fun i h3 h4 => ?_)
  have := h2 i h3
  rwa [intAt_eq l i h3, intAt_eq m i h4] at this
attribute [local irreducible] Calls
end Go.Proofs.YtbpjdfnnlmblaaaGreatDoor
/- Equality of keys. -/
namespace Go.Proofs.YtbpjdfnnlmblaaaGreatDoor
open Go.RowKit Go.Shelf
set_option linter.unusedSimpArgs false
set_option linter.unusedVariables false
theorem fields_k : (Tryz.prog.fieldsOf 45).toList.map (fun f => (f.name == "_", f.type, f.offset)) = [(false, 3, 0), (false, 3, 1), (false, 9, 2), (false, 3, 3), (false, 3, 4), (false, 3, 5), (false, 3, 6), (false, 3, 7), (false, 4, 8)] := by kernel_rfl
theorem ag_i (w : World) : (isAgg 3).run Tryz.prog w = .ok false w := by simp [isAgg, run_underlying Tryz.underlying3]
theorem ag_s (w : World) : (isAgg 9).run Tryz.prog w = .ok false w := by simp [isAgg, run_underlying Tryz.underlying9]
theorem ag_b (w : World) : (isAgg 4).run Tryz.prog w = .ok false w := by simp [isAgg, run_underlying Tryz.underlying4]
theorem str_beq (x y : List UInt8) : ((⟨x.toArray⟩ : ByteArray).toList == (⟨y.toArray⟩ : ByteArray).toList) = (x == y) := by
  rw [ByteArray.toList_eq, ByteArray.toList_eq]
def kEq (a b : K) : Bool := (a.id == b.id) && ((a.ty == b.ty) && ((a.val == b.val) && ((a.uses == b.uses) && ((a.start == b.start) && ((a.fin == b.fin) && ((a.ver == b.ver) && ((a.par == b.par) && ((a.raw == b.raw)))))))))
theorem kEq_eq (a b : K) : kEq a b = decide (a = b) := by
  rw [Bool.eq_iff_iff]
  obtain ⟨⟩ := a
  obtain ⟨⟩ := b
  simp [kEq]
theorem neq_k (a b : K) (w : World) : (binOp .neq 45 (.agg (kc a)) (.agg (kc b))).run Tryz.prog w = .ok (.bool (!kEq a b)) w := by
  rw [run_neq_struct]
  have ht : Tryz.prog.underlying 45 = some (.struct (Tryz.prog.fieldsOf 45)) := by kernel_rfl
  have hp : Tryz.prog.stoodInHeld 45 = false := by kernel_rfl
  rw [show (10000 : Nat) = 9999 + 1 from rfl, run_equalIn_struct w 9999 _ _ _ ht hp]
  have hf := fields_k
  generalize (Tryz.prog.fieldsOf 45).toList = fs at hf
  rcases fs with _ | ⟨f0, _ | ⟨f1, _ | ⟨f2, _ | ⟨f3, _ | ⟨f4, _ | ⟨f5, _ | ⟨f6, _ | ⟨f7, _ | ⟨f8, _ | ⟨f9, fs⟩⟩⟩⟩⟩⟩⟩⟩⟩⟩
  case cons.cons.cons.cons.cons.cons.cons.cons.cons.nil =>
    simp only [List.map_cons, List.map_nil, List.cons.injEq, Prod.mk.injEq, and_true] at hf
    obtain ⟨⟨n0, t0, o0⟩, ⟨n1, t1, o1⟩, ⟨n2, t2, o2⟩, ⟨n3, t3, o3⟩, ⟨n4, t4, o4⟩, ⟨n5, t5, o5⟩, ⟨n6, t6, o6⟩, ⟨n7, t7, o7⟩, ⟨n8, t8, o8⟩⟩ := hf
    have m0 : f0.name ≠ "_" := by simpa using n0
    have m1 : f1.name ≠ "_" := by simpa using n1
    have m2 : f2.name ≠ "_" := by simpa using n2
    have m3 : f3.name ≠ "_" := by simpa using n3
    have m4 : f4.name ≠ "_" := by simpa using n4
    have m5 : f5.name ≠ "_" := by simpa using n5
    have m6 : f6.name ≠ "_" := by simpa using n6
    have m7 : f7.name ≠ "_" := by simpa using n7
    have m8 : f8.name ≠ "_" := by simpa using n8
    have e0 : (Op.equalIn 9999 3 (.int .i64 a.id) (.int .i64 b.id)).run Tryz.prog w = .ok (a.id == b.id) w := run_equalIn_int w 9998 _ _ _ _ _ Tryz.underlying3
    have e1 : (Op.equalIn 9999 3 (.int .i64 a.ty) (.int .i64 b.ty)).run Tryz.prog w = .ok (a.ty == b.ty) w := run_equalIn_int w 9998 _ _ _ _ _ Tryz.underlying3
    have e2 : (Op.equalIn 9999 9 (.string ⟨a.val.toArray⟩) (.string ⟨b.val.toArray⟩)).run Tryz.prog w = .ok (a.val == b.val) w := by rw [run_equalIn_string w 9998 _ _ _ Tryz.underlying9, str_beq]
    have e3 : (Op.equalIn 9999 3 (.int .i64 a.uses) (.int .i64 b.uses)).run Tryz.prog w = .ok (a.uses == b.uses) w := run_equalIn_int w 9998 _ _ _ _ _ Tryz.underlying3
    have e4 : (Op.equalIn 9999 3 (.int .i64 a.start) (.int .i64 b.start)).run Tryz.prog w = .ok (a.start == b.start) w := run_equalIn_int w 9998 _ _ _ _ _ Tryz.underlying3
    have e5 : (Op.equalIn 9999 3 (.int .i64 a.fin) (.int .i64 b.fin)).run Tryz.prog w = .ok (a.fin == b.fin) w := run_equalIn_int w 9998 _ _ _ _ _ Tryz.underlying3
    have e6 : (Op.equalIn 9999 3 (.int .i64 a.ver) (.int .i64 b.ver)).run Tryz.prog w = .ok (a.ver == b.ver) w := run_equalIn_int w 9998 _ _ _ _ _ Tryz.underlying3
    have e7 : (Op.equalIn 9999 3 (.int .i64 a.par) (.int .i64 b.par)).run Tryz.prog w = .ok (a.par == b.par) w := run_equalIn_int w 9998 _ _ _ _ _ Tryz.underlying3
    have e8 : (Op.equalIn 9999 4 (.bool a.raw) (.bool b.raw)).run Tryz.prog w = .ok (a.raw == b.raw) w := run_equalIn_bool w 9998 _ _ _ Tryz.underlying4
    rw [eqf_step 9999 _ _ f0 _ m0 w (.int .i64 a.id) (.int .i64 b.id) (a.id == b.id) (by rw [t0, o0]; simp [part, ag_i, kc]) (by rw [t0, o0]; simp [part, ag_i, kc]) (by rw [t0]; exact e0),
      eqf_step 9999 _ _ f1 _ m1 w (.int .i64 a.ty) (.int .i64 b.ty) (a.ty == b.ty) (by rw [t1, o1]; simp [part, ag_i, kc]) (by rw [t1, o1]; simp [part, ag_i, kc]) (by rw [t1]; exact e1),
      eqf_step 9999 _ _ f2 _ m2 w (.string ⟨a.val.toArray⟩) (.string ⟨b.val.toArray⟩) (a.val == b.val) (by rw [t2, o2]; simp [part, ag_s, kc]) (by rw [t2, o2]; simp [part, ag_s, kc]) (by rw [t2]; exact e2),
      eqf_step 9999 _ _ f3 _ m3 w (.int .i64 a.uses) (.int .i64 b.uses) (a.uses == b.uses) (by rw [t3, o3]; simp [part, ag_i, kc]) (by rw [t3, o3]; simp [part, ag_i, kc]) (by rw [t3]; exact e3),
      eqf_step 9999 _ _ f4 _ m4 w (.int .i64 a.start) (.int .i64 b.start) (a.start == b.start) (by rw [t4, o4]; simp [part, ag_i, kc]) (by rw [t4, o4]; simp [part, ag_i, kc]) (by rw [t4]; exact e4),
      eqf_step 9999 _ _ f5 _ m5 w (.int .i64 a.fin) (.int .i64 b.fin) (a.fin == b.fin) (by rw [t5, o5]; simp [part, ag_i, kc]) (by rw [t5, o5]; simp [part, ag_i, kc]) (by rw [t5]; exact e5),
      eqf_step 9999 _ _ f6 _ m6 w (.int .i64 a.ver) (.int .i64 b.ver) (a.ver == b.ver) (by rw [t6, o6]; simp [part, ag_i, kc]) (by rw [t6, o6]; simp [part, ag_i, kc]) (by rw [t6]; exact e6),
      eqf_step 9999 _ _ f7 _ m7 w (.int .i64 a.par) (.int .i64 b.par) (a.par == b.par) (by rw [t7, o7]; simp [part, ag_i, kc]) (by rw [t7, o7]; simp [part, ag_i, kc]) (by rw [t7]; exact e7),
      eqf_step 9999 _ _ f8 _ m8 w (.bool a.raw) (.bool b.raw) (a.raw == b.raw) (by rw [t8, o8]; simp [part, ag_b, kc]) (by rw [t8, o8]; simp [part, ag_b, kc]) (by rw [t8]; exact e8)]
    unfold kEq
    cases (a.id == b.id)
    · rfl
    cases (a.ty == b.ty)
    · rfl
    cases (a.val == b.val)
    · rfl
    cases (a.uses == b.uses)
    · rfl
    cases (a.start == b.start)
    · rfl
    cases (a.fin == b.fin)
    · rfl
    cases (a.ver == b.ver)
    · rfl
    cases (a.par == b.par)
    · rfl
    cases (a.raw == b.raw)
    · rfl
    rfl
  all_goals simp at hf
end Go.Proofs.YtbpjdfnnlmblaaaGreatDoor
/- Equal tables; small inputs. -/
namespace Go.Proofs.YtbpjdfnnlmblaaaGreatDoor
open Go.RowKit Go.Shelf
set_option linter.unusedSimpArgs false
set_option linter.unusedVariables false
theorem ext_k {l m : List K} (h : l.length = m.length) (h2 : ∀ j, j < l.length → keyAt l j = keyAt m j) : l = m := by
  refine List.ext_getElem h (fun i h3 h4 => ?_)
  have := h2 i h3
  rwa [keyAt_eq l i h3, keyAt_eq m i h4] at this
attribute [local irreducible] Calls kEq
end Go.Proofs.YtbpjdfnnlmblaaaGreatDoor
/- The specification's Add. -/
namespace Go.Proofs.YtbpjdfnnlmblaaaGreatDoor
open Go.RowKit Go.Shelf
set_option linter.unusedSimpArgs false
set_option linter.unusedVariables false
def addErr (nx : Int) (l : List K) (k : K) : Int := if validK k = true ∧ k.par < nx then (if l.length < 4096 ∧ nx < 2147483647 then 0 else 2) else 1
theorem addErr_parts (nx : Int) (l : List K) (k : K) : (validK k = false ∧ addErr nx l k = 1) ∨ (validK k = true ∧ nx ≤ k.par ∧ addErr nx l k = 1) ∨ (validK k = true ∧ ¬ nx ≤ k.par ∧ (4096 : Int) ≤ l.length ∧ addErr nx l k = 2) ∨
    (validK k = true ∧ ¬ nx ≤ k.par ∧ ¬ (4096 : Int) ≤ l.length ∧ 2147483647 ≤ nx ∧ addErr nx l k = 2) ∨ (validK k = true ∧ ¬ nx ≤ k.par ∧ ¬ (4096 : Int) ≤ l.length ∧ ¬ 2147483647 ≤ nx ∧ addErr nx l k = 0) := by
  unfold addErr
  cases h1 : validK k
  · simp
  by_cases h2 : nx ≤ k.par
  · have : ¬ k.par < nx := by omega
    simp [h2, this]
  have a2 : k.par < nx := by omega
  by_cases h3 : (4096 : Int) ≤ l.length
  · have : ¬ l.length < 4096 := by omega
    simp [h2, a2, h3, this]
  have a3 : l.length < 4096 := by omega
  by_cases h4 : 2147483647 ≤ nx
  · have : ¬ nx < 2147483647 := by omega
    simp [h2, a2, h3, a3, h4, this]
  have a4 : nx < 2147483647 := by omega
  simp [h2, a2, h3, a3, h4, a4]
theorem kheap3_2' (w : World) (A B C : Obj) : (((w.alloc A).alloc B).alloc C).heap[w.heap.size + 1 + 1]? = some C := kheap3_2 w A B C
theorem kbelow_row {w : World} {g B : Nat} {cs : Array Value} (h : B ≤ g) : Below B w (w.setRow g cs) :=
  ⟨rfl, rfl, rfl, by simp [World.setRow], fun k hk => by
    unfold World.setRow
    rw [Array.getElem?_modify]
    have : ¬ g = k := by omega
    simp [this]⟩
/-- the result variable of Add -/
def ac (n : Int) (v : Value) (i e : Int) : Array Value := #[.int .i64 n, v, .int .i64 i, .int .i64 e]
attribute [local irreducible] Calls validK
end Go.Proofs.YtbpjdfnnlmblaaaGreatDoor
/- append of keys as a step of a region that draws. -/
namespace Go.Proofs.YtbpjdfnnlmblaaaGreatDoor
open Go.RowKit Go.Shelf
set_option linter.unusedSimpArgs false
set_option linter.unusedVariables false
/-- append to one's own keys, as a step of a region that draws -/
theorem step_app_k {ops : Array Oper} {o : Oper} {a : Act} {w : World} {K : Act → World → Prop} {Q : Exit → Act → World → Prop} {E : Prop} (hgd : o.guard = none) (s x : Operand)
    (ho : o.op = .call { callee := .builtin .append, args := #[s, x], argTypes := #[24, 24] })
    (base : Nat) (v : Value) (l : List Go.Proofs.YtbpjdfnnlmblaaaGreatDoor.K) (hs : a.eval s = v) (hown : OwnK w base v l) (ad : Addr) (m c : Nat) (news : List Go.Proofs.YtbpjdfnnlmblaaaGreatDoor.K) (hx : a.eval x = .slice (some ad) m c) (hl : news.length = m) (hm : 0 < m)
    (hnews : RdK w (.slice (some ad) m c) news) (hsz : l.length + m ≤ 1000000) (hbase : base ≤ w.heap.size)
    (h : ∀ v' w', OwnK w' base v' (l ++ news) → Below base w w' → K (a.put o.dst v') w') :
    if Region.wanted o (yielded ops a.tmps) = true then Oper.wp Tryz.prog o a w K Q else E := by
  obtain ⟨i0, z0, hi, hz, hs9, hz9, hb0, hb1⟩ := info_k3
  refine step_append_lies w hgd s x 24 ho base 45 i0 z0 9 i0.bytes Tryz.underlying24 hi hz hs9 rfl hz9 (by decide) v l.length (kflat l) hs hown ad m c (kflat news) hx (by rw [kflat_len, hl]) (hnews.flat ad rfl) (kflat_one news) hm
    (by unfold maxLen; omega) (Nat.le_trans (Nat.mul_le_mul hsz hb1) (by decide)) hbase w.heap.size rfl ?_
  intro g cap w' h1 h2 _ _
  refine h _ w' ?_ ((Below.refl base w).grown h2 hbase (fun k hk => (World.ownsRow.lt hown k hk).1))
  unfold OwnK
  rw [List.length_append, hl, kflat_append]
  exact h1
/-- append to keys that have no room, as such a step -/
theorem step_grow_k {ops : Array Oper} {o : Oper} {a : Act} {w : World} {K : Act → World → Prop} {Q : Exit → Act → World → Prop} {E : Prop} (hgd : o.guard = none) (s x : Operand)
    (ho : o.op = .call { callee := .builtin .append, args := #[s, x], argTypes := #[24, 24] })
    (ao : Option Addr) (l : List Go.Proofs.YtbpjdfnnlmblaaaGreatDoor.K) (hs : a.eval s = .slice ao l.length l.length) (hr : RdK w (.slice ao l.length l.length) l) (ad : Addr) (m c : Nat) (news : List Go.Proofs.YtbpjdfnnlmblaaaGreatDoor.K) (hx : a.eval x = .slice (some ad) m c) (hl : news.length = m) (hm : 0 < m)
    (hnews : RdK w (.slice (some ad) m c) news) (hsz : l.length + m ≤ 1000000)
    (h : ∀ v' w', OwnK w' w.heap.size v' (l ++ news) → Below w.heap.size w w' → K (a.put o.dst v') w') :
    if Region.wanted o (yielded ops a.tmps) = true then Oper.wp Tryz.prog o a w K Q else E := by
  obtain ⟨i0, z0, hi, hz, hs9, hz9, hb0, hb1⟩ := info_k3
  have hn : ao = none → l.length = 0 ∧ l.length = 0 := by
    intro e
    subst e
    obtain ⟨a', c', e, _, _, h3⟩ := hr
    cases e
    have : l.length = 0 := by
      rcases Nat.eq_zero_or_pos l.length with h0 | h0
      · exact h0
      · obtain ⟨b, off, e, _⟩ := h3 h0
        cases e
    exact ⟨this, this⟩
  refine step_append_grows hgd s x 24 ho 45 i0 z0 9 i0.bytes Tryz.underlying24 hi hz hs9 rfl hz9 (by decide) ao l.length l.length (kflat l) hs hn (kflat_len l) hr.flat ad m c (kflat news) hx (by rw [kflat_len, hl]) (hnews.flat ad rfl) (kflat_one news)
    (by omega) (by unfold maxLen; omega) (Nat.le_trans (Nat.mul_le_mul hsz hb1) (by decide)) ?_
  intro v' w' h1 h2
  refine h v' w' ?_ ((Below.refl _ w).grown h2 (Nat.le_refl _) (fun k hk => by cases hk))
  unfold OwnK
  rw [List.length_append, hl, kflat_append]
  exact h1
end Go.Proofs.YtbpjdfnnlmblaaaGreatDoor
/- Plan as a function of lists; what holds of it. -/
namespace Go.Proofs.YtbpjdfnnlmblaaaGreatDoor
open Go.RowKit Go.Shelf
set_option linter.unusedSimpArgs false
set_option linter.unusedVariables false
/-- the key with another Id -/
def withId (k : K) (n : Int) : K := { k with id := n }
/-- the key with another Parent -/
def withPar (k : K) (n : Int) : K := { k with par := n }
/-- what stands for a key: the last pair that says it, or 0 -/
def lookP (ps : List (Int × Int)) (x : Int) : Int := ps.foldl (fun acc p => if p.1 = x then p.2 else acc) 0
theorem lookP_snoc (ps : List (Int × Int)) (p : Int × Int) (x : Int) : lookP (ps ++ [p]) x = if p.1 = x then p.2 else lookP ps x := by
  simp [lookP, List.foldl_append]
/-- where the plan stands -/
structure PS where
  nx : Int
  ks : List K
  ps : List (Int × Int)
  ids : List Int
/-- the key as it is added -/
def newK (s : PS) (x : K) : K := withPar x (lookP s.ps x.par)
def plTwin (s : PS) (x : K) : PS := ⟨s.nx, s.ks, s.ps ++ [(x.id, twinId s.ks x)], s.ids⟩
def plAdd (s : PS) (x : K) : PS := ⟨s.nx + 1, s.ks ++ [withId (newK s x) s.nx], s.ps ++ [(x.id, s.nx)], s.ids ++ [s.nx]⟩
def plStep (now : Int) (s : PS) (x : K) : Except Int PS :=
  if x.fin ≤ now then .ok s else if twinIs s.ks x = true then .ok (plTwin s x) else if addErr s.nx s.ks (newK s x) = 0 then .ok (plAdd s x) else .error (addErr s.nx s.ks (newK s x))
def plRun (now : Int) : PS → List K → Except Int PS
  | s, [] => .ok s
  | s, x :: l => match plStep now s x with
    | .ok s' => plRun now s' l
    | .error e => .error e
theorem plRun_append (now : Int) (l m : List K) : ∀ s, plRun now s (l ++ m) = (match plRun now s l with | .ok s' => plRun now s' m | .error e => .error e) := by
  induction l with
  | nil => intro s; rfl
  | cons x l ih =>
    intro s
    simp only [List.cons_append, plRun]
    cases plStep now s x with
    | ok s' => exact ih s'
    | error e => rfl
theorem take_keyAt (l : List K) (i : Nat) (h : i < l.length) : l.take (i + 1) = l.take i ++ [keyAt l i] := by
  rw [keyAt_eq l i h]
  exact List.take_succ_eq_append_getElem h
theorem plRun_take (now : Int) (s0 s : PS) (l : List K) (i : Nat) (h : i < l.length) (hr : plRun now s0 (l.take i) = .ok s) : plRun now s0 (l.take (i + 1)) = plStep now s (keyAt l i) := by
  rw [take_keyAt l i h, plRun_append, hr]
  simp only [plRun]
  cases plStep now s (keyAt l i) <;> rfl
theorem plRun_fell (now : Int) (s0 s : PS) (l : List K) (i : Nat) (h : i < l.length) (hr : plRun now s0 (l.take i) = .ok s) (e : Int) (he : plStep now s (keyAt l i) = .error e) : plRun now s0 l = .error e := by
  have h1 := plRun_take now s0 s l i h hr
  rw [he] at h1
  have h2 := plRun_append now (l.take (i + 1)) (l.drop (i + 1)) s0
  rw [List.take_append_drop, h1] at h2
  exact h2
/-- the four ways of a step -/
theorem plStep_parts (now : Int) (s : PS) (x : K) : (x.fin ≤ now ∧ plStep now s x = .ok s) ∨ (¬ x.fin ≤ now ∧ twinIs s.ks x = true ∧ plStep now s x = .ok (plTwin s x)) ∨
    (¬ x.fin ≤ now ∧ twinIs s.ks x = false ∧ addErr s.nx s.ks (newK s x) ≠ 0 ∧ plStep now s x = .error (addErr s.nx s.ks (newK s x))) ∨
    (¬ x.fin ≤ now ∧ twinIs s.ks x = false ∧ addErr s.nx s.ks (newK s x) = 0 ∧ plStep now s x = .ok (plAdd s x)) := by
  unfold plStep
  by_cases h1 : x.fin ≤ now
  · exact .inl ⟨h1, if_pos h1⟩
  rw [if_neg h1]
  cases h2 : twinIs s.ks x with
  | true => exact .inr (.inl ⟨h1, rfl, rfl⟩)
  | false =>
    by_cases h3 : addErr s.nx s.ks (newK s x) = 0
    · exact .inr (.inr (.inr ⟨h1, rfl, h3, by rw [if_neg (by simp), if_pos h3]⟩))
    · exact .inr (.inr (.inl ⟨h1, rfl, h3, by rw [if_neg (by simp), if_neg h3]⟩))
/-- the whole plan -/
def planK (nx : Int) (tl : List K) (b : BK) (bl : List K) (now : Int) : Except Int PS :=
  if validB b bl = true ∧ 0 ≤ now ∧ now ≤ 1099511627776 then plRun now ⟨nx, tl, [], []⟩ bl else .error 1
theorem planK_four (nx : Int) (tl : List K) (b : BK) (bl : List K) (now : Int) : (validB b bl = false ∧ planK nx tl b bl now = .error 1) ∨ (validB b bl = true ∧ now < 0 ∧ planK nx tl b bl now = .error 1) ∨
    (validB b bl = true ∧ ¬ now < 0 ∧ 1099511627776 < now ∧ planK nx tl b bl now = .error 1) ∨ (validB b bl = true ∧ ¬ now < 0 ∧ ¬ 1099511627776 < now ∧ planK nx tl b bl now = plRun now ⟨nx, tl, [], []⟩ bl) := by
  unfold planK
  cases h1 : validB b bl
  · exact .inl ⟨rfl, if_neg (by simp)⟩
  by_cases h2 : now < 0
  · exact .inr (.inl ⟨rfl, h2, if_neg (by omega)⟩)
  by_cases h3 : 1099511627776 < now
  · exact .inr (.inr (.inl ⟨rfl, h2, h3, if_neg (by omega)⟩))
  · exact .inr (.inr (.inr ⟨rfl, h2, h3, if_pos ⟨rfl, by omega, by omega⟩⟩))
/-! valid tables -/
theorem validTab_iff (nx : Int) (l : List K) : validTab nx l = true ↔ l.length ≤ 4096 ∧ 1 ≤ nx ∧ nx ≤ 2147483647 ∧ ∀ j, j < l.length → okAt nx l j = true := by
  unfold validTab
  rw [Bool.and_eq_true, Bool.and_eq_true, decide_eq_true_eq, win_iff, List.all_eq_true]
  simp only [List.mem_range]
  constructor
  · rintro ⟨⟨a, b, c⟩, d⟩; exact ⟨a, b, c, d⟩
  · rintro ⟨a, b, c, d⟩; exact ⟨⟨a, b, c⟩, d⟩
theorem okAt_iff (nx : Int) (l : List K) (i : Nat) : okAt nx l i = true ↔ validK (keyAt l i) = true ∧ lastId l i < (keyAt l i).id ∧ (keyAt l i).id < nx ∧ (keyAt l i).par < nx := by
  unfold okAt
  simp only [Bool.and_eq_true, decide_eq_true_eq]
  constructor
  · rintro ⟨⟨⟨a, b⟩, c⟩, d⟩; exact ⟨a, b, c, d⟩
  · rintro ⟨a, b, c, d⟩; exact ⟨⟨⟨a, b⟩, c⟩, d⟩
theorem keyAt_append_left (l m : List K) (i : Nat) (h : i < l.length) : keyAt (l ++ m) i = keyAt l i := by
  rw [keyAt_eq _ _ (by rw [List.length_append]; omega), keyAt_eq _ _ h, List.getElem_append_left]
theorem keyAt_append_right (l m : List K) (i : Nat) (h : i < m.length) : keyAt (l ++ m) (l.length + i) = keyAt m i := by
  rw [keyAt_eq _ _ (by rw [List.length_append]; omega), keyAt_eq _ _ h, List.getElem_append_right (by omega)]
  simp
theorem keyAt_last (l : List K) (x : K) : keyAt (l ++ [x]) l.length = x := by
  have := keyAt_append_right l [x] 0 (by simp)
  rw [Nat.add_zero] at this
  rw [this]; rfl
theorem lastId_append (l m : List K) (i : Nat) (h : i ≤ l.length) : lastId (l ++ m) i = lastId l i := by
  unfold lastId
  by_cases h0 : i = 0
  · simp [h0]
  · rw [if_neg h0, if_neg h0, keyAt_append_left _ _ _ (by omega)]
theorem lastId_lt (nx : Int) (l : List K) (h : validTab nx l = true) : lastId l l.length < nx := by
  obtain ⟨_, h1, _, h2⟩ := (validTab_iff nx l).1 h
  unfold lastId
  by_cases h0 : l.length = 0
  · rw [if_pos h0]; omega
  · rw [if_neg h0]
    exact ((okAt_iff _ _ _).1 (h2 (l.length - 1) (by omega))).2.2.1
theorem addErr_zero (nx : Int) (l : List K) (k : K) : addErr nx l k = 0 ↔ validK k = true ∧ k.par < nx ∧ l.length < 4096 ∧ nx < 2147483647 := by
  unfold addErr
  by_cases h : validK k = true ∧ k.par < nx
  · rw [if_pos h]
    by_cases h2 : l.length < 4096 ∧ nx < 2147483647
    · rw [if_pos h2]; simp only [true_iff]; exact ⟨h.1, h.2, h2.1, h2.2⟩
    · rw [if_neg h2]
      constructor
      · intro e; omega
      · rintro ⟨_, _, a, b⟩; exact absurd ⟨a, b⟩ h2
  · rw [if_neg h]
    constructor
    · intro e; omega
    · rintro ⟨a, b, _, _⟩; exact absurd ⟨a, b⟩ h
theorem validK_withId (k : K) (n : Int) : validK (withId k n) = validK k := rfl
theorem validTab_add (nx : Int) (l : List K) (k : K) (h : validTab nx l = true) (he : addErr nx l k = 0) : validTab (nx + 1) (l ++ [withId k nx]) = true := by
  obtain ⟨a, b, c, d⟩ := (validTab_iff nx l).1 h
  obtain ⟨e1, e2, e3, e4⟩ := (addErr_zero nx l k).1 he
  rw [validTab_iff]
  refine ⟨by rw [List.length_append, List.length_singleton]; omega, by omega, by omega, fun j hj => ?_⟩
  rw [okAt_iff]
  rw [List.length_append, List.length_singleton] at hj
  by_cases hlt : j < l.length
  · obtain ⟨o1, o2, o3, o4⟩ := (okAt_iff nx l j).1 (d j hlt)
    rw [keyAt_append_left _ _ _ hlt, lastId_append _ _ _ (by omega)]
    exact ⟨o1, o2, by omega, by omega⟩
  · obtain rfl : j = l.length := by omega
    rw [keyAt_last, lastId_append _ _ _ (Nat.le_refl _), validK_withId]
    refine ⟨e1, lastId_lt nx l h, ?_, ?_⟩
    · show nx < nx + 1; omega
    · show k.par < nx + 1; omega
/-! what stays true -/
/-- s has come of a start with the table (nx, tl) -/
structure Good (nx : Int) (tl : List K) (bl : List K) (now : Int) (s : PS) : Prop where
  tab : validTab s.nx s.ks = true
  news : ∃ new, s.ks = tl ++ new ∧ new.length = s.ids.length ∧ ∀ j, j < new.length → s.ids[j]? = some (nx + j) ∧ (keyAt new j).id = nx + j ∧ now < (keyAt new j).fin ∧ (∃ y ∈ bl, keyAt new j = withPar (withId y (keyAt new j).id) (keyAt new j).par) ∧
    ((keyAt new j).par = 0 ∨ ∃ i, i < tl.length + j ∧ (keyAt s.ks i).id = (keyAt new j).par)
  nxt : s.nx = nx + s.ids.length
  pto : ∀ p ∈ s.ps, ∃ k ∈ s.ks, k.id = p.2
theorem Good.start (nx : Int) (tl bl : List K) (now : Int) (h : validTab nx tl = true) : Good nx tl bl now ⟨nx, tl, [], []⟩ where
  tab := h
  news := ⟨[], by simp, rfl, fun j hj => absurd hj (by simp)⟩
  nxt := by simp
  pto := fun p hp => by simp at hp
theorem lookP_aux (x : Int) (ps : List (Int × Int)) : ∀ acc : Int, (ps.foldl (fun acc p => if p.1 = x then p.2 else acc) acc = acc) ∨ ∃ p ∈ ps, p.2 = ps.foldl (fun acc p => if p.1 = x then p.2 else acc) acc := by
  induction ps with
  | nil => intro acc; exact .inl rfl
  | cons q ps ih =>
    intro acc
    rw [List.foldl_cons]
    by_cases h : q.1 = x
    · rw [if_pos h]
      rcases ih q.2 with h0 | ⟨p, hp, h0⟩
      · exact .inr ⟨q, by simp, h0.symm⟩
      · exact .inr ⟨p, by simp [hp], h0⟩
    · rw [if_neg h]
      rcases ih acc with h0 | ⟨p, hp, h0⟩
      · exact .inl h0
      · exact .inr ⟨p, by simp [hp], h0⟩
theorem lookP_mem (ps : List (Int × Int)) (x : Int) : lookP ps x = 0 ∨ ∃ p ∈ ps, p.2 = lookP ps x := lookP_aux x ps 0
theorem twinIs_iff (l : List K) (x : K) : twinIs l x = true ↔ ∃ y ∈ l, alikeK y x = true := by
  rcases twin_parts l x with ⟨_, h, _, hn⟩ | ⟨i, hi, _, h, _, hp, _⟩
  · rw [h]
    simp only [Bool.false_eq_true, false_iff]
    rintro ⟨y, hy, hp⟩
    obtain ⟨i, hi, rfl⟩ := List.mem_iff_getElem.1 hy
    have := hn i hi
    rw [keyAt_eq l i hi, hp] at this
    cases this
  · rw [h]
    simp only [true_iff]
    exact ⟨_, List.getElem_mem hi, by rw [← keyAt_eq l i hi]; exact hp⟩
theorem twinId_mem (l : List K) (x : K) (h : twinIs l x = true) : ∃ k ∈ l, k.id = twinId l x := by
  rcases twin_parts l x with ⟨_, h0, _, hn⟩ | ⟨i, hi, h1, _⟩
  · rw [h0] at h; cases h
  · exact ⟨l[i], List.getElem_mem hi, by rw [h1, keyAt_eq l i hi]⟩
theorem Good.step {nx : Int} {tl bl : List K} {now : Int} {s s' : PS} (h : Good nx tl bl now s) (x : K) (hx : x ∈ bl) (hs : plStep now s x = .ok s') : Good nx tl bl now s' := by
  rcases plStep_parts now s x with ⟨_, e⟩ | ⟨_, ht, e⟩ | ⟨_, _, _, e⟩ | ⟨hf, ht, he, e⟩
  · rw [e] at hs; cases hs; exact h
  · rw [e] at hs; cases hs
    refine ⟨h.tab, h.news, h.nxt, fun p hp => ?_⟩
    rcases List.mem_append.1 hp with hp | hp
    · exact h.pto p hp
    · rw [List.mem_singleton.1 hp]; exact twinId_mem _ _ ht
  · rw [e] at hs; cases hs
  · rw [e] at hs; cases hs
    obtain ⟨new, hk, hl, hj⟩ := h.news
    refine ⟨validTab_add _ _ _ h.tab he, ⟨new ++ [withId (newK s x) s.nx], by show s.ks ++ _ = _; rw [hk, List.append_assoc], by show _ = (s.ids ++ [s.nx]).length; simp [hl], fun j hjl => ?_⟩, by show s.nx + 1 = nx + ((s.ids ++ [s.nx]).length : Int); rw [h.nxt, List.length_append, List.length_singleton]; omega, fun p hp => ?_⟩
    · rw [List.length_append, List.length_singleton] at hjl
      have hks : (plAdd s x).ks = s.ks ++ [withId (newK s x) s.nx] := rfl
      have hid : (plAdd s x).ids = s.ids ++ [s.nx] := rfl
      rw [hks, hid]
      by_cases hlt : j < new.length
      · obtain ⟨a1, a2, a3, a4, a5⟩ := hj j hlt
        rw [keyAt_append_left _ _ _ hlt]
        refine ⟨by rw [List.getElem?_append_left (by omega)]; exact a1, a2, a3, a4, a5.imp id (fun ⟨i, hi, hp⟩ => ⟨i, hi, ?_⟩)⟩
        rw [keyAt_append_left _ _ _ (by rw [hk, List.length_append]; omega)]; exact hp
      · obtain rfl : j = new.length := by omega
        rw [keyAt_last]
        have hn := h.nxt
        refine ⟨by rw [List.getElem?_append_right (by omega), hl]; simp [hn], by show s.nx = _; omega, by show now < x.fin; omega, ⟨x, hx, rfl⟩, ?_⟩
        show lookP s.ps x.par = 0 ∨ ∃ i, _ ∧ _ = lookP s.ps x.par
        rcases lookP_mem s.ps x.par with h0 | ⟨p, hp, h0⟩
        · exact .inl h0
        · obtain ⟨k, hk1, hk2⟩ := h.pto p hp
          obtain ⟨i, hi, rfl⟩ := List.mem_iff_getElem.1 hk1
          refine .inr ⟨i, by rw [hk, List.length_append] at hi; exact hi, ?_⟩
          rw [keyAt_append_left _ _ _ hi, keyAt_eq _ _ hi, hk2, h0]
    · have hp' : p ∈ s.ps ++ [(x.id, s.nx)] := hp
      rcases List.mem_append.1 hp' with hp | hp
      · obtain ⟨k, hk1, hk2⟩ := h.pto p hp
        exact ⟨k, List.mem_append_left _ hk1, hk2⟩
      · rw [List.mem_singleton.1 hp]
        exact ⟨withId (newK s x) s.nx, List.mem_append_right _ (by simp), rfl⟩
theorem plRun_ind {now : Int} {P : PS → Prop} (l : List K) : ∀ (s s' : PS), P s → (∀ s s' x, x ∈ l → P s → plStep now s x = .ok s' → P s') → plRun now s l = .ok s' → P s' := by
  induction l with
  | nil => intro s s' hs _ h; cases h; exact hs
  | cons x l ih =>
    intro s s' hs hst h
    rw [plRun] at h
    cases h1 : plStep now s x with
    | ok s1 =>
      rw [h1] at h
      exact ih s1 s' (hst s s1 x (by simp) hs h1) (fun a b y hy => hst a b y (by simp [hy])) h
    | error e => rw [h1] at h; cases h
theorem Good.run {nx : Int} {tl bl : List K} {now : Int} {s s' : PS} (h : Good nx tl bl now s) (l : List K) (hl : ∀ x ∈ l, x ∈ bl) (hr : plRun now s l = .ok s') : Good nx tl bl now s' :=
  plRun_ind (P := Good nx tl bl now) l s s' h (fun _ _ x hx hg hs => hg.step x (hl x hx) hs) hr
theorem Good.klen {nx : Int} {tl bl : List K} {now : Int} {s : PS} (h : Good nx tl bl now s) : s.ks.length = tl.length + s.ids.length := by
  obtain ⟨new, hk, hl, _⟩ := h.news
  rw [hk, List.length_append, hl]
/-- the lists are no longer than what has been gone through -/
theorem plRun_len {now : Int} (l : List K) : ∀ (s s' : PS), plRun now s l = .ok s' → s'.ps.length ≤ s.ps.length + l.length ∧ s'.ids.length ≤ s.ids.length + l.length ∧ s'.ks.length ≤ s.ks.length + l.length := by
  induction l with
  | nil => intro s s' h; cases h; simp
  | cons x l ih =>
    intro s s' h
    rw [plRun] at h
    cases h1 : plStep now s x with
    | error e => rw [h1] at h; cases h
    | ok s1 =>
      rw [h1] at h
      have := ih s1 s' h
      have hc : s1.ps.length ≤ s.ps.length + 1 ∧ s1.ids.length ≤ s.ids.length + 1 ∧ s1.ks.length ≤ s.ks.length + 1 := by
        rcases plStep_parts now s x with ⟨_, e⟩ | ⟨_, ht, e⟩ | ⟨_, _, _, e⟩ | ⟨hf, ht, he, e⟩
        · rw [e] at h1; cases h1; omega
        · rw [e] at h1; cases h1; simp [plTwin]
        · rw [e] at h1; cases h1
        · rw [e] at h1; cases h1; simp [plAdd]
      rw [List.length_cons]
      omega
/-! every key of the backup that is not over has a twin afterwards -/
theorem twinIs_append (l m : List K) (x : K) (h : twinIs l x = true) : twinIs (l ++ m) x = true := by
  rw [twinIs_iff] at h ⊢
  obtain ⟨y, hy, hp⟩ := h
  exact ⟨y, List.mem_append_left _ hy, hp⟩
theorem plStep_keeps {now : Int} {s s' : PS} {x : K} (h : plStep now s x = .ok s') : ∃ m, s'.ks = s.ks ++ m := by
  rcases plStep_parts now s x with ⟨_, e⟩ | ⟨_, ht, e⟩ | ⟨_, _, _, e⟩ | ⟨hf, ht, he, e⟩
  · rw [e] at h; cases h; exact ⟨[], by simp⟩
  · rw [e] at h; cases h; exact ⟨[], by simp [plTwin]⟩
  · rw [e] at h; cases h
  · rw [e] at h; cases h; exact ⟨_, rfl⟩
theorem plRun_keeps {now : Int} (l : List K) {s s' : PS} (h : plRun now s l = .ok s') : ∃ m, s'.ks = s.ks ++ m :=
  plRun_ind (P := fun t => ∃ m, t.ks = s.ks ++ m) l s s' ⟨[], by simp⟩ (fun a b x _ ha hs => by
    obtain ⟨m, hm⟩ := ha
    obtain ⟨m2, h2⟩ := plStep_keeps hs
    exact ⟨m ++ m2, by rw [h2, hm, List.append_assoc]⟩) h
theorem plStep_twin {now : Int} {s s' : PS} {x : K} (h : plStep now s x = .ok s') (hf : now < x.fin) : twinIs s'.ks x = true := by
  rcases plStep_parts now s x with ⟨h1, e⟩ | ⟨_, ht, e⟩ | ⟨_, _, _, e⟩ | ⟨_, ht, he, e⟩
  · omega
  · rw [e] at h; cases h; exact ht
  · rw [e] at h; cases h
  · rw [e] at h; cases h
    rw [twinIs_iff]
    refine ⟨withId (newK s x) s.nx, List.mem_append_right _ (by simp), ?_⟩
    simp [alikeK, withId, newK, withPar]
theorem plRun_twin {now : Int} (l : List K) : ∀ (s s' : PS), plRun now s l = .ok s' → ∀ x ∈ l, now < x.fin → twinIs s'.ks x = true := by
  induction l with
  | nil => intro s s' _ x hx; simp at hx
  | cons y l ih =>
    intro s s' h x hx hf
    rw [plRun] at h
    cases h1 : plStep now s y with
    | error e => rw [h1] at h; cases h
    | ok s1 =>
      rw [h1] at h
      rcases List.mem_cons.1 hx with rfl | hx
      · obtain ⟨m, hm⟩ := plRun_keeps l h
        rw [hm]
        exact twinIs_append _ _ _ (plStep_twin h1 hf)
      · exact ih s1 s' h x hx hf
theorem holdsK_iff (tl bl : List K) (now : Int) : holdsK tl bl now = true ↔ ∀ x ∈ bl, now < x.fin → twinIs tl x = true := by
  unfold holdsK
  rw [Bool.not_eq_true', List.any_eq_false]
  constructor
  · intro h x hx hf
    have := h x hx
    unfold lacks at this
    rw [decide_eq_true hf] at this
    simpa using this
  · intro h x hx
    unfold lacks
    by_cases hf : now < x.fin
    · rw [h x hx hf]; simp
    · rw [decide_eq_false hf]; simp
/-- a plan over a table that holds the backup adds nothing -/
theorem plRun_again {now : Int} (l : List K) : ∀ (s : PS), (∀ x ∈ l, now < x.fin → twinIs s.ks x = true) → ∃ s', plRun now s l = .ok s' ∧ s'.nx = s.nx ∧ s'.ks = s.ks ∧ s'.ids = s.ids := by
  induction l with
  | nil => intro s _; exact ⟨s, rfl, rfl, rfl, rfl⟩
  | cons x l ih =>
    intro s h
    rw [plRun]
    by_cases hf : now < x.fin
    · have e : plStep now s x = .ok (plTwin s x) := by
        unfold plStep
        rw [if_neg (by omega), if_pos (h x (by simp) hf)]
      rw [e]
      exact ih (plTwin s x) (fun y hy => h y (by simp [hy]))
    · have e : plStep now s x = .ok s := by unfold plStep; rw [if_pos (by omega)]
      rw [e]
      exact ih s (fun y hy => h y (by simp [hy]))
end Go.Proofs.YtbpjdfnnlmblaaaGreatDoor
/- The specification's Add, granted. -/
namespace Go.Proofs.YtbpjdfnnlmblaaaGreatDoor
open Go.RowKit Go.Shelf
set_option linter.unusedSimpArgs false
set_option linter.unusedVariables false
theorem setCell_rowK (w : World) (g i : Nat) (cs : Array Value) (T : TypeId) (fr : Nat × Nat) (v : Value) (h : w.heap[g]? = some (.cells cs T fr)) : w.setCell ⟨g, i, none⟩ v = w.setRow g (cs.setIfInBounds i v) := by
  unfold World.setCell World.setRow
  simp only [World.mk.injEq, and_true]
  apply Array.ext_getElem?
  intro j
  simp only [Array.getElem?_modify]
  by_cases h' : g = j
  · subst h'
    simp [h]
  · simp [h']
theorem kat_set {w : World} {B : Nat} {k : K} (h : KeyAt w B k) (n : Int) : KeyAt (w.setCell ⟨B, 0, none⟩ (.int .i64 n)) B (withId k n) := by
  unfold KeyAt at *
  rw [setCell_rowK w B 0 _ _ _ _ h, setRow_heap _ _ _ _ _ _ h]
  rfl
attribute [local irreducible] Calls validK
theorem setCell_block {w : World} {g g2 k : Nat} {v : Value} (h : g2 ≠ g) : (w.setCell ⟨g2, k, none⟩ v).heap[g]? = w.heap[g]? := by
  unfold World.setCell
  simp [Array.getElem?_modify, h]
theorem setCell_size (w : World) (p : Addr) (v : Value) : (w.setCell p v).heap.size = w.heap.size := by simp [World.setCell]
theorem KeyAt.free {w : World} {B : Nat} {k : K} (h : KeyAt w B k) (j : Nat) : w.frozen? ⟨B, j, none⟩ = false := by
  unfold KeyAt at h
  simp [World.frozen?, h]
theorem frow {w : World} {g : Nat} {cs : Array Value} {T : TypeId} (h : w.heap[g]? = some (.cells cs T (0, 0))) (j : Nat) : w.frozen? ⟨g, j, none⟩ = false := by simp [World.frozen?, h]
theorem ownK_set {w : World} {base : Nat} {v : Value} {l : List K} {g2 k : Nat} {x : Value} (h : OwnK w base v l) (hlt : g2 < base) : OwnK (w.setCell ⟨g2, k, none⟩ x) base v l := by
  refine ⟨h.1, ?_⟩
  rcases h.2 with hn | ⟨g, cap, cur, rfl, hg, hgg, r⟩
  · exact .inl hn
  · exact .inr ⟨g, cap, cur, rfl, hg, by rw [setCell_block (by omega)]; exact hgg, r⟩
theorem ownK_rd1 {w : World} {base : Nat} {va : Option Addr} {c : Nat} {l : List K} {x : K} (h : OwnK w base (.slice va (l ++ [x]).length c) (l ++ [x])) : RdK w (.slice va (l.length + 1) c) (l ++ [x]) := by
  have := h.rd
  rwa [List.length_append] at this
theorem ownK_own1 {w : World} {base b' : Nat} {va : Option Addr} {c : Nat} {l : List K} {x : K} (h : OwnK w base (.slice va (l ++ [x]).length c) (l ++ [x])) (hb : b' ≤ base) : OwnK w b' (.slice va (l.length + 1) c) (l ++ [x]) := by
  have h2 := World.ownsRow.mono h hb
  unfold OwnK
  rw [List.length_append] at h2 ⊢
  exact h2
theorem own_stepK {w : World} {base : Nat} {v : Value} {l : List K} (h : OwnK w base v l) (X : Obj) : OwnK (w.alloc X).drew base v l :=
  (h.keep ((Below.refl w.heap.size w).alloc (Nat.le_refl _) X) (Nat.le_refl _)).keep (below_drewN 1 (Below.refl (w.alloc X).heap.size (w.alloc X))) (Nat.le_refl _)
theorem base_stepK {w : World} {B : Nat} (h : B ≤ w.heap.size) (X : Obj) : B ≤ (w.alloc X).drew.heap.size := by
  have : (w.alloc X).drew.heap.size = w.heap.size + 1 := by simp
  omega
theorem one_stepK (w : World) (k : K) : RdK (w.alloc (.cells (kc k) 45)).drew (.slice (some ⟨w.heap.size, 0, none⟩) 1 1) [k] := (one_k w k).drew 1
theorem st4 {w : World} {g : Nat} {T : TypeId} {n i e n0 i0 e0 : Int} {v v0 : Value} (h : w.heap[g]? = some (.cells (ac n0 v0 i0 e0) T (0, 0))) :
    ((((w.setCell ⟨g, 0, none⟩ (.int .i64 n)).setCell ⟨g, 1, none⟩ v).setCell ⟨g, 2, none⟩ (.int .i64 i)).setCell ⟨g, 3, none⟩ (.int .i64 e)).heap[g]? = some (.cells (ac n v i e) T (0, 0)) := by
  have h1 := setRow_heap w g _ ((ac n0 v0 i0 e0).setIfInBounds 0 (.int .i64 n)) _ _ h
  rw [← setCell_rowK _ _ _ _ _ _ _ h] at h1
  have h2 := setRow_heap _ g _ (((ac n0 v0 i0 e0).setIfInBounds 0 (.int .i64 n)).setIfInBounds 1 v) _ _ h1
  rw [← setCell_rowK _ _ _ _ _ _ _ h1] at h2
  have h3 := setRow_heap _ g _ ((((ac n0 v0 i0 e0).setIfInBounds 0 (.int .i64 n)).setIfInBounds 1 v).setIfInBounds 2 (.int .i64 i)) _ _ h2
  rw [← setCell_rowK _ _ _ _ _ _ _ h2] at h3
  have h4 := setRow_heap _ g _ (((((ac n0 v0 i0 e0).setIfInBounds 0 (.int .i64 n)).setIfInBounds 1 v).setIfInBounds 2 (.int .i64 i)).setIfInBounds 3 (.int .i64 e)) _ _ h3
  rw [← setCell_rowK _ _ _ _ _ _ _ h3] at h4
  exact h4
end Go.Proofs.YtbpjdfnnlmblaaaGreatDoor
/- The program's Add. -/
namespace Go.Proofs.YtbpjdfnnlmblaaaGreatDoor
open Go.RowKit Go.Shelf
set_option linter.unusedSimpArgs false
set_option linter.unusedVariables false
attribute [local irreducible] Calls validK
theorem RdK.clip {w : World} {a : Option Addr} {cap : Nat} {l : List K} (h : RdK w (.slice a l.length cap) l) : RdK w (.slice a l.length l.length) l := by
  obtain ⟨a', c', e, h1, h2, h3⟩ := h
  cases e
  exact ⟨a, l.length, rfl, Nat.le_refl _, by omega, h3⟩
end Go.Proofs.YtbpjdfnnlmblaaaGreatDoor
/- Rows of numbers and of pairs; the specification's Plan: what it holds in memory. -/
namespace Go.Proofs.YtbpjdfnnlmblaaaGreatDoor
open Go.RowKit Go.Shelf
set_option linter.unusedSimpArgs false
set_option linter.unusedVariables false
theorem eI_flat (l : List Int) (j : Nat) (h : j < l.length) : (eI.flat l)[j]? = some (.int .i64 (intAt l j)) := by
  have := El.flat_at eI_ok l j 0 h (by decide)
  rw [Nat.mul_one, Nat.add_zero] at this
  rw [this, intAt_eq l j h]
  rfl
theorem rdI_of {w : World} {v : Value} {l : List Int} (h : RdE eI w v l) : RdI w v l := by
  obtain ⟨a, cap, rfl, h1, h2, h3⟩ := h
  refine ⟨a, cap, rfl, h1, h2, fun h0 => ?_⟩
  obtain ⟨b, off, rfl, hlt, hc⟩ := h3 h0
  exact ⟨b, off, rfl, hlt, fun i hi => hc i _ (eI_flat l i hi)⟩
/-- keys of one's own, where another block is written or another row has grown -/
theorem OwnK.neNew {w : World} {base : Nat} {v : Value} {l : List K} (h : OwnK w base v l) {g : Nat} (hg : w.heap.size ≤ g) : v.ownBlock ≠ some g := fun e => by have := (World.ownsRow.lt h g e).2; omega
theorem OwnK.neOld {w : World} {base : Nat} {v : Value} {l : List K} (h : OwnK w base v l) {g : Nat} (hg : g < base) : v.ownBlock ≠ some g := fun e => by have := (World.ownsRow.lt h g e).1; omega
theorem OwnK.on {w w' : World} {base : Nat} {v : Value} {l : List K} (h : OwnK w base v l) (hb : Below w.heap.size w w') : OwnK w' base v l := h.keep hb (Nat.le_refl _)
theorem OwnK.setNe {w : World} {base : Nat} {v : Value} {l : List K} {g2 k : Nat} {x : Value} (h : OwnK w base v l) (hne : v.ownBlock ≠ some g2) : OwnK (w.setCell ⟨g2, k, none⟩ x) base v l := by
  refine ⟨h.1, ?_⟩
  rcases h.2 with hn | ⟨g, cap, cur, rfl, hg, hgg, r⟩
  · exact .inl hn
  · exact .inr ⟨g, cap, cur, rfl, hg, by rw [setCell_block (fun e => hne (by rw [e]; rfl))]; exact hgg, r⟩
theorem OwnK.grown {w w' : World} {base : Nat} {v : Value} {l : List K} {row : Option Nat} (h : OwnK w base v l) (hg : w.grownBy w' row) (hne : ∀ g, row = some g → v.ownBlock ≠ some g) : OwnK w' base v l := by
  refine World.ownsRow.kept h hg ?_
  cases hv : v.ownBlock with
  | none => exact .inl rfl
  | some g => exact .inr fun e => hne g e.symm (by rw [hv])
theorem OwnK.neOwn {β : Type} {F : El β} {w : World} {b1 b2 : Nat} {v u : Value} {l : List K} {m : List β} (h : OwnK w b1 v l) (h2 : OwnE F w b2 u m) (hT : F.T ≠ 45) : ∀ g, u.ownBlock = some g → v.ownBlock ≠ some g := by
  intro g hg
  rcases h2.2 with ⟨rfl, _⟩ | ⟨g0, cap, cur, rfl, _, hgg, _⟩
  · simp [Value.ownBlock] at hg
  · simp only [Value.ownBlock, Option.some.injEq] at hg
    subst hg
    rcases h.2 with ⟨rfl, _⟩ | ⟨g1, cap1, cur1, rfl, _, hg1, _⟩
    · simp [Value.ownBlock]
    · intro e
      simp only [Value.ownBlock, Option.some.injEq] at e
      subst e
      rw [hgg] at hg1
      simp only [Option.some.injEq, Obj.cells.injEq] at hg1
      exact hT hg1.2.1
theorem OwnK.mono {w : World} {base base' : Nat} {v : Value} {l : List K} (h : OwnK w base v l) (hb : base' ≤ base) : OwnK w base' v l := World.ownsRow.mono h hb
/-- the result of the specification's Plan -/
def pl (n : Int) (v vi : Value) (e : Int) : Array Value := #[.int .i64 n, v, vi, .int .i64 e]
/-- the outcome of the specification's Plan -/
def PlanR (w : World) (r : Except Int PS) (e : Ending) (w' : World) : Prop :=
  Below w.heap.size w w' ∧ match r with
  | .ok s => ∃ v vi, e = .returned (.agg (pl s.nx v vi 0)) ∧ RdK w' v s.ks ∧ RdI w' vi s.ids
  | .error c => e = .returned (.agg (pl 0 (.slice none 0 0) (.slice none 0 0) c))
end Go.Proofs.YtbpjdfnnlmblaaaGreatDoor
