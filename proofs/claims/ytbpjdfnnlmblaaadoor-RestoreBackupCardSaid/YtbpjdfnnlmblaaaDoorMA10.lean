/- Parts of a proof, joined: contracts of functions of the program and plain lemmas (BakJ, BakK, RegRelG). No condition. -/
import Derived.Test.YtbpjdfnnlmblaaaDoorMA09
import Derived.BigRegion
/- The header of a blob is read: what lies in memory meanwhile. -/
namespace Go.Proofs.YtbpjdfnnlmblaaaDoor
open Go.RowKit Go.Shelf
set_option linter.unusedSimpArgs false
set_option linter.unusedVariables false
def nilS : Value := .slice none 0 0
/-- the numbers of a header -/
def setN (b : BK) (l : List Int) : BK := { b with ep := l.getD 0 0, num := l.getD 1 0, fw := l.getD 2 0, tm := l.getD 3 0 }
/-- what is read out of a header: the backup without its keys, the error -/
def hdE (hdr : List UInt8) (e : Int) : Int :=
  let r1 := rdR decD hdr e; let e1 := rdX decD hdr e
  let e2 := rdX decIs r1 e1
  if e2 = 0 ∧ decide ((rdV [] decIs r1 e1).length = 4) = false then 6 else e2
def hdB (hdr : List UInt8) (e : Int) : BK :=
  let r1 := rdR decD hdr e; let e1 := rdX decD hdr e
  let b0 : BK := { zB with dom := rdV z16 decD hdr e }
  let r2 := rdR decIs r1 e1
  let e3 := hdE hdr e
  let b1 := if e3 = 0 then setN b0 (rdV [] decIs r1 e1) else b0
  let r3 := rdR decD r2 e3; let e4 := rdX decD r2 e3
  { b1 with pol := rdV z16 decD r2 e3, mo := rdV [] decS r3 e4 }
def hdX (hdr : List UInt8) (e : Int) : Int :=
  let r1 := rdR decD hdr e; let e1 := rdX decD hdr e
  let r2 := rdR decIs r1 e1
  let e3 := hdE hdr e
  let r3 := rdR decD r2 e3; let e4 := rdX decD r2 e3
  let e5 := whX decS r3 e4
  if e5 = 0 ∧ validB (hdB hdr e) [] = false then 6 else e5
theorem RdE.other {α : Type} {E : El α} {w w' : World} {v : Value} {l : List α} {g : Nat} (h : RdE E w v l) (hg : w.grownBy w' (some g)) (hne : v.ownBlock ≠ some g) : RdE E w' v l := by
  obtain ⟨a, cap, rfl, h1, h2, h3⟩ := h
  refine ⟨a, cap, rfl, h1, h2, fun h0 => ?_⟩
  obtain ⟨b, off, rfl, hlt, hc⟩ := h3 h0
  have hbg : b ≠ g := fun e => hne (by rw [e]; rfl)
  exact ⟨b, off, rfl, Nat.lt_of_lt_of_le hlt hg.size, fun j u hu => by
    rw [World.cell?_of_block (a := ⟨b, off + j, none⟩) (hg.block b hlt (fun e => hbg (Option.some.inj e)))]
    exact hc j u hu⟩
theorem rdVS_len (rest : List UInt8) (e : Int) : (rdV [] decS rest e).length ≤ rest.length := by
  rcases rd_parts [] decS rest e with ⟨_, p3, _⟩ | ⟨_, _, p3, _⟩ | ⟨_, p2, p3, _⟩
  · rw [p3]; exact Nat.zero_le _
  · rw [p3]; exact Nat.zero_le _
  · rw [p3]
    have h3 := congrArg List.length (decS_ok rest _ _ (by rw [← p2])).1
    unfold encS at h3
    rw [List.length_append, List.length_append] at h3
    omega
structure PkS (w : World) (g : Nat) (hdr : List UInt8) (v1 : Value) (e1 : Int) (gh : Nat) (v0 : Value) (x : World) (b : BK) (vh : Value) (hr : List UInt8) (eh : Int) : Prop where
  bk : x.heap[w.heap.size]? = some (.cells (bc b nilS) 26 (0, 0))
  rv : RV x g 68 (some hdr) v1 e1
  hv : RV x gh 66 none vh eh
  rd : RdE eB x v0 hdr
  part : Part v0 hdr vh hr
  gr : w.grownBy x (some g)
  gb : w.heap.size < gh
  gg : g < w.heap.size
  nb : v0.ownBlock ≠ some w.heap.size
  le : hr.length ≤ hdr.length
theorem PkS.rdh {w : World} {g : Nat} {hdr : List UInt8} {v1 : Value} {e1 : Int} {gh : Nat} {v0 : Value} {x : World} {b : BK} {vh : Value} {hr : List UInt8} {eh : Int} (h : PkS w g hdr v1 e1 gh v0 x b vh hr eh) : RdE eB x vh hr := h.part x h.rd
theorem PkS.step {w : World} {g : Nat} {hdr : List UInt8} {v1 : Value} {e1 : Int} {gh : Nat} {v0 : Value} {x : World} {b : BK} {vh : Value} {hr : List UInt8} {eh : Int} (h : PkS w g hdr v1 e1 gh v0 x b vh hr eh) {y : World} {vh' : Value} {hr' : List UInt8} {eh' : Int}
    (hy : x.grownBy y (some gh)) (hv' : RV y gh 66 none vh' eh') (hp : Part vh hr vh' hr') (hle : hr'.length ≤ hr.length) : PkS w g hdr v1 e1 gh v0 y b vh' hr' eh' := by
  have h1 := h.gb
  have h2 := h.gg
  have hbs : w.heap.size < x.heap.size := (Array.getElem?_eq_some_iff.1 h.bk).1
  refine ⟨?_, ?_, hv', ?_, fun u hu => hp u (h.part u hu), ?_, h1, h2, h.nb, Nat.le_trans hle h.le⟩
  · rw [hy.block _ hbs (fun e => by cases e; omega)]; exact h.bk
  · unfold RV
    rw [hy.block _ (by omega) (fun e => by cases e; omega)]
    exact h.rv
  · exact h.hv.noB h.rdh hy h.rd
  · exact ⟨hy.os.trans h.gr.os, hy.tape.trans h.gr.tape, hy.output.trans h.gr.output, Nat.le_trans h.gr.size hy.size, fun k hk hne => (hy.block k (by omega) (fun e => by cases e; omega)).trans (h.gr.block k hk hne)⟩
theorem PkS.setB {w : World} {g : Nat} {hdr : List UInt8} {v1 : Value} {e1 : Int} {gh : Nat} {v0 : Value} {x : World} {b : BK} {vh : Value} {hr : List UInt8} {eh : Int} (h : PkS w g hdr v1 e1 gh v0 x b vh hr eh) (b' : BK) :
    PkS w g hdr v1 e1 gh v0 (x.setRow w.heap.size (bc b' nilS)) b' vh hr eh := by
  have h1 := h.gb
  have h2 := h.gg
  refine ⟨setRow_heap _ _ _ _ _ _ h.bk, ?_, ?_, h.rd.other (grown_setRow _ _ _) h.nb, h.part, grown_new _ h.gr (Nat.le_refl _), h1, h2, h.nb, h.le⟩
  · unfold RV; rw [setRow_else _ _ _ _ (by omega)]; exact h.rv
  · unfold RV; rw [setRow_else _ _ _ _ (by omega)]; exact h.hv
theorem PkS.on {w : World} {g : Nat} {hdr : List UInt8} {v1 : Value} {e1 : Int} {gh : Nat} {v0 : Value} {x : World} {b : BK} {vh : Value} {hr : List UInt8} {eh : Int} (h : PkS w g hdr v1 e1 gh v0 x b vh hr eh) {y : World} (hb : Below x.heap.size x y) :
    PkS w g hdr v1 e1 gh v0 y b vh hr eh :=
  ⟨by rw [hb.block _ (Array.getElem?_eq_some_iff.1 h.bk).1]; exact h.bk, h.rv.on hb, h.hv.on hb, h.rd.on hb, h.part, grown_then h.gr hb, h.gb, h.gg, h.nb, h.le⟩
theorem rc_none (v : Value) (e : Int) : rc v e none = #[v, .int .i64 e] := rfl
/-- bytes that a text was turned into -/
def SP.byt (B : Nat) (l : List UInt8) : SP := .pred (fun v w => RdE eB w v l ∧ ∃ a n c, v = .slice (some a) n c ∧ B ≤ a.block) (fun _ _ _ hb h => ⟨h.1.on hb, h.2⟩)
def SP.rdv (B : Nat) (l : List UInt8) (e : Int) : SP := .pred (fun x w => ∃ a n c, x = .agg #[.slice (some a) n c, .int .i64 e] ∧ RdE eB w (.slice (some a) n c) l ∧ B ≤ a.block) (fun _ _ _ hb ⟨a, n, c, h1, h2, h3⟩ => ⟨a, n, c, h1, h2.on hb, h3⟩)
def SP.rbx (B : Nat) (l : List UInt8) (e : Int) : SP := .pred (fun x w => ∃ gh a n c, x = .pointer (some ⟨gh, 0, none⟩) ∧ B ≤ gh ∧ RV w gh 66 none (.slice (some a) n c) e ∧ RdE eB w (.slice (some a) n c) l ∧ B ≤ a.block)
  (fun _ _ _ hb ⟨gh, a, n, c, h1, h2, h3, h4, h5⟩ => ⟨gh, a, n, c, h1, h2, h3.on hb, h4.on hb, h5⟩)
attribute [local irreducible] Calls rc drow decD validB
set_option maxRecDepth 100000 in
set_option maxHeartbeats 4000000 in
theorem peek_c (g : Nat) (h0 rest : List UInt8) (v : Value) (w : World) (h1 : RV w g 68 (some h0) v 0) (h2 : RdE eB w v rest) (hl : rest.length ≤ 900000) :
    Calls Tryd.prog 31 #[.pointer (some ⟨g, 0, none⟩)] w fun en w' => ∃ v', en = .returned (.agg (bc (hdB (rdV [] decS rest 0) (rdX decS rest 0)) nilS)) ∧ RV w' g 68 (some (rdV [] decS rest 0)) v' (hdX (rdV [] decS rest 0) (rdX decS rest 0)) ∧
      Part v rest v' (rdR decS rest 0) ∧ w.grownBy w' (some g) := by
  have hz := zero_bk
  have H1 := Lib.hid h1
  have H2 := Lib.hid h2
  have HGG := Lib.hid h1.lt
  obtain ⟨W0, hW0⟩ : ∃ W0, W0 = w.alloc (.cells (bc zB (.slice none 0 0)) 26) := ⟨_, rfl⟩
  have HW := Lib.hid hW0
  have HB0 : Hid (Below w.heap.size w W0) := Lib.hid (by rw [hW0]; exact (Below.refl _ _).alloc (Nat.le_refl _) _)
  have HK0 : Hid (W0.heap[w.heap.size]? = some (.cells (bc zB nilS) 26 (0, 0))) := Lib.hid (by rw [hW0]; exact heap_last _ _ _ rfl)
  have HRD := Lib.hid (readS_c g 68 (some h0) v rest 0 W0 (h1.on HB0.out) (h2.on HB0.out) hl)
  have HHL : Hid ((rdV [] decS rest 0).length ≤ 900000) := Lib.hid (Nat.le_trans (rdVS_len rest 0) hl)
  generalize rdV [] decS rest 0 = hdr at HRD HHL ⊢
  generalize rdX decS rest 0 = e1 at HRD ⊢
  generalize rdR decS rest 0 = rr at HRD ⊢
  clear h1 h2 hl hW0
  go_enter Tryd.func31, Tryd.ntmps31
  go_upto_region 1 with fail
  rw [← HW.out]
  go_upto_region 2 with (go_at_call 63; refine HRD.out.mono ?_; rintro e2 w1 ⟨_, v1, rfl, rfl, hr1, hp1, hg1⟩; have HR1 := Lib.hid hr1; have HP1 := Lib.hid hp1; have HG1 := Lib.hid hg1; have c2 : w1.cell? ⟨g, 2, none⟩ = some (.string ⟨h0.toArray⟩) := (by rw [cell_of_row _ _ _ _ _ _ hr1]; exact rc_2 v1 e1 h0); have f2 := frozen_of_row _ _ 2 _ _ hr1; clear hr1 hp1 hg1)
  have HW2 : Hid (w1.setCell ⟨g, 2, none⟩ (.string ⟨hdr.toArray⟩) = w1.setRow g (rc v1 e1 (some hdr))) := Lib.hid (by rw [setCell_rowC _ _ _ _ _ _ _ HR1.out, rc_set2])
  rw [HW2.out]
  have HR2 : Hid (RV (w1.setRow g (rc v1 e1 (some hdr))) g 68 (some hdr) v1 e1) := Lib.hid (setRow_heap _ _ _ _ _ _ HR1.out)
  have hszW : w.heap.size < W0.heap.size := (Array.getElem?_eq_some_iff.1 HK0.out).1
  have HK2 : Hid ((w1.setRow g (rc v1 e1 (some hdr))).heap[w.heap.size]? = some (.cells (bc zB nilS) 26 (0, 0))) := Lib.hid (by
    rw [setRow_else _ _ _ _ (by have := HGG.out; omega), HG1.out.block _ hszW (fun e => by cases e; have := HGG.out; omega)]
    exact HK0.out)
  have HG2 : Hid (w.grownBy (w1.setRow g (rc v1 e1 (some hdr))) (some g)) := Lib.hid (grown_trans (grown_trans (grownB g HB0.out) HG1.out) (grown_setRow _ _ _))
  clear c2 f2 hszW
  generalize w1.setRow g (rc v1 e1 (some hdr)) = w2 at HR2 HK2 HG2 ⊢
  have hcv := conv_sb
  refine region_rel 12 [[], [0], [1], [2], [3], [], [5], [6], [7], [8], [4, 9], [10]]
    (SP.of [.eq (.pointer (some ⟨g, 0, none⟩)), .eq (.pointer (some ⟨g, 0, none⟩)), .eq (.pointer (some ⟨g, 2, none⟩)), .eq (.string ⟨hdr.toArray⟩), .byt w2.heap.size hdr, .eq (.pointer (some ⟨g, 0, none⟩)), .eq (.pointer (some ⟨g, 0, none⟩)), .eq (.pointer (some ⟨g, 0, none⟩)), .eq (.pointer (some ⟨g, 1, none⟩)), .eq (.int .i64 e1), .rdv w2.heap.size hdr e1, .rbx w2.heap.size hdr e1]) (fun _ => undef) ?q1 ?q2 ?q3 ?q4 ?q5 ?q6
  case q1 => kernel_rfl
  case q2 => kernel_rfl
  case q3 => kernel_rfl
  case q4 =>
    simp only [List.take_succ_cons, List.take_zero]
    repeat (first | exact trivial | refine ⟨fun vals v => by kernel_rfl, ?_⟩)
  case q5 =>
    simp only [List.take_succ_cons, List.take_zero]
    refine ⟨?_, ?_, ?_, ?_, ?_, ?_, ?_, ?_, ?_, ?_, ?_, ?_, trivial⟩
    all_goals (intro wq hbq vals; simp only [Nat.reduceAdd, Nat.zero_add, List.getD_cons_succ, List.getD_cons_zero]; have HBQ := Lib.hid hbq; have HRQ : Hid (RV wq g 68 (some hdr) v1 e1) := Lib.hid (HR2.out.on hbq); clear hbq)
    case refine_5 =>
      refine given_eq rfl (given_nil ?_)
      intro Q hQ
      simp only [putAll, upd, Act.put, List.setIfInBounds_toArray, List.set_cons_zero, List.set_cons_succ, Nat.reduceAdd, Nat.zero_add, Nat.reduceEqDiff, if_true, if_false, reduceIte]
      have hc1 := hcv wq hdr
      have HSB := Lib.hid (sb_below wq hdr)
      have HSR := Lib.hid (sb_rd wq hdr (by have := HHL.out; unfold maxLen; omega))
      generalize Lib.bytesWorld wq 5 ⟨hdr.toArray⟩ = ws at hc1 HSB HSR
      clear hcv
      go_wp2
      exact relEnd_fin hQ _ (by kernel_rfl) HSB.out ⟨HSR.out, _, _, _, rfl, HBQ.out.size⟩
    case refine_11 =>
      refine given_pred rfl ?_
      rintro _ ⟨hrd, a, n, c, rfl, hba⟩
      refine given_eq rfl (given_nil ?_)
      intro Q hQ
      simp only [putAll, upd, Act.put, List.setIfInBounds_toArray, List.set_cons_zero, List.set_cons_succ, Nat.reduceAdd, Nat.zero_add, Nat.reduceEqDiff, if_true, if_false, reduceIte]
      have HRDX := Lib.hid hrd
      have HBA := Lib.hid hba
      clear hrd hba hcv
      go_wp2
      exact relEnd_fin hQ _ (by kernel_rfl) (Below.refl _ _) ⟨a, n, c, rfl, HRDX.out, HBA.out⟩
    case refine_12 =>
      refine given_pred rfl ?_
      rintro _ ⟨a, n, c, rfl, hrd, hba⟩
      refine given_nil ?_
      intro Q hQ
      simp only [putAll, upd, Act.put, List.setIfInBounds_toArray, List.set_cons_zero, List.set_cons_succ, Nat.reduceAdd, Nat.zero_add, Nat.reduceEqDiff, if_true, if_false, reduceIte]
      have HRDX := Lib.hid hrd
      have HBA := Lib.hid hba
      clear hrd hba hcv
      go_wp2
      exact relEnd_fin hQ _ (by kernel_rfl) ((Below.refl _ _).alloc (Nat.le_refl _) _) ⟨wq.heap.size, a, n, c, rfl, HBQ.out.size, by unfold RV; rw [rc_none]; exact heap_last _ _ _ rfl, HRDX.out.alloc _, HBA.out⟩
    all_goals (repeat (first | refine given_nil ?_ | refine given_eq rfl ?_))
    all_goals (intro Q hQ; simp only [putAll, upd, Act.put, List.setIfInBounds_toArray, List.set_cons_zero, List.set_cons_succ, Nat.reduceAdd, Nat.zero_add, Nat.reduceEqDiff, if_true, if_false, reduceIte]; clear hcv)
    case refine_4 =>
      have c2 : wq.cell? ⟨g, 2, none⟩ = some (.string ⟨hdr.toArray⟩) := by rw [cell_of_row _ _ _ _ _ _ HRQ.out]; exact rc_2 v1 e1 hdr
      go_wp2
      exact relEnd_fin hQ _ (by kernel_rfl) (Below.refl _ _) rfl
    case refine_10 =>
      have c1 : wq.cell? ⟨g, 1, none⟩ = some (.int .i64 e1) := by rw [cell_of_row _ _ _ _ _ _ HRQ.out]; exact rc_1 v1 e1 (some hdr)
      go_wp2
      exact relEnd_fin hQ _ (by kernel_rfl) (Below.refl _ _) rfl
    all_goals go_wp2
    all_goals exact relEnd_fin hQ _ (by kernel_rfl) (Below.refl _ _) rfl
  case q6 =>
    intro w3 hb3 vals
    rw [show List.range 12 = [0, 1, 2, 3, 4, 5, 6, 7, 8, 9, 10, 11] from by decide]
    refine given_eq rfl (given_eq rfl (given_eq rfl (given_eq rfl (given_pred rfl ?_))))
    intro x4 hx4
    refine given_eq rfl (given_eq rfl (given_eq rfl (given_eq rfl (given_eq rfl (given_pred rfl ?_)))))
    intro x10 hx10
    refine given_pred rfl ?_
    intro x11 hx11
    refine given_nil ?_
    obtain ⟨gh, a0, n0, c0, rfl, hgh, hrv, hrd, hba⟩ := hx11
    clear hx4 hx10
    simp only [List.take_succ_cons, List.take_zero, List.drop_succ_cons, List.drop_zero]
    simp only [putAll, upd, Act.put, List.setIfInBounds_toArray, List.set_cons_zero, List.set_cons_succ, Nat.reduceAdd, Nat.zero_add, Nat.reduceEqDiff, if_true, if_false, reduceIte]
    have HS3 : Hid (PkS w g hdr v1 e1 gh (.slice (some a0) n0 c0) w3 zB (.slice (some a0) n0 c0) hdr e1) := Lib.hid
      ⟨by rw [hb3.block _ (Array.getElem?_eq_some_iff.1 HK2.out).1]; exact HK2.out, HR2.out.on hb3, hrv, hrd, fun _ h => h, grown_then HG2.out hb3, by have := (Array.getElem?_eq_some_iff.1 HK2.out).1; omega, HGG.out, fun e => by have e2 : a0.block = w.heap.size := Option.some.inj e; have := (Array.getElem?_eq_some_iff.1 HK2.out).1; omega, Nat.le_refl _⟩
    clear hb3 hrv hrd hba hgh hcv
    have C4 := Lib.hid (readD_c gh 66 none _ hdr e1 w3 HS3.out.hv HS3.out.rdh)
    have HL1 := Lib.hid (rdR_len decD hdr e1)
    generalize hdom : rdV z16 decD hdr e1 = dom at C4
    generalize hr1 : rdR decD hdr e1 = r1 at C4 HL1
    generalize hx1 : rdX decD hdr e1 = x1 at C4
    have EDOM := Lib.hid hdom
    have ER1 := Lib.hid hr1
    have EX1 := Lib.hid hx1
    clear hdom hr1 hx1
    go_upto_region 4 with (first
      | (go_at_call 65; refine C4.out.mono ?_; rintro en w4 ⟨v4, rfl, hr4, hp4, hg4⟩; have HS4 := Lib.hid (HS3.out.step hg4 hr4 hp4 HL1.out); clear hr4 hp4 hg4)
      | (refine st_dom zB nilS dom w.heap.size HS4.out.bk rfl (.tmp 26) (.tmp 25) rfl rfl rfl ?_))
    have HS5 := Lib.hid (HS4.out.setB { zB with dom := dom })
    generalize w4.setRow w.heap.size (bc { zB with dom := dom } nilS) = w5 at HS5 ⊢
    generalize hb0 : { zB with dom := dom } = b0 at HS5
    have EB0 := Lib.hid hb0
    have C5 := Lib.hid (readI_c gh 66 none _ r1 x1 w5 HS5.out.hv HS5.out.rdh (by have := HS5.out.le; have := HHL.out; omega))
    have HL2 := Lib.hid (rdR_len decIs r1 x1)
    generalize hl : rdV [] decIs r1 x1 = l at C5
    generalize hr2 : rdR decIs r1 x1 = r2 at C5 HL2
    generalize hx2 : rdX decIs r1 x1 = x2 at C5
    have EL := Lib.hid hl
    have ER2 := Lib.hid hr2
    have EX2 := Lib.hid hx2
    have HN : Hid ((((l.length : Int) == 4) = decide (l.length = 4))) := Lib.hid (by by_cases h0 : l.length = 4 <;> simp [h0]; omega)
    clear hb0 hl hr2 hx2
    generalize he3 : (if x2 = 0 ∧ decide (l.length = 4) = false then 6 else x2) = e3
    have E3 := Lib.hid he3
    clear he3
    go_upto_if 33 with (first
      | (go_at_call 67; refine C5.out.mono ?_; rintro en w6 ⟨x6, v6, rfl, ho6, hr6, hp6, hg6⟩; have HO6 := Lib.hid ho6; have HS6 := Lib.hid (HS5.out.step hg6 hr6 hp6 HL2.out); obtain ⟨la, lc, rfl, _, _, _⟩ := ho6.rd; clear hr6 hp6 hg6 ho6)
      | (go_at_call 36; rw [HN.out]; refine (check_x gh _ none _ x2 (decide (l.length = 4)) 6 _ HS6.out.hv).mono ?_; rintro en w7 ⟨rfl, hw7⟩; have HG7 := Lib.hid (check_gr hw7); have HR7 := Lib.hid (check_rv HS6.out.hv hw7); rw [E3.out] at HR7; clear hw7; rw [E3.out]))
    have HS7 := Lib.hid (HS6.out.step HG7.out HR7.out (fun _ h => h) (Nat.le_refl _))
    have hgh5 : gh < w5.heap.size := HS5.out.hv.lt
    have HO7 := Lib.hid (HO6.out.grown HG7.out (fun g2 hg2 => by cases hg2; exact HO6.out.neOld hgh5))
    generalize hb1 : (if e3 = 0 then setN b0 l else b0) = b1
    have EB1 := Lib.hid hb1
    clear hb1 hgh5
    go_cut [33] from 34 to 49 (fun _ wc => Hid (PkS w g hdr v1 e1 gh (.slice (some a0) n0 c0) wc b1 v6 r2 e3))
    case first =>
      by_cases h30 : e3 = 0
      · have hd : decide (e3 = 0) = true := decide_eq_true h30
        have hl4 : l.length = 4 := by
          have h := E3.out
          rw [h30] at h
          split at h
          · cases h
          · rename_i hn
            exact Decidable.of_not_not (fun h4 => hn ⟨h, decide_eq_false h4⟩)
        obtain ⟨m0, m1, m2, m3, rfl⟩ : ∃ m0 m1 m2 m3, l = [m0, m1, m2, m3] := by
          match l, hl4 with
          | [m0, m1, m2, m3], _ => exact ⟨m0, m1, m2, m3, rfl⟩
        obtain ⟨bl, off, rfl, hbl, hrow⟩ := RdI_cells HO7.out.rd (by simp)
        have y0 := hrow 0 (by simp)
        have y1 := hrow 1 (by simp)
        have y2 := hrow 2 (by simp)
        have y3 := hrow 3 (by simp)
        rw [Nat.add_zero] at y0
        simp only [List.getElem_cons_zero, List.getElem_cons_succ] at y0 y1 y2 y3
        have hge : w5.heap.size ≤ bl := (HO7.out.lt bl rfl).1
        have hgb5 : w.heap.size < w5.heap.size := (Array.getElem?_eq_some_iff.1 HS5.out.bk).1
        have z1 : w.heap.size ≠ bl := by omega
        have z2 : bl ≠ w.heap.size := by omega
        have k16 : w7.cell? ⟨w.heap.size, 16, none⟩ = some (.int .i64 b0.ep) := by rw [cell_of_row _ _ _ _ _ _ HS7.out.bk]; exact bc_16 b0 nilS
        have k17 : w7.cell? ⟨w.heap.size, 17, none⟩ = some (.int .i64 b0.num) := by rw [cell_of_row _ _ _ _ _ _ HS7.out.bk]; exact bc_17 b0 nilS
        have k18 : w7.cell? ⟨w.heap.size, 18, none⟩ = some (.int .i64 b0.fw) := by rw [cell_of_row _ _ _ _ _ _ HS7.out.bk]; exact bc_18 b0 nilS
        have k19 : w7.cell? ⟨w.heap.size, 19, none⟩ = some (.int .i64 b0.tm) := by rw [cell_of_row _ _ _ _ _ _ HS7.out.bk]; exact bc_19 b0 nilS
        have f16 := frozen_of_row _ _ 16 _ _ HS7.out.bk
        have f17 := frozen_of_row _ _ 17 _ _ HS7.out.bk
        have f18 := frozen_of_row _ _ 18 _ _ HS7.out.bk
        have f19 := frozen_of_row _ _ 19 _ _ HS7.out.bk
        have HEB : Hid (setN b0 [m0, m1, m2, m3] = b1) := Lib.hid (by rw [← EB1.out, if_pos h30])
        have HW8 : Hid ((((w7.setCell ⟨w.heap.size, 16, none⟩ (.int .i64 m0)).setCell ⟨w.heap.size, 17, none⟩ (.int .i64 m1)).setCell ⟨w.heap.size, 18, none⟩ (.int .i64 m2)).setCell ⟨w.heap.size, 19, none⟩ (.int .i64 m3) = w7.setRow w.heap.size (bc (setN b0 [m0, m1, m2, m3]) nilS)) := Lib.hid (by
          have q1 := HS7.out.bk
          rw [setCell_rowC _ _ _ _ _ _ _ q1, bcset_16]
          rw [setCell_rowC _ _ _ _ _ _ _ (setRow_heap _ _ _ _ _ _ q1), bcset_17, setRow_setRow]
          rw [setCell_rowC _ _ _ _ _ _ _ (setRow_heap _ _ _ _ _ _ q1), bcset_18, setRow_setRow]
          rw [setCell_rowC _ _ _ _ _ _ _ (setRow_heap _ _ _ _ _ _ q1), bcset_19, setRow_setRow]
          rfl)
        clear hrow hge hgb5 hl4 hd
        go_wp2
        go_region
        all_goals go_wp2
        all_goals go_meet
        case rel =>
          have hs := HS7.out.setB (setN b0 [m0, m1, m2, m3])
          rw [← HW8.out] at hs
          rw [← HEB.out]
          exact Lib.hid (hs.on (below_drewN 1 (Below.refl _ _)))
      · have hd : decide (e3 = 0) = false := decide_eq_false h30
        have HEB : Hid (b0 = b1) := Lib.hid (by rw [← EB1.out, if_neg h30])
        clear hd
        go_wp2
        all_goals go_meet
        case rel => rw [← HEB.out]; exact HS7
    case rest =>
      have HST := Lib.hid hcut.out
      have C8 := Lib.hid (readD_c gh 66 none v6 r2 e3 wc HST.out.hv HST.out.rdh)
      have HL3 := Lib.hid (rdR_len decD r2 e3)
      generalize hpol : rdV z16 decD r2 e3 = pol at C8
      generalize hr3 : rdR decD r2 e3 = r3 at C8 HL3
      generalize hx4 : rdX decD r2 e3 = x4' at C8
      have EPOL := Lib.hid hpol
      have ER3 := Lib.hid hr3
      have EX4 := Lib.hid hx4
      clear hpol hr3 hx4 hcut
      go_upto_region 8 with (first
        | (go_at_call 65; refine C8.out.mono ?_; rintro en w8 ⟨v8, rfl, hr8, hp8, hg8⟩; have HS8 := Lib.hid (HST.out.step hg8 hr8 hp8 HL3.out); clear hr8 hp8 hg8)
        | (refine st_pol b1 nilS pol w.heap.size HS8.out.bk rfl (.tmp 52) (.tmp 51) rfl rfl rfl ?_))
      have HS9 := Lib.hid (HS8.out.setB { b1 with pol := pol })
      generalize w8.setRow w.heap.size (bc { b1 with pol := pol } nilS) = w9 at HS9 ⊢
      generalize hb2 : { b1 with pol := pol } = b2 at HS9
      have EB2 := Lib.hid hb2
      have C9 := Lib.hid (wholeS_c gh 66 none _ r3 x4' w9 HS9.out.hv HS9.out.rdh (by have := HS9.out.le; have := HHL.out; omega))
      have HL4 := Lib.hid (rdR_len decS r3 x4')
      have HML := Lib.hid (Nat.le_trans (rdVS_len r3 x4') HS9.out.le)
      generalize hmo : rdV [] decS r3 x4' = mo at C9 HML
      generalize rdR decS r3 x4' = r4 at C9 HL4
      generalize hx5 : whX decS r3 x4' = x5 at C9
      have EMO := Lib.hid hmo
      have EX5 := Lib.hid hx5
      clear hb2 hmo hx5
      go_upto_region 9 with (go_at_call 69; refine C9.out.mono ?_; rintro en w10 ⟨_, v10, rfl, rfl, hr10, hp10, hg10⟩; have HS10 := Lib.hid (HS9.out.step hg10 hr10 hp10 HL4.out); have k36 : w10.cell? ⟨w.heap.size, 36, none⟩ = some (.string ⟨b2.mo.toArray⟩) := (by rw [cell_of_row _ _ _ _ _ _ HS10.out.bk]; exact bc_36 b2 nilS); have f36 := frozen_of_row _ _ 36 _ _ HS10.out.bk; clear hr10 hp10 hg10)
      have HW11 : Hid (w10.setCell ⟨w.heap.size, 36, none⟩ (.string ⟨mo.toArray⟩) = w10.setRow w.heap.size (bc { b2 with mo := mo } nilS)) := Lib.hid (by rw [setCell_rowC _ _ _ _ _ _ _ HS10.out.bk, bcset_36])
      rw [HW11.out]
      have HS11 := Lib.hid (HS10.out.setB { b2 with mo := mo })
      clear k36 f36
      generalize w10.setRow w.heap.size (bc { b2 with mo := mo } nilS) = w11 at HS11 ⊢
      have HMO3 : Hid (({ b2 with mo := mo } : BK).mo.length ≤ maxLen) := Lib.hid (by have := HML.out; have := HHL.out; show mo.length ≤ maxLen; unfold maxLen; omega)
      generalize hb3 : { b2 with mo := mo } = b3 at HS11 HMO3
      have EB3 := Lib.hid hb3
      have C11 := Lib.hid (validB_c b3 nilS [] w11 ⟨none, 0, rfl, Nat.le_refl _, by unfold maxLen; omega, fun h => absurd h (by simp)⟩ (fun i hi => absurd hi (by simp)) HMO3.out)
      clear hb3
      generalize hva : validB b3 [] = va at C11
      have EVA := Lib.hid hva
      clear hva
      generalize he6 : (if x5 = 0 ∧ va = false then 6 else x5) = x6
      have E6 := Lib.hid he6
      clear he6
      go_upto_region 10 with (first
        | (refine ld_bk b3 nilS rfl (.tmp 2) rfl w.heap.size rfl _ HS11.out.bk ?_)
        | (go_at_call 24; refine C11.out.mono ?_; rintro en w12 ⟨rfl, hb12⟩; have HS12 := Lib.hid (HS11.out.on hb12); clear hb12)
        | (go_at_call 36; refine (check_x gh _ none _ x5 va 6 _ HS12.out.hv).mono ?_; rintro en w13 ⟨rfl, hw13⟩; have HG13 := Lib.hid (check_gr hw13); have HR13 := Lib.hid (check_rv HS12.out.hv hw13); rw [E6.out] at HR13; clear hw13; rw [E6.out]))
      have HS13 := Lib.hid (HS12.out.step HG13.out HR13.out (fun _ h => h) (Nat.le_refl _))
      have m1 : w13.cell? ⟨gh, 1, none⟩ = some (.int .i64 x6) := by rw [cell_of_row _ _ _ _ _ _ HS13.out.hv]; exact rc_1 _ x6 none
      have m2 : w13.cell? ⟨g, 1, none⟩ = some (.int .i64 e1) := by rw [cell_of_row _ _ _ _ _ _ HS13.out.rv]; exact rc_1 _ e1 (some hdr)
      have m3 := frozen_of_row _ _ 1 _ _ HS13.out.rv
      have HW14 : Hid (w13.setCell ⟨g, 1, none⟩ (.int .i64 x6) = w13.setRow g (rc v1 x6 (some hdr))) := Lib.hid (by rw [setCell_rowC _ _ _ _ _ _ _ HS13.out.rv, rc_set1])
      go_upto_region 11 with fail
      rw [HW14.out]
      have HR14 : Hid (RV (w13.setRow g (rc v1 x6 (some hdr))) g 68 (some hdr) v1 x6) := Lib.hid (setRow_heap _ _ _ _ _ _ HS13.out.rv)
      have HK14 : Hid ((w13.setRow g (rc v1 x6 (some hdr))).heap[w.heap.size]? = some (.cells (bc b3 nilS) 26 (0, 0))) := Lib.hid (by rw [setRow_else _ _ _ _ (by have := HGG.out; omega)]; exact HS13.out.bk)
      have HG14 : Hid (w.grownBy (w13.setRow g (rc v1 x6 (some hdr))) (some g)) := Lib.hid (grown_trans HS13.out.gr (grown_setRow _ _ _))
      clear m1 m2 m3
      generalize w13.setRow g (rc v1 x6 (some hdr)) = w14 at HR14 HK14 HG14 ⊢
      go_wp2_with (first
        | (refine ld_bk b3 nilS rfl (.tmp 2) rfl w.heap.size rfl _ HK14.out ?_)
        | (refine wpList_store_row rfl 26 (.tmp 2) (.tmp 68) rfl w.heap.size (bc b3 nilS) rfl rfl _ _ HK14.out (by rw [bc_size]; exact info_b) rfl (bcone _ _ _ _) ?_))
      refine bodyPost_ret (results_row1 rfl _ _ w.heap.size _ rfl (run_bkrow _ _ b3 nilS _ (setRow_heap _ _ _ _ _ _ HK14.out))) rfl ?_
      have HDE : hdE hdr e1 = e3 := by
        unfold hdE
        simp only [ER1.out, EX1.out, EX2.out, EL.out]
        exact E3.out
      have HDB : hdB hdr e1 = b3 := by
        unfold hdB
        simp only [EDOM.out, ER1.out, EX1.out, EL.out, ER2.out, HDE, EPOL.out, ER3.out, EX4.out, EMO.out]
        rw [← EB3.out, ← EB2.out, ← EB1.out, ← EB0.out]
      have HDX : hdX hdr e1 = x6 := by
        unfold hdX
        simp only [HDB, ER1.out, EX1.out, ER2.out, HDE, ER3.out, EX4.out, EX5.out, EVA.out]
        exact E6.out
      refine ⟨v1, by rw [HDB], ?_, HP1.out, grown_new _ HG14.out (Nat.le_refl _)⟩
      rw [HDX]
      unfold RV
      rw [setRow_else _ _ _ _ (by have := HGG.out; omega)]
      exact HR14.out
end Go.Proofs.YtbpjdfnnlmblaaaDoor
/- A key is read out of an element of the content. -/
namespace Go.Proofs.YtbpjdfnnlmblaaaDoor
open Go.RowKit Go.Shelf
set_option linter.unusedSimpArgs false
set_option linter.unusedVariables false
def zK : K := ⟨0, 0, [], 0, 0, 0, 0, 0, false⟩
/-- the key of numbers and a value -/
def mkK (l : List Int) (v : List UInt8) : K := ⟨l.getD 0 0, l.getD 1 0, v, l.getD 2 0, l.getD 3 0, l.getD 4 0, l.getD 5 0, l.getD 6 0, l.getD 7 0 == 1⟩
/-- the error of a key's numbers -/
def kE2 (p : List UInt8) : Int := if whX decIs p 0 = 0 ∧ decide ((rdV [] decIs p 0).length = 8) = false then 6 else whX decIs p 0
def kN (p : List UInt8) : Int := if kE2 p = 0 ∧ win ((rdV [] decIs p 0).getD 7 0) 0 1 = false then 6 else kE2 p
def kE1 (s : List UInt8) (e : Int) : Int := if whX decSs s e = 0 ∧ decide ((rdV [] decSs s e).length = 2) = false then 6 else whX decSs s e
/-- the error behind a key, the key -/
def keyE (s : List UInt8) (e : Int) : Int := if kE1 s e = 0 then kN ((rdV [] decSs s e).getD 0 []) else kE1 s e
def keyK (s : List UInt8) (e : Int) : K := if keyE s e = 0 then mkK (rdV [] decIs ((rdV [] decSs s e).getD 0 []) 0) ((rdV [] decSs s e).getD 1 []) else zK
theorem zero_key' : (Tryd.prog.info? 48).map (·.zero) = some (some (.agg (kc zK))) := by kernel_rfl
theorem zero_key (w : World) : (zeroValue 48).run Tryd.prog w = .ok (.agg (kc zK)) w := by
  have h := zero_key'
  generalize kc zK = L at h ⊢
  cases hq : Tryd.prog.info? 48 with
  | none => rw [hq] at h; cases h
  | some i =>
    rw [hq] at h
    simp at h
    simp [zeroValue, typeInfo, hq, h]
theorem row_by {x y : World} {g k : Nat} {o : Obj} (h : x.heap[k]? = some o) (hy : x.grownBy y (some g)) (hne : k ≠ g) : y.heap[k]? = some o := by
  rw [hy.block _ (Array.getElem?_eq_some_iff.1 h).1 (fun e => hne (Option.some.inj e))]
  exact h
theorem RV.by {x y : World} {g k : Nat} {T : TypeId} {tl : Option (List UInt8)} {v : Value} {e : Int} (h : RV x k T tl v e) (hy : x.grownBy y (some g)) (hne : k ≠ g) : RV y k T tl v e := row_by h hy hne
/-- a list of one's own behind the writing of an older or a newer block -/
theorem OwnE.byO {α : Type} {E : El α} {x y : World} {base : Nat} {v : Value} {l : List α} {g : Nat} (h : OwnE E x base v l) (hy : x.grownBy y (some g)) (hne : g < base) : OwnE E y base v l :=
  h.grown hy (fun g2 hg2 => by cases hg2; exact h.neOld hne)
theorem grown_otherN {w x y : World} {g g2 : Nat} (h : w.grownBy x (some g)) (hy : x.grownBy y (some g2)) (hge : w.heap.size ≤ g2) : w.grownBy y (some g) :=
  ⟨hy.os.trans h.os, hy.tape.trans h.tape, hy.output.trans h.output, Nat.le_trans h.size hy.size, fun k hk hne => (hy.block k (Nat.lt_of_lt_of_le hk h.size) (fun e => by cases e; omega)).trans (h.block k hk hne)⟩
theorem ld_key0 {ops : Array Oper} {rest : List Oper} {o : Oper} {a : Act} {w : World} {Q : Exit → Act → World → Prop} (k : K) (g : Nat) (T : TypeId) (hg : w.heap[g]? = some (.cells (kc k) T (0, 0)))
    (hgd : o.guard = none) (x : Operand) (ho : o.op = .load 48 x) (hx : a.eval x = .pointer (some ⟨g, 0, none⟩))
    (h : wpList Tryd.prog ops Q rest (a.put o.dst (.agg (kc k))) w) : wpList Tryd.prog ops Q (o :: rest) a w :=
  wpList_load_row hgd _ x ho g hx _ (kc k) (0, 0) _ hg Tryd.underlying48 rfl (by kernel_rfl) h
theorem kc_one (k : K) : (kc k).all (·.oneCell') = true := by
  unfold kc
  simp [Value.oneCell']
theorem st_key0 {ops : Array Oper} {rest : List Oper} {o : Oper} {a : Act} {w : World} {Q : Exit → Act → World → Prop} (k k0 : K) (hgd : o.guard = none) (x y : Operand) (ho : o.op = .store 48 x y)
    (g : Nat) (hx : a.eval x = .pointer (some ⟨g, 0, none⟩)) (hy : a.eval y = .agg (kc k)) (T : TypeId) (hg : w.heap[g]? = some (.cells (kc k0) T (0, 0)))
    (h : wpList Tryd.prog ops Q rest (a.put o.dst undef) (w.setRow g (kc k))) : wpList Tryd.prog ops Q (o :: rest) a w :=
  wpList_store_row hgd _ x y ho g (kc k) hx hy T (kc k0) hg (by kernel_rfl) rfl (kc_one k) h
theorem run_keyrow (w : World) (g : Nat) (k : K) (T : TypeId) (hg : w.heap[g]? = some (.cells (kc k) T (0, 0))) : (loadVar 48 ⟨g, 0, none⟩).run Tryd.prog w = .ok (.agg (kc k)) w :=
  run_loadVar_row w g T 48 (kc k) (0, 0) _ hg Tryd.underlying48 rfl (by kernel_rfl)
theorem q_build {ops : Array Oper} {C : World → Prop} {Q : Act → Prop} {a : Act} {o : Oper} {rest : List Oper} (hw : Region.wanted o (yielded ops a.tmps) = true) (T : TypeId) (parts : Array (Nat × Operand)) (ho : o.op = .build T parts)
    (cs : Array Value) (hb : Tryd.prog.built T (parts.map fun (i, x) => (i, a.eval x)).toList = some cs) (h : wpQuiet Tryd.prog ops C Q rest (a.put o.dst (.agg cs))) : wpQuiet Tryd.prog ops C Q (o :: rest) a := by
  unfold wpQuiet
  rw [if_pos hw]
  refine ⟨.agg cs, fun w' hw' => ?_, h⟩
  unfold Oper.quietAt execOp
  simp only [ho, Sem.run_bind, Sem.run_pure, Result.andThen_ok, run_build w' T _ cs hb]
  exact ⟨rfl, rfl⟩
theorem len_catS (l : List (List UInt8)) (x : List UInt8) (h : x ∈ l) : x.length ≤ (catE encS l).length := by
  induction l with
  | nil => cases h
  | cons y l ih =>
    rw [catE_cons, List.length_append]
    rcases List.mem_cons.1 h with rfl | h
    · unfold encS; rw [List.length_append]; omega
    · have := ih h; omega
theorem rdVL_len (s : List UInt8) (e : Int) (x : List UInt8) (h : x ∈ rdV [] decSs s e) : x.length ≤ s.length := by
  rcases rd_parts [] decSs s e with ⟨_, p3, _⟩ | ⟨_, _, p3, _⟩ | ⟨_, p2, p3, _⟩
  · rw [p3] at h; cases h
  · rw [p3] at h; cases h
  · rw [p3] at h
    have h3 := congrArg List.length (decL_ok codecS s _ _ (show decL decS s = ((decSs s).1, (decSs s).2.1, 0) by rw [← p2]; rfl)).1
    have h4 := len_catS _ x h
    unfold encL at h3
    rw [List.length_append, List.length_append] at h3
    omega
attribute [local irreducible] Calls rc win
set_option maxRecDepth 100000 in
set_option maxHeartbeats 4000000 in
theorem key_c (g : Nat) (T : TypeId) (tl : Option (List UInt8)) (v : Value) (e : Int) (s : List UInt8) (w : World) (h1 : RV w g T tl v e) (hl : s.length ≤ 900000) :
    Calls Tryd.prog 35 #[.pointer (some ⟨g, 0, none⟩), .string ⟨s.toArray⟩] w fun en w' => en = .returned (kv (keyK s e)) ∧ RV w' g T tl v (keyE s e) ∧ w.grownBy w' (some g) := by
  have hz := zero_key
  have HL := Lib.hid hl
  have HGG := Lib.hid h1.lt
  obtain ⟨W0, hW0⟩ : ∃ W0, W0 = w.alloc (.cells (kc zK) 48) := ⟨_, rfl⟩
  have HW := Lib.hid hW0
  have HB0 : Hid (Below w.heap.size w W0) := Lib.hid (by rw [hW0]; exact (Below.refl _ _).alloc (Nat.le_refl _) _)
  have HK0 : Hid (W0.heap[w.heap.size]? = some (.cells (kc zK) 48 (0, 0))) := Lib.hid (by rw [hW0]; exact heap_last _ _ _ rfl)
  have HR0 : Hid (RV W0 g T tl v e) := Lib.hid (h1.on HB0.out)
  have c1 : W0.cell? ⟨g, 1, none⟩ = some (.int .i64 e) := by rw [cell_of_row _ _ _ _ _ _ HR0.out]; exact rc_1 v e tl
  have hcv := conv_sb W0 s
  have HSB := Lib.hid (sb_below W0 s)
  have HSR := Lib.hid (sb_rd W0 s (by unfold maxLen; omega))
  generalize Lib.bytesWorld W0 5 ⟨s.toArray⟩ = ws at hcv HSB HSR
  have c1s : ws.cell? ⟨g, 1, none⟩ = some (.int .i64 e) := by rw [HSB.out.cell (p := ⟨g, 1, none⟩) HR0.out.lt]; exact c1
  generalize hn0 : (Value.slice (some ⟨W0.heap.size, 0, none⟩) s.length (grownCap W0 s.length 0 5)) = vx at hcv HSR
  have HVX := Lib.hid hn0
  rw [← hn0] at hcv
  clear h1 hl hW0 hn0 c1
  go_enter Tryd.func35, Tryd.ntmps35
  go_upto_region 1 with fail
  rw [← HW.out]
  go_upto_region 2 with fail
  have HX1 : Hid (RV (ws.alloc (.cells #[.slice (some ⟨W0.heap.size, 0, none⟩) s.length (grownCap W0 s.length 0 5), .int .i64 e] 66)) ws.heap.size 66 none vx e) := Lib.hid (by unfold RV; rw [rc_none, ← HVX.out]; exact heap_last _ _ _ rfl)
  have HA1 := Lib.hid ((Below.refl ws.heap.size ws).alloc (Nat.le_refl _) (.cells #[.slice (some ⟨W0.heap.size, 0, none⟩) s.length (grownCap W0 s.length 0 5), .int .i64 e] 66))
  have HGX : Hid (w.heap.size < ws.heap.size) := Lib.hid (Nat.lt_of_lt_of_le (Array.getElem?_eq_some_iff.1 HK0.out).1 HSB.out.size)
  generalize ws.alloc (.cells #[.slice (some ⟨W0.heap.size, 0, none⟩) s.length (grownCap W0 s.length 0 5), .int .i64 e] 66) = w1 at HX1 HA1 ⊢
  have HB1 : Hid (Below W0.heap.size W0 w1) := Lib.hid (HSB.out.trans (HA1.out.mono HSB.out.size))
  have HK1 : Hid (w1.heap[w.heap.size]? = some (.cells (kc zK) 48 (0, 0))) := Lib.hid (by rw [HB1.out.block _ (Array.getElem?_eq_some_iff.1 HK0.out).1]; exact HK0.out)
  have HR1 := Lib.hid (HR0.out.on HB1.out)
  have HG1 := Lib.hid (grown_then (grownB g HB0.out) HB1.out)
  have HRX := Lib.hid (HSR.out.on HA1.out)
  generalize hgx : ws.heap.size = gx at HX1 HGX
  clear hcv c1s hgx
  have C2 := Lib.hid (wholeL_c gx 66 none vx s e w1 HX1.out HRX.out HL.out)
  generalize hps : rdV [] decSs s e = ps at C2
  generalize rdR decSs s e = rr at C2
  generalize hpx : whX decSs s e = px at C2
  have EPS := Lib.hid hps
  have EPX := Lib.hid hpx
  have HN : Hid ((((ps.length : Int) == 2) = decide (ps.length = 2))) := Lib.hid (by by_cases h0 : ps.length = 2 <;> simp [h0]; omega)
  generalize he1 : (if px = 0 ∧ decide (ps.length = 2) = false then 6 else px) = e1
  have EE1 := Lib.hid he1
  have HE1 : Hid (kE1 s e = e1) := Lib.hid (by unfold kE1; rw [hps, hpx, he1])
  clear hps hpx he1
  have hgx1 := HX1.out.lt
  have HGX1 := Lib.hid hgx1
  clear hgx1
  go_upto_if 23 with (first
    | (go_at_call 33; refine C2.out.mono ?_; rintro en w2 ⟨x2, v2, rfl, ho2, hr2, hp2, hg2⟩; have HO2 := Lib.hid ho2; have HX2 := Lib.hid hr2; have HG12 := Lib.hid hg2; obtain ⟨pa, pc2, rfl, _, _, _⟩ := ho2.rd; clear hr2 hp2 hg2 ho2)
    | (go_at_call 36; rw [HN.out]; refine (check_x gx _ none _ px (decide (ps.length = 2)) 6 _ HX2.out).mono ?_; rintro en w3 ⟨rfl, hw3⟩; have HG23 := Lib.hid (check_gr hw3); have HX3 := Lib.hid (check_rv HX2.out hw3); rw [EE1.out] at HX3; clear hw3; rw [EE1.out]))
  have HG13 := Lib.hid (grown_trans HG12.out HG23.out)
  have HK3 := Lib.hid (row_by HK1.out HG13.out (by have := HGX.out; omega))
  have HR3 := Lib.hid (HR1.out.by HG13.out (by have := HGX.out; have := HGG.out; omega))
  have HG3 := Lib.hid (grown_otherN HG1.out HG13.out (by have := HGX.out; omega))
  have HO3 := Lib.hid (HO2.out.byO HG23.out HGX1.out)
  by_cases h10 : e1 = 0
  · subst h10
    have hl2 : ps.length = 2 := by
      have h := EE1.out
      split at h
      · cases h
      · rename_i hn
        exact Decidable.of_not_not (fun h4 => hn ⟨h, decide_eq_false h4⟩)
    obtain ⟨p0, p1, rfl⟩ : ∃ p0 p1, ps = [p0, p1] := by
      match ps, hl2 with
      | [p0, p1], _ => exact ⟨p0, p1, rfl⟩
    have HPL : Hid (p0.length ≤ 900000) := Lib.hid (Nat.le_trans (rdVL_len s e p0 (by rw [EPS.out]; simp)) HL.out)
    obtain ⟨bp, op, rfl, hbp, hrow⟩ := RdS_cells HO3.out.rd (by simp)
    have y0 := hrow 0 (by simp)
    rw [Nat.add_zero] at y0
    simp only [List.getElem_cons_zero] at y0
    have hcv3 := conv_sb w3 p0
    have HSB3 := Lib.hid (sb_below w3 p0)
    have HSR3 := Lib.hid (sb_rd w3 p0 (by have := HPL.out; unfold maxLen; omega))
    generalize Lib.bytesWorld w3 5 ⟨p0.toArray⟩ = ws3 at hcv3 HSB3 HSR3
    generalize hn3 : (Value.slice (some ⟨w3.heap.size, 0, none⟩) p0.length (grownCap w3 p0.length 0 5)) = vn at HSR3
    have HVN := Lib.hid hn3
    clear hrow hl2 hn3
    go_upto_region 5 with fail
    have HN4 : Hid (RV (ws3.alloc (.cells #[.slice (some ⟨w3.heap.size, 0, none⟩) p0.length (grownCap w3 p0.length 0 5), .int .i64 0] 66)) ws3.heap.size 66 none vn 0) := Lib.hid (by unfold RV; rw [rc_none, ← HVN.out]; exact heap_last _ _ _ rfl)
    have HA4 := Lib.hid ((Below.refl ws3.heap.size ws3).alloc (Nat.le_refl _) (.cells #[.slice (some ⟨w3.heap.size, 0, none⟩) p0.length (grownCap w3 p0.length 0 5), .int .i64 0] 66))
    have HGN : Hid (w3.heap.size ≤ ws3.heap.size) := Lib.hid HSB3.out.size
    generalize ws3.alloc (.cells #[.slice (some ⟨w3.heap.size, 0, none⟩) p0.length (grownCap w3 p0.length 0 5), .int .i64 0] 66) = w4 at HN4 HA4 ⊢
    have HB34 : Hid (Below w3.heap.size w3 w4) := Lib.hid (HSB3.out.trans (HA4.out.mono HSB3.out.size))
    have HK4 : Hid (w4.heap[w.heap.size]? = some (.cells (kc zK) 48 (0, 0))) := Lib.hid (by rw [HB34.out.block _ (Array.getElem?_eq_some_iff.1 HK3.out).1]; exact HK3.out)
    have HR4 := Lib.hid (HR3.out.on HB34.out)
    have HX4 := Lib.hid (HX3.out.on HB34.out)
    have HG4 := Lib.hid (grown_then HG3.out HB34.out)
    have HRN := Lib.hid (HSR3.out.on HA4.out)
    have HO4 := Lib.hid (HO3.out.on HB34.out)
    have HGXN : Hid (gx < ws3.heap.size) := Lib.hid (Nat.lt_of_lt_of_le HX3.out.lt HSB3.out.size)
    have HPN : Hid (bp < ws3.heap.size) := Lib.hid (Nat.lt_of_lt_of_le hbp HSB3.out.size)
    have HPO : Hid (w1.heap.size ≤ bp) := Lib.hid (HO3.out.lt bp rfl).1
    generalize hgn : ws3.heap.size = gn at HN4 HGN HGXN HPN
    clear hcv3 y0 hbp hgn
    have C5 := Lib.hid (wholeI_c gn 66 none vn p0 0 w4 HN4.out HRN.out HPL.out)
    generalize hls : rdV [] decIs p0 0 = l at C5
    generalize rdR decIs p0 0 = rr5 at C5
    generalize hnx : whX decIs p0 0 = nx at C5
    have ELS := Lib.hid hls
    have ENX := Lib.hid hnx
    have HN8 : Hid ((((l.length : Int) == 8) = decide (l.length = 8))) := Lib.hid (by by_cases h0 : l.length = 8 <;> simp [h0]; omega)
    generalize he2 : (if nx = 0 ∧ decide (l.length = 8) = false then 6 else nx) = e2
    have EE2 := Lib.hid he2
    have HE2 : Hid (kE2 p0 = e2) := Lib.hid (by unfold kE2; rw [hls, hnx, he2])
    clear hls hnx he2
    have HGN4 : Hid (gn < w4.heap.size) := Lib.hid HN4.out.lt
    go_upto_region 6 with (go_at_call 72; refine C5.out.mono ?_; rintro en w5 ⟨x5, v5, rfl, ho5, hr5, hp5, hg5⟩; have HO5 := Lib.hid ho5; have HN5 := Lib.hid hr5; have HG45 := Lib.hid hg5; obtain ⟨la, lc, rfl, _, _, _⟩ := ho5.rd; clear hr5 hp5 hg5 ho5)
    have HK5 := Lib.hid (row_by HK4.out HG45.out (by have := HGX.out; have := HGXN.out; omega))
    have HR5 := Lib.hid (HR4.out.by HG45.out (by have := HGX.out; have := HGG.out; have := HGXN.out; omega))
    have HX5 := Lib.hid (HX4.out.by HG45.out (by have := HGXN.out; omega))
    have HG5 := Lib.hid (grown_otherN HG4.out HG45.out (by have := HGX.out; have := HGXN.out; omega))
    have HO45 := Lib.hid (HO4.out.grown HG45.out (fun g2 hg2 => by cases hg2; intro e9; have e10 : bp = gn := Option.some.inj e9; have := HPN.out; omega))
    by_cases h20 : e2 = 0
    · subst h20
      have hl8 : l.length = 8 := by
        have h := EE2.out
        split at h
        · cases h
        · rename_i hn
          exact Decidable.of_not_not (fun h4 => hn ⟨h, decide_eq_false h4⟩)
      have HL8 := Lib.hid hl8
      obtain ⟨bl, ol, rfl, hbl, hrow⟩ := RdI_cells HO5.out.rd (by omega)
      have hbl4 : w4.heap.size ≤ bl := (HO5.out.lt bl rfl).1
      have HBL4 := Lib.hid hbl4
      have HROW : Hid (∀ y, w5.grownBy y (some gn) → ∀ j (hj : j < l.length), y.cell? ⟨bl, ol + j, none⟩ = some (.int .i64 l[j])) := Lib.hid (by
        intro y hy j hj
        rw [World.cell?_of_block (a := ⟨bl, ol + j, none⟩) (hy.block bl hbl (fun e => by have e2 := Option.some.inj e; have := HGN4.out; omega))]
        exact hrow j hj)
      have i7n : 7 < l.length := by omega
      have i7 : (7 : Int) < l.length := by omega
      obtain ⟨m7, hm7⟩ : ∃ m, m = l[7] := ⟨_, rfl⟩
      have HM7 := Lib.hid hm7
      have HD7 : Hid (l.getD 7 0 = m7) := Lib.hid (by rw [hm7, List.getD_eq_getElem?_getD, List.getElem?_eq_getElem i7n]; rfl)
      clear hm7
      generalize he3 : (if (0 : Int) = 0 ∧ win m7 0 1 = false then (6 : Int) else 0) = e3
      have EE3 := Lib.hid he3
      have HE3 : Hid (keyE s e = e3) := Lib.hid (by unfold keyE; rw [HE1.out, if_pos rfl, EPS.out]; show kN p0 = e3; unfold kN; rw [HE2.out, ELS.out, HD7.out]; exact he3)
      clear hrow hl8 hbl4 hbl he3
      generalize hwn : win m7 0 1 = wn at EE3
      have HWN : Hid ([m7].all (fun n => win n 0 1) = wn) := Lib.hid (by rw [← hwn]; simp)
      clear hwn
      go_upto_if 45 with (first
        | (go_at_call 36; rw [HN8.out]; refine (check_x gn _ none _ nx (decide (l.length = 8)) 6 _ HN5.out).mono ?_; rintro en w6 ⟨rfl, hw6⟩; have HG56 := Lib.hid (check_gr hw6); have HN6 := Lib.hid (check_rv HN5.out hw6); rw [EE2.out] at HN6; have y7 := (HROW.out w6 HG56.out 7 (by have := HL8.out; omega)); rw [← HM7.out] at y7; clear hw6; rw [EE2.out])
        | (go_at_call 53; refine (within_b 1 _ [m7] _ (bi1 _ m7)).mono ?_; rw [HWN.out]; rintro en w7 ⟨rfl, hb7⟩; have HB67 := Lib.hid (((Below.refl w6.heap.size w6).alloc (Nat.le_refl _) (.cells #[.int .i64 m7] 3)).trans (hb7.mono (by simp))); have HN7 := Lib.hid (HN6.out.on HB67.out); clear hb7 y7)
        | (go_at_call 36; refine (check_x gn _ none _ 0 wn 6 _ HN7.out).mono ?_; rintro en w8 ⟨rfl, hw8⟩; have HG78 := Lib.hid (check_gr hw8); have hif : (if (0 : Int) = 0 ∧ wn = false then (6 : Int) else 0) = e3 := (by have h2 := EE3.out; simpa using h2); have HN8' := Lib.hid (check_rv HN7.out hw8); rw [hif] at HN8'; clear hw8; rw [hif]; clear hif))

      have HK6 := Lib.hid (row_by HK5.out HG56.out (by have := HGX.out; have := HGXN.out; omega))
      have HR6 := Lib.hid (HR5.out.by HG56.out (by have := HGX.out; have := HGG.out; have := HGXN.out; omega))
      have HX6 := Lib.hid (HX5.out.by HG56.out (by have := HGXN.out; omega))
      have HG6 := Lib.hid (grown_otherN HG5.out HG56.out (by have := HGX.out; have := HGXN.out; omega))

      have HG58 : Hid (w5.grownBy w8 (some gn)) := Lib.hid (grown_trans (grown_then HG56.out HB67.out) HG78.out)
      have HK8 := Lib.hid (row_by HK5.out HG58.out (by have := HGX.out; have := HGXN.out; omega))
      have HR8 := Lib.hid (HR5.out.by HG58.out (by have := HGX.out; have := HGG.out; have := HGXN.out; omega))
      have HX8 := Lib.hid (HX5.out.by HG58.out (by have := HGXN.out; omega))
      have HG8 := Lib.hid (grown_otherN HG5.out HG58.out (by have := HGX.out; have := HGXN.out; omega))
      clear HN8
      have HN8 := HN8'
      clear HN8' HK6 HR6 HX6 HG6
      by_cases h30 : e3 = 0
      · obtain ⟨m0, m1, m2, m3, m4, m5, m6, n7, rfl⟩ : ∃ m0 m1 m2 m3 m4 m5 m6 m7, l = [m0, m1, m2, m3, m4, m5, m6, m7] := by
          have h8 := HL8.out
          match l, h8 with
          | [m0, m1, m2, m3, m4, m5, m6, m7], _ => exact ⟨m0, m1, m2, m3, m4, m5, m6, m7, rfl⟩
        obtain rfl : m7 = n7 := HM7.out
        subst h30
        have HP8 : Hid (OwnE eS w8 w1.heap.size (.slice (some ⟨bp, op, none⟩) [p0, p1].length pc2) [p0, p1]) := Lib.hid (HO45.out.grown HG58.out (fun g2 hg2 => by cases hg2; intro e9; have e10 : bp = gn := Option.some.inj e9; have := HPN.out; omega))
        have HKE : Hid (keyK s e = mkK [m0, m1, m2, m3, m4, m5, m6, m7] p1) := Lib.hid (by unfold keyK; rw [HE3.out, if_pos rfl, EPS.out]; show mkK (rdV [] decIs p0 0) p1 = _; rw [ELS.out])
        have HMK : Hid (kc (mkK [m0, m1, m2, m3, m4, m5, m6, m7] p1) = #[.int .i64 m0, .int .i64 m1, .string ⟨p1.toArray⟩, .int .i64 m2, .int .i64 m3, .int .i64 m4, .int .i64 m5, .int .i64 m6, .bool (m7 == 1)]) := Lib.hid rfl
        generalize mkK [m0, m1, m2, m3, m4, m5, m6, m7] p1 = km at HKE HMK
        have q0 := HROW.out w8 HG58.out 0 (by simp)
        have q1 := HROW.out w8 HG58.out 1 (by simp)
        have q2 := HROW.out w8 HG58.out 2 (by simp)
        have q3 := HROW.out w8 HG58.out 3 (by simp)
        have q4 := HROW.out w8 HG58.out 4 (by simp)
        have q5 := HROW.out w8 HG58.out 5 (by simp)
        have q6 := HROW.out w8 HG58.out 6 (by simp)
        have q7 := HROW.out w8 HG58.out 7 (by simp)
        obtain ⟨bp2, op2, hbe, _, hrow2⟩ := RdS_cells HP8.out.rd (by simp)
        cases hbe
        have q8 := hrow2 1 (by simp)
        simp only [List.getElem_cons_zero, List.getElem_cons_succ] at q0 q1 q2 q3 q4 q5 q6 q7 q8
        rw [Nat.add_zero] at q0
        clear hrow2
        go_upto_region 7 with fail
        try dsimp only [Act.put]
        refine tail0 29 (by kernel_rfl) (by kernel_rfl) ?_
        simp only [List.take_succ_cons, List.take_zero, List.drop_succ_cons, List.drop_zero]
        repeat (first
          | (refine q_build rfl 48 #[(0, .tmp 48), (1, .tmp 51), (2, .tmp 54), (3, .tmp 57), (4, .tmp 60), (5, .tmp 63), (6, .tmp 66), (7, .tmp 69), (8, .tmp 73)] rfl (kc km) (by rw [HMK.out]; kernel_rfl) ?_; simp only [Act.put, List.setIfInBounds_toArray, List.set_cons_zero, List.set_cons_succ])
          | go_big_quiet_step (fail))
        refine wpQuiet_nil ?_
        rintro _ ⟨nq, rfl⟩
        have HK8n : Hid ((w8.drewN nq).heap[w.heap.size]? = some (.cells (kc zK) 48 (0, 0))) := Lib.hid HK8.out
        go_upto_region 8 with (refine st_key0 km zK rfl (.tmp 4) (.tmp 74) rfl w.heap.size rfl rfl _ HK8n.out ?_)
        have HKc : Hid (((w8.drewN nq).setRow w.heap.size (kc km)).heap[w.heap.size]? = some (.cells (kc km) 48 (0, 0))) := Lib.hid (setRow_heap _ _ _ _ _ _ HK8n.out)
        have HNc : Hid (RV ((w8.drewN nq).setRow w.heap.size (kc km)) gn 66 none v5 0) := Lib.hid (RV.by (x := w8.drewN nq) HN8.out (grown_setRow _ _ _) (by have := HGX.out; have := HGXN.out; omega))
        have HXc : Hid (RV ((w8.drewN nq).setRow w.heap.size (kc km)) gx 66 none v2 0) := Lib.hid (RV.by (x := w8.drewN nq) HX8.out (grown_setRow _ _ _) (by have := HGX.out; omega))
        have HRc : Hid (RV ((w8.drewN nq).setRow w.heap.size (kc km)) g T tl v e) := Lib.hid (RV.by (x := w8.drewN nq) HR8.out (grown_setRow _ _ _) (by have := HGG.out; omega))
        have HGc : Hid (w.grownBy ((w8.drewN nq).setRow w.heap.size (kc km)) (some g)) := Lib.hid (grown_new _ (w1 := w8.drewN nq) (grown_then HG8.out (below_drewN nq (Below.refl _ _))) (Nat.le_refl _))
        clear q0 q1 q2 q3 q4 q5 q6 q7 q8
        generalize (w8.drewN nq).setRow w.heap.size (kc km) = wc at HKc HNc HXc HRc HGc ⊢

        have s1 : wc.cell? ⟨gn, 1, none⟩ = some (.int .i64 0) := by rw [cell_of_row _ _ _ _ _ _ HNc.out]; exact rc_1 _ 0 none
        have s2 : wc.cell? ⟨gx, 1, none⟩ = some (.int .i64 0) := by rw [cell_of_row _ _ _ _ _ _ HXc.out]; exact rc_1 _ 0 none
        have s3 := frozen_of_row _ _ 1 _ _ HXc.out
        have HWS : Hid (wc.setCell ⟨gx, 1, none⟩ (.int .i64 0) = wc.setRow gx (rc v2 0 none)) := Lib.hid (by rw [setCell_rowC _ _ _ _ _ _ _ HXc.out, rc_set1])
        go_upto_region 9 with fail
        rw [HWS.out]
        have HX9 : Hid (RV (wc.setRow gx (rc v2 0 none)) gx 66 none v2 0) := Lib.hid (setRow_heap _ _ _ _ _ _ HXc.out)
        have HR9 : Hid (RV (wc.setRow gx (rc v2 0 none)) g T tl v e) := Lib.hid (HRc.out.by (grown_setRow _ _ _) (by have := HGX.out; have := HGG.out; omega))
        have HK9 : Hid ((wc.setRow gx (rc v2 0 none)).heap[w.heap.size]? = some (.cells (kc km) 48 (0, 0))) := Lib.hid (row_by HKc.out (grown_setRow _ _ _) (by have := HGX.out; omega))
        have HG9 : Hid (w.grownBy (wc.setRow gx (rc v2 0 none)) (some g)) := Lib.hid (grown_otherN HGc.out (grown_setRow _ gx _) (by have := HGX.out; omega))
        clear s1 s2 s3
        generalize wc.setRow gx (rc v2 0 none) = w9 at HX9 HR9 HK9 HG9 ⊢

        have t1 : w9.cell? ⟨gx, 1, none⟩ = some (.int .i64 0) := by rw [cell_of_row _ _ _ _ _ _ HX9.out]; exact rc_1 _ 0 none
        have t2 : w9.cell? ⟨g, 1, none⟩ = some (.int .i64 e) := by rw [cell_of_row _ _ _ _ _ _ HR9.out]; exact rc_1 v e tl
        have t3 := frozen_of_row _ _ 1 _ _ HR9.out
        have HWT : Hid (w9.setCell ⟨g, 1, none⟩ (.int .i64 0) = w9.setRow g (rc v 0 tl)) := Lib.hid (by rw [setCell_rowC _ _ _ _ _ _ _ HR9.out, rc_set1])
        go_upto_region 10 with fail
        rw [HWT.out]
        have HRT : Hid (RV (w9.setRow g (rc v 0 tl)) g T tl v 0) := Lib.hid (setRow_heap _ _ _ _ _ _ HR9.out)
        have HKT : Hid ((w9.setRow g (rc v 0 tl)).heap[w.heap.size]? = some (.cells (kc km) 48 (0, 0))) := Lib.hid (by rw [setRow_else _ _ _ _ (by have := HGG.out; omega)]; exact HK9.out)
        have HGT : Hid (w.grownBy (w9.setRow g (rc v 0 tl)) (some g)) := Lib.hid (grown_trans HG9.out (grown_setRow _ _ _))
        clear t1 t2 t3
        generalize w9.setRow g (rc v 0 tl) = wt at HRT HKT HGT ⊢
        go_wp2_with (first
          | (refine ld_key0 km w.heap.size _ HKT.out rfl (.tmp 4) rfl rfl ?_)
          | (refine st_key0 km km rfl (.tmp 4) (.tmp 89) rfl w.heap.size rfl rfl _ HKT.out ?_))
        refine bodyPost_ret (results_row1 rfl _ _ w.heap.size _ rfl (run_keyrow _ _ km _ (setRow_heap _ _ _ _ _ _ HKT.out))) rfl ?_
        have HKR := HKE.out
        have HER := HE3.out
        refine ⟨by rw [HKR]; rfl, ?_, grown_new _ HGT.out (Nat.le_refl _)⟩
        rw [HER]
        unfold RV
        rw [setRow_else _ _ _ _ (by have := HGG.out; omega)]
        exact HRT.out
      · have HKE : Hid (keyK s e = zK) := Lib.hid (by unfold keyK; rw [HE3.out, if_neg h30])
        have HEE := HE3
        go_upto_region 8 with fail

        have s1 : w8.cell? ⟨gn, 1, none⟩ = some (.int .i64 e3) := by rw [cell_of_row _ _ _ _ _ _ HN8.out]; exact rc_1 _ e3 none
        have s2 : w8.cell? ⟨gx, 1, none⟩ = some (.int .i64 0) := by rw [cell_of_row _ _ _ _ _ _ HX8.out]; exact rc_1 _ 0 none
        have s3 := frozen_of_row _ _ 1 _ _ HX8.out
        have HWS : Hid (w8.setCell ⟨gx, 1, none⟩ (.int .i64 e3) = w8.setRow gx (rc v2 e3 none)) := Lib.hid (by rw [setCell_rowC _ _ _ _ _ _ _ HX8.out, rc_set1])
        go_upto_region 9 with fail
        rw [HWS.out]
        have HX9 : Hid (RV (w8.setRow gx (rc v2 e3 none)) gx 66 none v2 e3) := Lib.hid (setRow_heap _ _ _ _ _ _ HX8.out)
        have HR9 : Hid (RV (w8.setRow gx (rc v2 e3 none)) g T tl v e) := Lib.hid (HR8.out.by (grown_setRow _ _ _) (by have := HGX.out; have := HGG.out; omega))
        have HK9 : Hid ((w8.setRow gx (rc v2 e3 none)).heap[w.heap.size]? = some (.cells (kc zK) 48 (0, 0))) := Lib.hid (row_by HK8.out (grown_setRow _ _ _) (by have := HGX.out; omega))
        have HG9 : Hid (w.grownBy (w8.setRow gx (rc v2 e3 none)) (some g)) := Lib.hid (grown_otherN HG8.out (grown_setRow _ gx _) (by have := HGX.out; omega))
        clear s1 s2 s3
        generalize w8.setRow gx (rc v2 e3 none) = w9 at HX9 HR9 HK9 HG9 ⊢

        have t1 : w9.cell? ⟨gx, 1, none⟩ = some (.int .i64 e3) := by rw [cell_of_row _ _ _ _ _ _ HX9.out]; exact rc_1 _ e3 none
        have t2 : w9.cell? ⟨g, 1, none⟩ = some (.int .i64 e) := by rw [cell_of_row _ _ _ _ _ _ HR9.out]; exact rc_1 v e tl
        have t3 := frozen_of_row _ _ 1 _ _ HR9.out
        have HWT : Hid (w9.setCell ⟨g, 1, none⟩ (.int .i64 e3) = w9.setRow g (rc v e3 tl)) := Lib.hid (by rw [setCell_rowC _ _ _ _ _ _ _ HR9.out, rc_set1])
        go_upto_region 10 with fail
        rw [HWT.out]
        have HRT : Hid (RV (w9.setRow g (rc v e3 tl)) g T tl v e3) := Lib.hid (setRow_heap _ _ _ _ _ _ HR9.out)
        have HKT : Hid ((w9.setRow g (rc v e3 tl)).heap[w.heap.size]? = some (.cells (kc zK) 48 (0, 0))) := Lib.hid (by rw [setRow_else _ _ _ _ (by have := HGG.out; omega)]; exact HK9.out)
        have HGT : Hid (w.grownBy (w9.setRow g (rc v e3 tl)) (some g)) := Lib.hid (grown_trans HG9.out (grown_setRow _ _ _))
        clear t1 t2 t3
        generalize w9.setRow g (rc v e3 tl) = wt at HRT HKT HGT ⊢
        go_wp2_with (first
          | (refine ld_key0 zK w.heap.size _ HKT.out rfl (.tmp 4) rfl rfl ?_)
          | (refine st_key0 zK zK rfl (.tmp 4) (.tmp 89) rfl w.heap.size rfl rfl _ HKT.out ?_))
        refine bodyPost_ret (results_row1 rfl _ _ w.heap.size _ rfl (run_keyrow _ _ zK _ (setRow_heap _ _ _ _ _ _ HKT.out))) rfl ?_
        have HKR := HKE.out
        have HER := HEE.out
        refine ⟨by rw [HKR]; rfl, ?_, grown_new _ HGT.out (Nat.le_refl _)⟩
        rw [HER]
        unfold RV
        rw [setRow_else _ _ _ _ (by have := HGG.out; omega)]
        exact HRT.out
    · go_upto_region 8 with (go_at_call 36; rw [HN8.out]; refine (check_x gn _ none _ nx (decide (l.length = 8)) 6 _ HN5.out).mono ?_; rintro en w6 ⟨rfl, hw6⟩; have HG56 := Lib.hid (check_gr hw6); have HN6 := Lib.hid (check_rv HN5.out hw6); rw [EE2.out] at HN6; clear hw6; rw [EE2.out])
      have HK6 := Lib.hid (row_by HK5.out HG56.out (by have := HGX.out; have := HGXN.out; omega))
      have HR6 := Lib.hid (HR5.out.by HG56.out (by have := HGX.out; have := HGG.out; have := HGXN.out; omega))
      have HX6 := Lib.hid (HX5.out.by HG56.out (by have := HGXN.out; omega))
      have HG6 := Lib.hid (grown_otherN HG5.out HG56.out (by have := HGX.out; have := HGXN.out; omega))

      have HEE : Hid (keyE s e = e2) := Lib.hid (by unfold keyE; rw [HE1.out, if_pos rfl, EPS.out]; show kN p0 = e2; unfold kN; rw [HE2.out, if_neg (fun h => h20 h.1)])
      have HKE : Hid (keyK s e = zK) := Lib.hid (by unfold keyK; rw [HEE.out, if_neg h20])

      have s1 : w6.cell? ⟨gn, 1, none⟩ = some (.int .i64 e2) := by rw [cell_of_row _ _ _ _ _ _ HN6.out]; exact rc_1 _ e2 none
      have s2 : w6.cell? ⟨gx, 1, none⟩ = some (.int .i64 0) := by rw [cell_of_row _ _ _ _ _ _ HX6.out]; exact rc_1 _ 0 none
      have s3 := frozen_of_row _ _ 1 _ _ HX6.out
      have HWS : Hid (w6.setCell ⟨gx, 1, none⟩ (.int .i64 e2) = w6.setRow gx (rc v2 e2 none)) := Lib.hid (by rw [setCell_rowC _ _ _ _ _ _ _ HX6.out, rc_set1])
      go_upto_region 9 with fail
      rw [HWS.out]
      have HX9 : Hid (RV (w6.setRow gx (rc v2 e2 none)) gx 66 none v2 e2) := Lib.hid (setRow_heap _ _ _ _ _ _ HX6.out)
      have HR9 : Hid (RV (w6.setRow gx (rc v2 e2 none)) g T tl v e) := Lib.hid (HR6.out.by (grown_setRow _ _ _) (by have := HGX.out; have := HGG.out; omega))
      have HK9 : Hid ((w6.setRow gx (rc v2 e2 none)).heap[w.heap.size]? = some (.cells (kc zK) 48 (0, 0))) := Lib.hid (row_by HK6.out (grown_setRow _ _ _) (by have := HGX.out; omega))
      have HG9 : Hid (w.grownBy (w6.setRow gx (rc v2 e2 none)) (some g)) := Lib.hid (grown_otherN HG6.out (grown_setRow _ gx _) (by have := HGX.out; omega))
      clear s1 s2 s3
      generalize w6.setRow gx (rc v2 e2 none) = w9 at HX9 HR9 HK9 HG9 ⊢

      have t1 : w9.cell? ⟨gx, 1, none⟩ = some (.int .i64 e2) := by rw [cell_of_row _ _ _ _ _ _ HX9.out]; exact rc_1 _ e2 none
      have t2 : w9.cell? ⟨g, 1, none⟩ = some (.int .i64 e) := by rw [cell_of_row _ _ _ _ _ _ HR9.out]; exact rc_1 v e tl
      have t3 := frozen_of_row _ _ 1 _ _ HR9.out
      have HWT : Hid (w9.setCell ⟨g, 1, none⟩ (.int .i64 e2) = w9.setRow g (rc v e2 tl)) := Lib.hid (by rw [setCell_rowC _ _ _ _ _ _ _ HR9.out, rc_set1])
      go_upto_region 10 with fail
      rw [HWT.out]
      have HRT : Hid (RV (w9.setRow g (rc v e2 tl)) g T tl v e2) := Lib.hid (setRow_heap _ _ _ _ _ _ HR9.out)
      have HKT : Hid ((w9.setRow g (rc v e2 tl)).heap[w.heap.size]? = some (.cells (kc zK) 48 (0, 0))) := Lib.hid (by rw [setRow_else _ _ _ _ (by have := HGG.out; omega)]; exact HK9.out)
      have HGT : Hid (w.grownBy (w9.setRow g (rc v e2 tl)) (some g)) := Lib.hid (grown_trans HG9.out (grown_setRow _ _ _))
      clear t1 t2 t3
      generalize w9.setRow g (rc v e2 tl) = wt at HRT HKT HGT ⊢
      go_wp2_with (first
        | (refine ld_key0 zK w.heap.size _ HKT.out rfl (.tmp 4) rfl rfl ?_)
        | (refine st_key0 zK zK rfl (.tmp 4) (.tmp 89) rfl w.heap.size rfl rfl _ HKT.out ?_))
      refine bodyPost_ret (results_row1 rfl _ _ w.heap.size _ rfl (run_keyrow _ _ zK _ (setRow_heap _ _ _ _ _ _ HKT.out))) rfl ?_
      have HKR := HKE.out
      have HER := HEE.out
      refine ⟨by rw [HKR]; rfl, ?_, grown_new _ HGT.out (Nat.le_refl _)⟩
      rw [HER]
      unfold RV
      rw [setRow_else _ _ _ _ (by have := HGG.out; omega)]
      exact HRT.out
  · have HEE : Hid (keyE s e = e1) := Lib.hid (by unfold keyE; rw [HE1.out, if_neg h10])
    have HKE : Hid (keyK s e = zK) := Lib.hid (by unfold keyK; rw [HEE.out, if_neg h10])

    have t1 : w3.cell? ⟨gx, 1, none⟩ = some (.int .i64 e1) := by rw [cell_of_row _ _ _ _ _ _ HX3.out]; exact rc_1 _ e1 none
    have t2 : w3.cell? ⟨g, 1, none⟩ = some (.int .i64 e) := by rw [cell_of_row _ _ _ _ _ _ HR3.out]; exact rc_1 v e tl
    have t3 := frozen_of_row _ _ 1 _ _ HR3.out
    have HWT : Hid (w3.setCell ⟨g, 1, none⟩ (.int .i64 e1) = w3.setRow g (rc v e1 tl)) := Lib.hid (by rw [setCell_rowC _ _ _ _ _ _ _ HR3.out, rc_set1])
    go_upto_region 10 with fail
    rw [HWT.out]
    have HRT : Hid (RV (w3.setRow g (rc v e1 tl)) g T tl v e1) := Lib.hid (setRow_heap _ _ _ _ _ _ HR3.out)
    have HKT : Hid ((w3.setRow g (rc v e1 tl)).heap[w.heap.size]? = some (.cells (kc zK) 48 (0, 0))) := Lib.hid (by rw [setRow_else _ _ _ _ (by have := HGG.out; omega)]; exact HK3.out)
    have HGT : Hid (w.grownBy (w3.setRow g (rc v e1 tl)) (some g)) := Lib.hid (grown_trans HG3.out (grown_setRow _ _ _))
    clear t1 t2 t3
    generalize w3.setRow g (rc v e1 tl) = wt at HRT HKT HGT ⊢
    go_wp2_with (first
      | (refine ld_key0 zK w.heap.size _ HKT.out rfl (.tmp 4) rfl rfl ?_)
      | (refine st_key0 zK zK rfl (.tmp 4) (.tmp 89) rfl w.heap.size rfl rfl _ HKT.out ?_))
    refine bodyPost_ret (results_row1 rfl _ _ w.heap.size _ rfl (run_keyrow _ _ zK _ (setRow_heap _ _ _ _ _ _ HKT.out))) rfl ?_
    have HKR := HKE.out
    have HER := HEE.out
    refine ⟨by rw [HKR]; rfl, ?_, grown_new _ HGT.out (Nat.le_refl _)⟩
    rw [HER]
    unfold RV
    rw [setRow_else _ _ _ _ (by have := HGG.out; omega)]
    exact HRT.out
end Go.Proofs.YtbpjdfnnlmblaaaDoor
/- A region that draws its order and writes memory within a relation of worlds: as RegRel, the relation given. -/
namespace Go.Proofs.YtbpjdfnnlmblaaaDoor
open Go.RowKit
set_option linter.unusedSimpArgs false
set_option linter.unusedVariables false
/-- worlds: J false ahead of the one operation c that writes, J true behind it; the others may but grow (E0); Rl: what leaves the predicates true -/
structure RelOK (Rl E0 : World → World → Prop) (J : Bool → World → Prop) : Prop where
  sub : ∀ a b, E0 a b → Rl a b
  keep : ∀ d a b, J d a → E0 a b → J d b
/-- what operation i may do -/
def effG (Rl E0 : World → World → Prop) (J : Bool → World → Prop) (c i : Nat) (w w' : World) : Prop := if i = c then Rl w w' ∧ J true w' else E0 w w'
variable {Rl : World → World → Prop}
inductive SPG (Rl : World → World → Prop) where
  | eq (c : Value)
  | pred (q : Value → World → Prop) (st : ∀ v w w', Rl w w' → q v w → q v w')
def SPG.p : SPG Rl → Value → World → Prop
  | .eq c, v, _ => v = c
  | .pred q _, v, w => q v w
theorem SPG.keep (R : SPG Rl) {v : Value} {w w' : World} (hb : Rl w w') (h : R.p v w) : R.p v w' := by
  cases R with
  | eq c => exact h
  | pred q st => exact st v w w' hb h
def SPG.any : SPG Rl := .pred (fun _ _ => True) (fun _ _ _ _ h => h)
def SPG.of (l : List (SPG Rl)) (i : Nat) : SPG Rl := l.getD i SPG.any
/-- a statement on the values, those in the list as the predicates say -/
def givenG (R : Nat → SPG Rl) (w : World) (body : (Nat → Value) → Prop) : List Nat → (Nat → Value) → Prop
  | [], vals => body vals
  | j :: l, vals => match R j with
    | .eq c => givenG R w body l (upd vals j c)
    | .pred q _ => ∀ x, q x w → givenG R w body l (upd vals j x)
theorem given_useG {R : Nat → SPG Rl} {w : World} {body : (Nat → Value) → Prop} {vals : Nat → Value} : ∀ (l : List Nat), givenG R w body l vals → (∀ j ∈ l, (R j).p (vals j) w) → body vals
  | [], h, _ => h
  | j :: l, h, hp => by
    have h1 := hp j (List.mem_cons_self ..)
    unfold givenG at h
    cases hr : R j with
    | eq c =>
      rw [hr] at h h1
      have e := upd_self (vals := vals) (i := j) (v := c) h1
      simp only [e] at h
      exact given_useG l h (fun k hk => hp k (List.mem_cons_of_mem _ hk))
    | pred q st =>
      rw [hr] at h h1
      have h2 := h (vals j) h1
      rw [upd_self rfl] at h2
      exact given_useG l h2 (fun k hk => hp k (List.mem_cons_of_mem _ hk))
/-- what is to be shown at the end of an operation -/
def RelEndG (Ef : World → World → Prop) (F : (Nat → Value) → Act) (R : SPG Rl) (dst : Option Tmp) (vals : Nat → Value) (w : World) (Q : Exit → Act → World → Prop) : Prop :=
  ∀ v w', Ef w w' → R.p v w' → Q .normal ((F vals).put dst v) w'
theorem relEnd_finG {Ef : World → World → Prop} {F : (Nat → Value) → Act} {R : SPG Rl} {dst : Option Tmp} {vals : Nat → Value} {w : World} {Q : Exit → Act → World → Prop} (h : Hid (RelEndG Ef F R dst vals w Q)) (v : Value) {w' : World} {a : Act} (ha : a = (F vals).put dst v) (hb : Ef w w') (hr : R.p v w') : Q .normal a w' := by
  rw [ha]; exact h.out v w' hb hr
def relObsG (P : Program) (ops : Array Oper) (E0 : World → World → Prop) (J : Bool → World → Prop) (c : Nat) (F : (Nat → Value) → Act) (R : Nat → SPG Rl) (ds : List (List Nat)) : Nat → List Oper → Prop
  | _, [] => True
  | i, o :: rest => (∀ (d : Bool) (w : World), (i = c → d = false) → J d w → ∀ vals : Nat → Value, givenG R w (fun vals => ∀ Q : Exit → Act → World → Prop, Hid (RelEndG (effG Rl E0 J c i) F (R i) o.dst vals w Q) → wpList P ops Q [o] (F vals) w) (ds.getD i []) vals) ∧ relObsG P ops E0 J c F R ds (i + 1) rest
theorem relObs_atG {P : Program} {ops : Array Oper} {E0 : World → World → Prop} {J : Bool → World → Prop} {c : Nat} {F : (Nat → Value) → Act} {R : Nat → SPG Rl} {ds : List (List Nat)} : ∀ (l : List Oper) (k : Nat), relObsG P ops E0 J c F R ds k l → ∀ i o, l[i]? = some o →
    ∀ (d : Bool) (w : World), (k + i = c → d = false) → J d w → ∀ (vals : Nat → Value), givenG R w (fun vals => ∀ Q : Exit → Act → World → Prop, Hid (RelEndG (effG Rl E0 J c (k + i)) F (R (k + i)) o.dst vals w Q) → wpList P ops Q [o] (F vals) w) (ds.getD (k + i) []) vals
  | [], _, _, _, _, h => by cases h
  | o :: l, k, h, 0, o', ho => by cases ho; exact h.1
  | o :: l, k, h, i + 1, o', ho => by
    have := relObs_atG l (k + 1) h.2 i o' ho
    rwa [show k + 1 + i = k + (i + 1) by omega] at this
theorem rel_soundG {E0 : World → World → Prop} {J : Bool → World → Prop} {c : Nat} (hr0 : RelOK Rl E0 J) {P : Program} {Q : Exit → Act → World → Prop} {l : List Oper} {n : Nat} (hcn : c < n) {F : (Nat → Value) → Act} {R : Nat → SPG Rl} {ds : List (List Nat)} (hB : relB l.toArray n ds = true)
    (hput : relPut F 0 (l.take n)) (hobs : relObsG P l.toArray E0 J c F R ds 0 (l.take n)) (hfin : ∀ w, J true w → ∀ vals, givenG R w (fun vals => wpList P l.toArray Q (l.drop n) (F vals) w) (List.range n) vals)
    (f : Nat) : ∀ (m : Array Bool) (vals : Nat → Value) (w : World), HeadInv .any l.toArray n m → undone m n = f → J (m.getD c false) w → (∀ i, i < n → m.getD i false = true → (R i).p (vals i) w) →
      wpAny P .any l.toArray Q (f + (l.length - n)) m (F vals) w := by
  simp only [relB, Bool.and_eq_true, decide_eq_true_eq] at hB
  obtain ⟨⟨⟨⟨hn, hs⟩, hc⟩, hseq⟩, hdep⟩ := hB
  have hnl : n ≤ l.length := by simpa using hn
  induction f with
  | zero =>
    intro m vals w inv hu hb hR
    have hall := undone_zero hu
    have hm : m = headDone n (l.length - n) := by
      apply Array.ext_getElem?
      intro i
      have hsz : m.size = l.length := by simpa using inv.size
      unfold headDone
      simp only [List.getElem?_toArray]
      by_cases hi : i < n
      · have h1 := hall i hi
        rw [List.getElem?_append_left (by simpa using hi), List.getElem?_replicate, if_pos hi]
        have hi2 : i < m.size := by omega
        simp [hi2] at h1
        rw [Array.getElem?_eq_getElem hi2, h1]
      · by_cases hi2 : i < l.length
        · have h1 := inv.tail i (by omega) (by simpa using hi2)
          rw [List.getElem?_append_right (by simp; omega), List.getElem?_replicate, if_pos (by simp; omega)]
          have hi3 : i < m.size := by omega
          simp [hi3] at h1
          rw [Array.getElem?_eq_getElem hi3, h1]
        · rw [List.getElem?_append_right (by simp; omega), List.getElem?_replicate, if_neg (by simp; omega), Array.getElem?_eq_none (by omega)]
    have hd : (l.drop n).length = l.length - n := by simp
    have := wpAny_of_seq (md := .any) (P := P) (Q' := Q) (ops := l.toArray) (l.drop n) n m (F vals) w (fun j => by simp [List.getElem?_drop]) (by rw [hd, hm]; simpa using hseq)
      (given_useG _ (hfin w (by rwa [hall c hcn] at hb) vals) (fun j hj => hR j (List.mem_range.1 hj) (hall j (List.mem_range.1 hj))))
    rw [Nat.zero_add]
    rwa [hd] at this
  | succ f ih =>
    intro m vals w inv hu hb hR
    have hsz : m.size = l.length := by simpa using inv.size
    obtain ⟨i0, hi0, hun0, hdone0⟩ : ∃ i, i < n ∧ m.getD i false = false ∧ ∀ j, j < i → m.getD j false = true := by
      rcases least_undone m n (by omega) with h | h
      · have : undone m n = 0 := by
          unfold undone
          rw [List.length_eq_zero_iff, List.filter_eq_nil_iff]
          intro a ha
          rw [h a (List.mem_range.1 ha)]
          simp
        omega
      · exact h
    have hready0 : i0 ∈ Region.ready .any l.toArray m := by
      rw [mem_ready]
      have hlt : i0 < l.length := by omega
      refine ⟨getD_in (by omega) hun0, l[i0], by simp [hlt], fun e he hbn => ?_⟩
      have h1 := List.all_eq_true.1 hdep i0 (List.mem_range.2 hi0)
      simp only [List.getElem?_toArray, List.getElem?_eq_getElem hlt, Option.map_some, Option.getD_some, Bool.and_eq_true] at h1
      exact hdone0 _ (of_decide_eq_true (List.all_eq_true.1 h1.1 _ (mem_depsOf.2 ⟨e, he, hbn, rfl⟩)))
    have hne : Region.ready .any l.toArray m ≠ [] := List.ne_nil_of_mem hready0
    rw [show f + 1 + (l.length - n) = (f + (l.length - n)) + 1 by omega]
    refine ⟨fun h0 => absurd h0 hne, fun i hi => ?_⟩
    have hin : i < n := by
      rcases Nat.lt_or_ge i n with h | h
      · exact h
      · obtain ⟨_, oi, hoi, _⟩ := mem_ready.1 hi
        have hil : i < l.length := by have := (Array.getElem?_eq_some_iff.1 hoi).1; simpa using this
        exact absurd hi (tail_waits hs hc (by simp; omega) inv _ i0 rfl hi0 (getD_in (by omega) hun0) i h)
    obtain ⟨hund, oi, hoi, hdeps⟩ := mem_ready.1 hi
    have hoi2 : (l.take n)[i]? = some oi := by rw [List.getElem?_take, if_pos hin]; simpa using hoi
    have hui : m.getD i false = false := getD_both hund
    have hob := given_useG _ (relObs_atG (l.take n) 0 hobs i oi hoi2 (m.getD c false) w (fun e => by rw [← e, Nat.zero_add]; exact hui) hb vals) (fun j hj => by
      have h1 := List.all_eq_true.1 hdep i (List.mem_range.2 hin)
      have hil : i < l.length := by omega
      have hoi3 : l[i]? = some oi := by simpa using hoi
      simp only [List.getElem?_toArray, hoi3, Option.map_some, Option.getD_some, Bool.and_eq_true] at h1
      rw [Nat.zero_add] at hj
      have hjd := List.contains_iff_mem.1 (List.all_eq_true.1 h1.2 j hj)
      obtain ⟨e, he, hbn, rfl⟩ := mem_depsOf.1 hjd
      have hlt := of_decide_eq_true (List.all_eq_true.1 h1.1 _ hjd)
      exact hR _ (by omega) (hdeps e he hbn))
    refine wpOp_of_list hoi (hob _ (Lib.hid ?_))
    intro v w' hb' hr
    show wpAny P .any l.toArray Q (f + (l.length - n)) (m.setIfInBounds i true) _ w'
    have hpu := relPut_at (l.take n) 0 hput i oi hoi2 vals v
    rw [hpu, Nat.zero_add]
    rw [Nat.zero_add] at hr
    have hus := undone_set m n i hin (by omega) hui
    rw [Nat.zero_add] at hb'
    have hRl : Rl w w' := by
      unfold effG at hb'
      split at hb'
      · exact hb'.1
      · exact hr0.sub _ _ hb'
    have hJ' : J ((m.setIfInBounds i true).getD c false) w' := by
      unfold effG at hb'
      split at hb'
      · rename_i e
        subst e
        have : (m.setIfInBounds i true).getD i false = true := by
          have hi9 : i < m.size := by omega
          simp [hi9]
        rw [this]
        exact hb'.2
      · rename_i e
        rw [getD_set_ne false e]
        exact hr0.keep _ _ _ hb hb'
    refine ih _ _ _ (inv.set hi hin) (by omega) hJ' ?_
    intro j hj hjd
    unfold upd
    by_cases hji : j = i
    · subst hji
      rw [if_pos rfl]
      exact hr
    · rw [if_neg hji]
      rw [getD_set_ne false (fun e => hji e.symm)] at hjd
      exact (R j).keep hRl (hR j hj hjd)
theorem region_relG {E0 : World → World → Prop} {J : Bool → World → Prop} (c : Nat) (hr0 : RelOK Rl E0 J) {P : Program} {id : Nat} {Q : Exit → Act → World → Prop} {a : Act} {w : World} {l : List Oper} (n : Nat) (hcn : c < n) (ds : List (List Nat)) (R : Nat → SPG Rl) (vals0 : Nat → Value) (hm : P.follows .mixedOrders = true) (hB : relB l.toArray n ds = true)
    (ha : a = putAll a vals0 0 (l.take n)) (hput : relPut (fun vals => putAll a vals 0 (l.take n)) 0 (l.take n)) (hJ0 : J false w.drew)
    (hobs : relObsG P l.toArray E0 J c (fun vals => putAll a vals 0 (l.take n)) R ds 0 (l.take n))
    (hfin : ∀ w', J true w' → ∀ vals, givenG R w' (fun vals => wpList P l.toArray Q (l.drop n) (putAll a vals 0 (l.take n)) w') (List.range n) vals) : (Code.region id l.toArray true).wp P Q a w := by
  refine wp_region_any hm ?_
  have hn : n ≤ l.length := by
    have h := hB
    simp only [relB, Bool.and_eq_true, decide_eq_true_eq] at h
    simpa using h.1.1.1.1
  have inv : HeadInv .any l.toArray n (Array.replicate l.toArray.size false) :=
    ⟨by simp, fun j oj _ hl => absurd hl (by rw [getD_replicate_false]; exact Bool.false_ne_true), fun t _ h2 => getD_in (by simpa using h2) (getD_replicate_false _ _)⟩
  have hu : undone (Array.replicate l.toArray.size false) n = n := by
    unfold undone
    rw [List.filter_eq_self.2 (fun i _ => by rw [getD_replicate_false]; rfl), List.length_range]
  have := rel_soundG hr0 (P := P) (Q := Q) (R := R) hcn hB hput hobs hfin n _ vals0 w.drew inv hu (by rw [getD_replicate_false]; exact hJ0) (fun i _ h => by rw [getD_replicate_false] at h; cases h)
  rw [show n + (l.length - n) = l.toArray.size by simp; omega] at this
  rw [ha]
  exact this
theorem effG_ne {E0 : World → World → Prop} {J : Bool → World → Prop} {c i : Nat} {w w' : World} (h : i ≠ c) (he : E0 w w') : effG Rl E0 J c i w w' := by
  unfold effG
  rw [if_neg h]
  exact he
theorem effG_eq {E0 : World → World → Prop} {J : Bool → World → Prop} {c : Nat} {w w' : World} (h1 : Rl w w') (h2 : J true w') : effG Rl E0 J c c w w' := by
  unfold effG
  rw [if_pos rfl]
  exact ⟨h1, h2⟩
theorem givenG_nil {R : Nat → SPG Rl} {w : World} {body : (Nat → Value) → Prop} {vals : Nat → Value} (h : body vals) : givenG R w body [] vals := h
theorem givenG_eq {R : Nat → SPG Rl} {w : World} {body : (Nat → Value) → Prop} {vals : Nat → Value} {j : Nat} {l : List Nat} {c : Value} (hr : R j = .eq c) (h : givenG R w body l (upd vals j c)) : givenG R w body (j :: l) vals := by
  unfold givenG
  rw [hr]
  exact h
theorem givenG_pred {R : Nat → SPG Rl} {w : World} {body : (Nat → Value) → Prop} {vals : Nat → Value} {j : Nat} {l : List Nat} {q : Value → World → Prop} {st : ∀ v w w', Rl w w' → q v w → q v w'} (hr : R j = .pred q st) (h : ∀ x, q x w → givenG R w body l (upd vals j x)) : givenG R w body (j :: l) vals := by
  unfold givenG
  rw [hr]
  exact h
end Go.Proofs.YtbpjdfnnlmblaaaDoor
