/- A text is taken in by a stream. -/
import Derived.Test.YtackbjbmadkkhaaDoorHashF
namespace Go.Proofs.YtackbjbmadkkhaaDoor
open Go.RowKit
set_option linter.unusedSimpArgs false
set_option linter.unusedVariables false
/-- what lies in memory while a text is taken in -/
structure AW (w : World) (s : HS) (bk : List UInt8) (n : Nat) (wr : World) : Prop where
  b : wr.heap[w.heap.size]? = some (.cells (stc s bk n) 63 (0, 0))
  r : ∃ z, wr.heap[w.heap.size + 1]? = some (.cells z 63 (0, 0)) ∧ z.size = 73
  k : KAt wr
  below : Below w.heap.size w wr
  lb : bk.length = 64
theorem AW.set {w wr w' : World} {s s' : HS} {bk bk' : List UInt8} {n n' : Nat} (h : AW w s bk n wr) (hw : 1 < w.heap.size) (hl : bk'.length = 64) (hg : w'.heap[w.heap.size]? = some (.cells (stc s' bk' n') 63 (0, 0))) (ho : ∀ k, k ≠ w.heap.size → w'.heap[k]? = wr.heap[k]?) (hb : ∀ B, B ≤ w.heap.size → Below B wr w') : AW w s' bk' n' w' :=
  ⟨hg, by rw [ho _ (by omega)]; exact h.r, by unfold KAt; rw [ho _ (by omega)]; exact h.k, h.below.trans (hb _ (Nat.le_refl _)), hl⟩
theorem AW.on {w wr w' : World} {s : HS} {bk : List UInt8} {n : Nat} (h : AW w s bk n wr) (hw : 1 < w.heap.size) (hb : Below wr.heap.size wr w') : AW w s bk n w' := by
  obtain ⟨z, hz, hz2⟩ := h.r
  have h1 := (Array.getElem?_eq_some_iff.1 h.b).1
  have h2 := (Array.getElem?_eq_some_iff.1 hz).1
  have h3 := h.k.lt
  exact ⟨by rw [hb.block _ h1]; exact h.b, ⟨z, by rw [hb.block _ h2]; exact hz, hz2⟩, by unfold KAt; rw [hb.block _ h3]; exact h.k, h.below.trans (hb.mono h.below.size), h.lb⟩
theorem AW.setN {w wr : World} {s : HS} {bk : List UInt8} {n : Nat} (h : AW w s bk n wr) (hw : 1 < w.heap.size) (m : Nat) : AW w s bk m (wr.setCell ⟨w.heap.size, 72, none⟩ (.int .u64 m)) := by
  rw [setCell_rowC _ _ _ _ _ _ _ h.b, stc_set _ _ _ _ h.lb]
  exact h.set hw h.lb (setRow_heap _ _ _ _ _ _ h.b) (fun k hk => setRow_else _ _ _ _ hk) (fun B hB => below_row hB)
theorem drop_cut (l : List UInt8) (n : Nat) : (l.drop n).take (l.length - n) = l.drop n := List.take_of_length_le (by rw [List.length_drop]; exact Nat.le_refl _)
theorem flat_b (l : List UInt8) : eB.flat l = bcs l := by
  induction l with
  | nil => rfl
  | cons x l ih => rw [El.flat, ih]; rfl
theorem AW.rd {w wr : World} {s : HS} {bk : List UInt8} {n : Nat} (h : AW w s bk n wr) : RdE eB wr (.slice (some ⟨w.heap.size, 8, none⟩) 64 64) bk := by
  refine ⟨_, 64, by rw [h.lb], by rw [h.lb]; exact Nat.le_refl _, by unfold maxLen; omega, fun _ => ⟨w.heap.size, 8, rfl, (Array.getElem?_eq_some_iff.1 h.b).1, fun j u hu => ?_⟩⟩
  rw [flat_b] at hu
  have hj : j < bk.length := by have := (List.getElem?_eq_some_iff.1 hu).1; rwa [bcs_len] at this
  rw [cell_of_row _ _ _ _ _ _ h.b, stc_b _ _ _ _ hj, ← hu]
  simp [bcs, byteAt, hj]
theorem AW.ld {w wr : World} {s : HS} {bk : List UInt8} {n : Nat} (h : AW w s bk n wr) : (loadVar 60 ⟨w.heap.size, 0, none⟩).run Tryd.prog wr = .ok (.agg (row (hs s))) wr := by
  have hr : (row (hs s)).toList = (hs s).map (fun x => Value.int .u32 (W32 x)) := by simp [row]
  have h1 := run_loadVar_mid (P := Tryd.prog) wr w.heap.size 0 60 (row (hs s)).toList _ (fun j v hv => by
    rw [hr] at hv
    have hj : j < 8 := by have := (List.getElem?_eq_some_iff.1 hv).1; simpa [hs_len] using this
    rw [cell_of_row _ _ _ _ _ _ h.b, Nat.zero_add, stc_s _ _ _ _ hj, ← hv]
    have hj2 : j < (hs s).length := by rw [hs_len]; exact hj
    simp [w16, hj2]) Tryd.underlying60 rfl (by rw [size8 _ (hs_len s)]; simp)
  simpa using h1
theorem q_row {ops : Array Oper} {C : World → Prop} {Q : Act → Prop} {a : Act} {o : Oper} {rest : List Oper} (hw : Region.wanted o (yielded ops a.tmps) = true) (ty : TypeId) (x : Operand) (ho : o.op = .load ty x)
    (g : Nat) (hx : a.eval x = .pointer (some ⟨g, 0, none⟩)) (cs : Array Value) (hC : ∀ w', C w' → (loadVar ty ⟨g, 0, none⟩).run Tryd.prog w' = .ok (.agg cs) w')
    (h : wpQuiet Tryd.prog ops C Q rest (a.put o.dst (.agg cs))) : wpQuiet Tryd.prog ops C Q (o :: rest) a := by
  unfold wpQuiet
  rw [if_pos hw]
  refine ⟨.agg cs, fun w' hw' => ?_, h⟩
  unfold Oper.quietAt execOp
  simp only [ho, hx, Instr.loadAt, Instr.sureAddr, Sem.run_bind, Sem.run_pure, Result.andThen_ok, hC w' hw']
  exact ⟨rfl, rfl⟩
def sLen : Value → Nat
  | .string s => s.size
  | _ => 0
attribute [local irreducible] Calls stc blks cmpr row
set_option maxRecDepth 100000 in
set_option maxHeartbeats 4000000 in
theorem add_c (M text : List UInt8) (v : Value) (w : World) (hv : StV M v) (hk : KAt w) (hlen : M.length + text.length ≤ 1000000000000) :
    Calls Tryd.prog 34 #[v, .string ⟨text.toArray⟩] w fun e w' => ∃ v', e = .returned v' ∧ StV (M ++ text) v' ∧ Below w.heap.size w w' := by
  obtain ⟨bk0, rfl, hb0, ht0, htb0⟩ := hv
  have hz := zero_st
  have hw1 : 1 < w.heap.size := hk.lt
  have HW1 := Lib.hid hw1
  have HLEN := Lib.hid hlen
  have H0 : Hid (AW w (blks M (M.length / 64)) bk0 M.length ((w.alloc (.cells (stc (blks M (M.length / 64)) bk0 M.length) 63)).alloc (.cells (stc z73 zb 0) 63))) := Lib.hid
    ⟨by rw [heap_past _ _ _ (by simp), heap_last _ _ _ rfl], ⟨_, heap_last _ _ _ (by simp), stc_size _ _ _ rfl⟩, by unfold KAt; rw [heap_past _ _ _ (by simp; omega), heap_past _ _ _ hw1]; exact hk, ((Below.refl _ _).alloc (Nat.le_refl _) _).alloc (by simp) _, hb0⟩
  have HT0 := Lib.hid ht0
  have HTB0 := Lib.hid htb0
  clear hk ht0 hb0 htb0
  go_enter Tryd.func34, Tryd.ntmps34
  go_wp2
  go_loopw [1] (fun o wr => ∃ (k : Nat) (bk : List UInt8), k ≤ text.length ∧ o = .string ⟨(text.drop k).toArray⟩ ∧ Hid (bk.take ((M ++ text.take k).length % 64) = (M ++ text.take k).drop (64 * ((M ++ text.take k).length / 64))) ∧ Hid (bk = tailB (M ++ text.take k)) ∧ Hid (AW w (blks (M ++ text.take k) ((M ++ text.take k).length / 64)) bk (M ++ text.take k).length wr)) (fun o _ => sLen o)
  case atStart => exact ⟨0, bk0, Nat.zero_le _, rfl, by simpa using HT0, by simpa using HTB0, by simpa using H0⟩
  case round =>
    obtain ⟨k, bk, hk, rfl, hbt, htb, haw⟩ := hrel
    clear hz
    have hnl : (M ++ text.take k).length ≤ 1000000000000 := by have := HLEN.out; simp; omega
    generalize hN : M ++ text.take k = N at hbt htb haw hnl
    by_cases hlt : k < text.length
    · have cn : wr.cell? ⟨w.heap.size, 72, none⟩ = some (.int .u64 N.length) := by rw [cell_of_row _ _ _ _ _ _ haw.out.b, stc_n _ _ _ haw.out.lb]
      have ha : N.length % 64 < 64 := Nat.mod_lt _ (by decide)
      have hmod : ((N.length : Nat) : Int) % 64 = ((N.length % 64 : Nat) : Int) := by omega
      generalize hA : N.length % 64 = a at ha hmod hbt
      generalize hrem : text.drop k = rem
      have hrl : 0 < rem.length := by rw [← hrem, List.length_drop]; omega
      have hne : rem ≠ [] := by intro e; rw [e] at hrl; simp at hrl
      have hemp : rem.isEmpty = false := by cases rem with | nil => exact absurd rfl hne | cons _ _ => rfl
      obtain ⟨kk, hkk⟩ : ∃ kk, Nat.min rem.length (64 - a) = kk := ⟨_, rfl⟩
      have hk1 : kk ≤ rem.length := by rw [← hkk]; exact Nat.min_le_left _ _
      have hk2 : a + kk ≤ 64 := by
        have : kk ≤ 64 - a := by rw [← hkk]; exact Nat.min_le_right _ _
        omega
      have hk3 : 0 < kk := by rw [← hkk]; exact Nat.lt_min.2 ⟨hrl, by omega⟩
      have hxl : (rem.take kk).length = kk := by rw [List.length_take]; omega
      have ha2 : (a : Int) ≤ 64 := by omega
      have HKK := Lib.hid hkk
      have HK2 := Lib.hid hk2
      have HXL := Lib.hid hxl
      clear hne hkk
      go_upto_region 4 with (refine cp_str rfl (.tmp 15) (.tmp 16) rfl rem w.heap.size (8 + a) (64 - a) (64 - a) kk rfl rfl (stc (blks N (N.length / 64)) bk N.length) 63 haw.out.b HKK.out (by rw [stc_size _ _ _ haw.out.lb]; have := HK2.out; omega) ?_; intro wa hga hoa hba; have hgb : wa.heap[w.heap.size]? = some (.cells (stc (blks N (N.length / 64)) (lay bk a (rem.take kk)) N.length) 63 (0, 0)) := (by rw [hga, ← stc_copy _ _ _ _ _ haw.out.lb (by rw [HXL.out]; exact HK2.out), HXL.out]); have H1 := Lib.hid (haw.out.set HW1.out (lay_len _ _ _ haw.out.lb (by rw [HXL.out]; exact HK2.out)) hgb hoa hba); clear hga hoa hba hgb)
      try dsimp only [Act.put]
      have kki : (kk : Int) ≤ rem.length := by omega
      have kk0 : (0 : Int) ≤ kk := by omega
      have ks : kk ≤ (ByteArray.mk rem.toArray).size := hk1
      have c72 : wa.cell? ⟨w.heap.size, 72, none⟩ = some (.int .u64 N.length) := by rw [cell_of_row _ _ _ _ _ _ H1.out.b, stc_n _ _ _ H1.out.lb]
      have f72 := frozen_of_row _ _ 72 _ _ H1.out.b
      have hsum : ((N.length : Int) + (kk : Int)) % 18446744073709551616 = ((N.length + kk : Nat) : Int) := by omega
      clear cn
      go_upto_region 5 with fail
      go_cut [6] from 7 to 36 (fun q wc => q = .int .i64 kk ∧ AW w (blks N (N.length / 64)) (lay bk a (rem.take kk)) (N.length + kk) wc)
      case first =>
        go_wp2
        all_goals go_meet
        exact ⟨rfl, by rw [← Int.natCast_add]; exact H1.out.setN HW1.out _⟩
      case rest =>
        obtain ⟨rfl, haw2⟩ := hcut
        have H2 := Lib.hid haw2
        have hNN : M ++ text.take (k + kk) = N ++ rem.take kk := by rw [← hN, ← hrem, List.append_assoc, ← List.take_add]
        have HNN := Lib.hid hNN
        have HREM : Hid (text.drop (k + kk) = rem.drop kk) := Lib.hid (by rw [← hrem, List.drop_drop])
        have HNL : Hid ((N ++ rem.take kk).length = N.length + kk) := Lib.hid (by rw [List.length_append, hxl])
        have HBT : Hid (bk.take (N.length % 64) = N.drop (64 * (N.length / 64))) := Lib.hid (by rw [hA]; exact hbt.out)
        have HA := Lib.hid hA
        have HTB : Hid (lay bk a (rem.take kk) = tailB (M ++ text.take (k + kk))) := Lib.hid (by rw [hNN, tailB_lay _ _ (by rw [hA, hxl]; exact HK2.out), ← htb.out, hA])
        have HKT : Hid (k + kk ≤ text.length) := Lib.hid (by rw [← hrem, List.length_drop] at hk1; omega)
        have HK3 := Lib.hid hk3
        have HRL := Lib.hid hk1
        have HLB := Lib.hid haw.out.lb
        clear haw2 c72 f72 hNN
        by_cases h64 : a + kk = 64
        · have e1 : ((a : Int) + (kk : Int) == 64) = true := by simp; omega
          have HFULL := Lib.hid (st_full N (rem.take kk) bk HLB.out HBT.out (by rw [HA.out, hxl]; exact h64))
          clear hN hrem hA hbt haw h64
          have zB : w.heap.size < wc.heap.size := (Array.getElem?_eq_some_iff.1 H2.out.b).1
          go_wp2
          refine tailL 6 (by kernel_rfl) (by kernel_rfl) ?_
          simp only [List.take_succ_cons, List.take_zero, List.drop_succ_cons, List.drop_zero]
          repeat (first
            | (refine q_row rfl 60 (.tmp 31) rfl w.heap.size rfl (row (hs (blks N (N.length / 64)))) (fun w' ⟨u, e⟩ => by rw [e]; exact (H2.out.on HW1.out u.below).ld) ?_; simp only [Act.put, List.setIfInBounds_toArray, List.set_cons_zero, List.set_cons_succ])
            | go_big_quiet_step ((go_at_call 51; exact Later.call _ (compress_c _ _ (lay bk a (rem.take kk)) _ (H2.out.on HW1.out (Later.below _)).rd H2.out.lb (H2.out.on HW1.out (Later.below _)).k))))
          refine wpQuiet_nil ?_
          rintro _ ⟨u, rfl⟩
          have H3 := Lib.hid (H2.out.on HW1.out u.below)
          go_wp2_with (refine st_head rfl (.tmp 36) (.tmp 35) rfl w.heap.size _ _ _ _ rfl rfl H2.out.lb H3.out.b ?_; intro wd hgd hod hbd; have H4 := Lib.hid (H3.out.set HW1.out H2.out.lb hgd hod hbd); clear hgd hod hbd)
          go_roundw
          case rel =>
            obtain ⟨p1, p2, p3, p4⟩ := HFULL.out
            rw [HA.out] at p3
            have F1 : Hid ((lay bk a (rem.take kk)).take ((M ++ text.take (k + kk)).length % 64) = (M ++ text.take (k + kk)).drop (64 * ((M ++ text.take (k + kk)).length / 64))) := Lib.hid (by rw [HNN.out, p1, p2, p4]; rfl)
            have F2 : Hid (AW w (blks (M ++ text.take (k + kk)) ((M ++ text.take (k + kk)).length / 64)) (lay bk a (rem.take kk)) (M ++ text.take (k + kk)).length wd) := Lib.hid (by rw [HNN.out, p1, p3, HNL.out]; exact H4.out)
            clear p1 p2 p3 p4
            (repeat apply Exists.intro)
            exact ⟨⟨k + kk, lay bk a (rem.take kk), HKT.out, by rw [HREM.out, drop_cut], F1, HTB, F2⟩, rfl⟩
          case measure =>
            have h1 := HK3.out
            have h2 := HRL.out
            show sLen (.string _) < sLen (.string _)
            simp only [sLen, ByteArray.size, List.size_toArray, List.length_take, List.length_drop]
            omega
        · have e1 : ((a : Int) + (kk : Int) == 64) = false := by simp; omega
          have HPART := Lib.hid (st_part N (rem.take kk) bk HLB.out HBT.out (by rw [HA.out, hxl]; omega))
          clear hN hrem hA hbt haw h64
          go_wp2
          go_roundw
          case rel =>
            obtain ⟨p1, p2, p3, p4⟩ := HPART.out
            rw [HA.out, HXL.out] at p2 p4
            refine ⟨k + kk, lay bk a (rem.take kk), HKT.out, ?_, Lib.hid ?_, HTB, Lib.hid ?_⟩
            · rw [HREM.out, drop_cut]
            · rw [HNN.out, p1, p2]; exact p4
            · rw [HNN.out, p1, p3, HNL.out]; exact H2.out
          case measure =>
            have h1 := HK3.out
            have h2 := HRL.out
            simp [sLen, ByteArray.size]
            omega
    · have hke : k = text.length := by omega
      have hd : text.drop k = [] := List.drop_eq_nil_of_le (by omega)
      have hfull : N = M ++ text := by rw [← hN, hke, List.take_length]
      obtain ⟨z, hz1, hz2⟩ := haw.out.r
      have HZ := Lib.hid hz1
      have HNF := Lib.hid hfull
      have HZ2 := Lib.hid hz2
      rw [hd]
      clear hN hke hd hfull hz1 hz2 hlt hnl
      go_wp2_with (first
        | (refine wpList_load_row rfl 63 (.tmp 2) rfl w.heap.size rfl _ _ (0, 0) _ haw.out.b Tryd.underlying63 rfl (size73 _ _ _ haw.out.lb) ?_)
        | (refine st_T (T := 63) (stc (blks N (N.length / 64)) bk N.length) (size73 _ _ _ haw.out.lb) rfl (.tmp 4) (.tmp 37) rfl (w.heap.size + 1) z rfl rfl (stc_one _ _ _) (by rw [HZ2.out, stc_size _ _ _ haw.out.lb]) HZ.out ?_; intro wb hgb hob hbb))
      (try simp only [Exit.inBlock, Exit.then])
      refine bodyPost_ret (res_st rfl _ _ (w.heap.size + 1) _ _ _ haw.out.lb rfl hgb) rfl ?_
      refine ⟨_, rfl, ⟨bk, by rw [← HNF.out], haw.out.lb, by rw [← HNF.out]; exact hbt.out, by rw [← HNF.out]; exact htb.out⟩, haw.out.below.trans (hbb _ (by omega))⟩
end Go.Proofs.YtackbjbmadkkhaaDoor
