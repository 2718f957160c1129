/- Parts of a proof, joined: contracts of functions of the program and plain lemmas (BakE, BakF, BakG, RowN, BakH, BakI, BakJ). No condition. -/
import Derived.Test.YtbpjdfnnlmblaaaGreatDoorMA09
import Derived.Laws.CopyRow
import Derived.BigRegion
/- The reader of a backup: check, read, whole, digest. -/
namespace Go.Proofs.YtbpjdfnnlmblaaaGreatDoor
open Go.RowKit Go.Shelf
set_option linter.unusedSimpArgs false
set_option linter.unusedVariables false
/-- what follows the reader in its block: nothing, or the header of a reader of blobs -/
def tlc : Option (List UInt8) → List Value
  | none => []
  | some h => [.string ⟨h.toArray⟩]
/-- the cells of a reader -/
def rc (v : Value) (e : Int) (tl : Option (List UInt8)) : Array Value := (v :: .int .i64 e :: tlc tl).toArray
theorem rc_0 (v : Value) (e : Int) (tl : Option (List UInt8)) : (rc v e tl)[0]? = some v := rfl
theorem rc_1 (v : Value) (e : Int) (tl : Option (List UInt8)) : (rc v e tl)[1]? = some (.int .i64 e) := rfl
theorem rc_set0 (v v' : Value) (e : Int) (tl : Option (List UInt8)) : (rc v e tl).setIfInBounds 0 v' = rc v' e tl := by unfold rc; simp
theorem rc_set1 (v : Value) (e e' : Int) (tl : Option (List UInt8)) : (rc v e tl).setIfInBounds 1 (.int .i64 e') = rc v e' tl := by unfold rc; simp
/-- a reader in memory: what is left, the error -/
def RS (w : World) (g : Nat) (T : TypeId) (tl : Option (List UInt8)) (rest : List UInt8) (e : Int) : Prop :=
  ∃ v, w.heap[g]? = some (.cells (rc v e tl) T (0, 0)) ∧ RdE eB w v rest
theorem RS.lt {w : World} {g : Nat} {T : TypeId} {tl : Option (List UInt8)} {rest : List UInt8} {e : Int} (h : RS w g T tl rest e) : g < w.heap.size := by
  obtain ⟨v, h1, _⟩ := h
  exact (Array.getElem?_eq_some_iff.1 h1).1
theorem RS.on {w w' : World} {g : Nat} {T : TypeId} {tl : Option (List UInt8)} {rest : List UInt8} {e : Int} (h : RS w g T tl rest e) (hb : Below w.heap.size w w') : RS w' g T tl rest e := by
  obtain ⟨v, h1, h2⟩ := h
  exact ⟨v, by rw [hb.block _ (Array.getElem?_eq_some_iff.1 h1).1]; exact h1, h2.on hb⟩
/-- no byte lies in a reader's block -/
theorem rc_noB {a : Option Addr} {n c : Nat} {e : Int} {tl : Option (List UInt8)} (j : Nat) (x : UInt8) : (rc (.slice a n c) e tl)[j]? ≠ some (.int .u8 (B8 x)) := by
  intro h
  unfold rc at h
  rw [List.getElem?_toArray] at h
  have hm := List.mem_of_getElem? h
  cases tl <;> simp [tlc] at hm
theorem rc_noS {a : Option Addr} {n c : Nat} {e : Int} (j : Nat) (x : List UInt8) : (rc (.slice a n c) e none)[j]? ≠ some (.string ⟨x.toArray⟩) := by
  intro h
  unfold rc at h
  rw [List.getElem?_toArray] at h
  have hm := List.mem_of_getElem? h
  simp [tlc] at hm
/-- a list stays readable where a block without such cells is written -/
theorem RdE.grownK {α : Type} {E : El α} (hE : E.OK) {w w' : World} {v : Value} {l : List α} {g : Nat} {cs : Array Value} {T : TypeId} {fr : Nat × Nat} (h : RdE E w v l) (hg : w.grownBy w' (some g)) (hrow : w.heap[g]? = some (.cells cs T fr))
    (hno : ∀ x ∈ l, ∀ (j : Nat) (u : Value), (E.cf x)[0]? = some u → cs[j]? ≠ some u) : RdE E w' v l := by
  obtain ⟨a, cap, rfl, h1, h2, h3⟩ := h
  refine ⟨a, cap, rfl, h1, h2, fun h0 => ?_⟩
  obtain ⟨b, off, rfl, hlt, hc⟩ := h3 h0
  have hne : b ≠ g := by
    intro e
    subst e
    have h4 := El.flat_at hE l 0 0 h0 hE.pos
    have h5 : 0 < (E.cf l[0]).length := by rw [hE.len]; exact hE.pos
    rw [List.getElem?_eq_getElem h5] at h4
    have h6 := hc _ _ h4
    rw [cell_of_row _ _ _ _ _ _ hrow] at h6
    exact hno l[0] (List.getElem_mem h0) _ _ (List.getElem?_eq_getElem h5) h6
  exact ⟨b, off, rfl, Nat.lt_of_lt_of_le hlt hg.size, fun j u hu => by
    rw [World.cell?_of_block (a := ⟨b, off + j, none⟩) (hg.block b hlt (fun e => hne (Option.some.inj e)))]
    exact hc j u hu⟩
theorem grown_trans {w w1 w2 : World} {g : Nat} (h1 : w.grownBy w1 (some g)) (h2 : w1.grownBy w2 (some g)) : w.grownBy w2 (some g) :=
  ⟨h2.os.trans h1.os, h2.tape.trans h1.tape, h2.output.trans h1.output, Nat.le_trans h1.size h2.size, fun k hk hne => (h2.block k (Nat.lt_of_lt_of_le hk h1.size) hne).trans (h1.block k hk hne)⟩
theorem grownB {w w1 : World} (g : Nat) (h : Below w.heap.size w w1) : w.grownBy w1 (some g) := ⟨h.os, h.tape, h.output, h.size, fun k hk _ => h.block k hk⟩
theorem below_grown {w w1 : World} {g B : Nat} (h : w.grownBy w1 (some g)) (hB : B ≤ g) (hs : g < w.heap.size) : Below B w w1 := ⟨h.os, h.tape, h.output, h.size, fun k hk => h.block k (by omega) (fun e => by cases e; omega)⟩
theorem grown_setRow (w : World) (g : Nat) (cs : Array Value) : w.grownBy (w.setRow g cs) (some g) :=
  ⟨rfl, rfl, rfl, (below_row (B := g) (Nat.le_refl _)).size, fun k _ hne => setRow_else _ _ _ _ (fun e => hne (by rw [e]))⟩
theorem setRow_size (w : World) (g : Nat) (cs : Array Value) : (w.setRow g cs).heap.size = w.heap.size := by unfold World.setRow; simp
/-- the reader's row is written -/
theorem RS.write {w : World} {g : Nat} {T : TypeId} {tl : Option (List UInt8)} {v : Value} {e : Int} {rest rest' : List UInt8} (h1 : w.heap[g]? = some (.cells (rc v e tl) T (0, 0))) (h2 : RdE eB w v rest) (v' : Value) (e' : Int) (h3 : RdE eB w v' rest') :
    RS (w.setRow g (rc v' e' tl)) g T tl rest' e' := by
  refine ⟨v', setRow_heap _ _ _ _ _ _ h1, ?_⟩
  refine h3.grownK eB_ok (grown_setRow _ _ _) h1 ?_
  intro x _ j u hu
  obtain ⟨a, c, rfl, _⟩ := h2
  simp at hu
  subst hu
  exact rc_noB j x
attribute [local irreducible] Calls rc
set_option maxRecDepth 100000 in
set_option maxHeartbeats 2000000 in
theorem check_x (g : Nat) (T : TypeId) (tl : Option (List UInt8)) (v : Value) (e : Int) (ok : Bool) (e2 : Int) (w : World) (h1 : w.heap[g]? = some (.cells (rc v e tl) T (0, 0))) :
    Calls Tryz.prog 55 #[.pointer (some ⟨g, 0, none⟩), .bool ok, .int .i64 e2] w fun en w' => en = .returned (.bool (decide ((if e = 0 ∧ ok = false then e2 else e) = 0))) ∧ w' = if e = 0 ∧ ok = false then w.setRow g (rc v e2 tl) else w := by
  have c1 : w.cell? ⟨g, 1, none⟩ = some (.int .i64 e) := by rw [cell_of_row _ _ _ _ _ _ h1]; exact rc_1 v e tl
  have f1 := frozen_of_row _ _ 1 _ _ h1
  have H1 := Lib.hid h1
  by_cases he : e = 0
  · subst he
    cases ok with
    | true =>
      have hif : (if (0 : Int) = 0 ∧ true = false then e2 else 0) = 0 := by simp
      have hif2 : (if (0 : Int) = 0 ∧ true = false then w.setRow g (rc v e2 tl) else w) = w := by simp
      rw [hif, hif2]
      clear h1 hif hif2
      go_enter Tryz.func55, Tryz.ntmps55
      go_wp2
      go_ret
      exact ⟨rfl, rfl⟩
    | false =>
      have hif : (if (0 : Int) = 0 ∧ false = false then e2 else 0) = e2 := by simp
      have hif2 : (if (0 : Int) = 0 ∧ false = false then w.setRow g (rc v e2 tl) else w) = w.setRow g (rc v e2 tl) := by simp
      rw [hif, hif2]
      have HR : Hid (w.setCell ⟨g, 1, none⟩ (.int .i64 e2) = w.setRow g (rc v e2 tl)) := Lib.hid (by rw [setCell_rowC _ _ _ _ _ _ _ h1, rc_set1])
      have c2 : (w.setRow g (rc v e2 tl)).cell? ⟨g, 1, none⟩ = some (.int .i64 e2) := by rw [cell_of_row _ _ _ _ _ _ (setRow_heap _ _ _ _ _ _ h1)]; exact rc_1 v e2 tl
      rw [← HR.out] at c2
      clear h1 hif hif2
      by_cases h20 : e2 = 0
      · subst h20
        go_enter Tryz.func55, Tryz.ntmps55
        go_wp2
        go_ret
        rw [HR.out]
        exact ⟨rfl, rfl⟩
      · have i1 : (e2 == 0) = false := by simpa using h20
        have HD : Hid (decide (e2 = 0) = false) := Lib.hid (decide_eq_false h20)
        go_enter Tryz.func55, Tryz.ntmps55
        go_wp2
        go_ret
        rw [HR.out]
        exact ⟨by rw [HD.out]; rfl, rfl⟩
  · have hif : (if e = 0 ∧ ok = false then e2 else e) = e := by rw [if_neg (fun h => he h.1)]
    have hif2 : (if e = 0 ∧ ok = false then w.setRow g (rc v e2 tl) else w) = w := by rw [if_neg (fun h => he h.1)]
    rw [hif, hif2]
    have i1 : (e == 0) = false := by simpa using he
    have HD : Hid (decide (e = 0) = false) := Lib.hid (decide_eq_false he)
    clear h1 hif hif2
    go_enter Tryz.func55, Tryz.ntmps55
    go_wp2
    go_ret
    exact ⟨by rw [HD.out]; rfl, rfl⟩
theorem check_c (g : Nat) (T : TypeId) (tl : Option (List UInt8)) (rest : List UInt8) (e : Int) (ok : Bool) (e2 : Int) (w : World) (h : RS w g T tl rest e) :
    Calls Tryz.prog 55 #[.pointer (some ⟨g, 0, none⟩), .bool ok, .int .i64 e2] w fun en w' => en = .returned (.bool (decide ((if e = 0 ∧ ok = false then e2 else e) = 0))) ∧ RS w' g T tl rest (if e = 0 ∧ ok = false then e2 else e) ∧ w.grownBy w' (some g) ∧ w'.heap.size = w.heap.size := by
  obtain ⟨v, h1, h2⟩ := h
  refine (check_x g T tl v e ok e2 w h1).mono ?_
  rintro en w' ⟨rfl, rfl⟩
  by_cases hc : e = 0 ∧ ok = false
  · simp only [if_pos hc]
    exact ⟨trivial, RS.write h1 h2 _ _ h2, grown_setRow _ _ _, setRow_size _ _ _⟩
  · simp only [if_neg hc]
    exact ⟨trivial, ⟨v, h1, h2⟩, ⟨rfl, rfl, rfl, Nat.le_refl _, fun _ _ _ => rfl⟩, trivial⟩
end Go.Proofs.YtbpjdfnnlmblaaaGreatDoor
/- A digest is read from bytes. -/
namespace Go.Proofs.YtbpjdfnnlmblaaaGreatDoor
open Go.RowKit Go.Shelf
set_option linter.unusedSimpArgs false
set_option linter.unusedVariables false
def z16 : List UInt8 := List.replicate 16 0
/-- a digest at the beginning of bytes -/
def decD (b : List UInt8) : List UInt8 × Nat × Int := if b.length < 16 then (z16, 0, 5) else (b.take 16, 16, 0)
theorem results_row3 {fn : Func} {p t u : Tmp} {ty : TypeId} (h : fn.results = #[.cell p ty, .tmp t, .tmp u]) (tmps : Array Value) (w : World) (g : Nat) (x : Value)
    (hp : tmps.getD p undef = .pointer (some ⟨g, 0, none⟩)) (hld : (loadVar ty ⟨g, 0, none⟩).run Tryz.prog w = .ok x w) :
    (results fn tmps).run Tryz.prog w = .ok (.tuple #[x, tmps.getD t undef, tmps.getD u undef]) w := by
  have hp' : tmps[p]?.getD undef = .pointer (some ⟨g, 0, none⟩) := by simpa using hp
  simp [results, h, hp', asAddr, hld]
theorem results_row2 {fn : Func} {p t : Tmp} {ty : TypeId} (h : fn.results = #[.cell p ty, .tmp t]) (tmps : Array Value) (w : World) (g : Nat) (x : Value)
    (hp : tmps.getD p undef = .pointer (some ⟨g, 0, none⟩)) (hld : (loadVar ty ⟨g, 0, none⟩).run Tryz.prog w = .ok x w) :
    (results fn tmps).run Tryz.prog w = .ok (.tuple #[x, tmps.getD t undef]) w := by
  have hp' : tmps[p]?.getD undef = .pointer (some ⟨g, 0, none⟩) := by simpa using hp
  simp [results, h, hp', asAddr, hld]
theorem drow_size (d : List UInt8) : (drow d).size = 16 := rfl
theorem drow_one (d : List UInt8) : (drow d).all (·.oneCell') = true := by
  have h1 : ∀ d i, (dcell d i).oneCell' = true := fun _ _ => rfl
  unfold drow
  simp [h1]
theorem drow_at (d : List UInt8) (j : Nat) (u : Value) (h : (drow d).toList[j]? = some u) : j < 16 ∧ u = dcell d j := by
  have e : drow d = ((List.range 16).map (dcell d)).toArray := rfl
  rw [e] at h
  simp at h
  obtain ⟨k, hk, rfl⟩ := h
  rw [List.getElem?_eq_some_iff] at hk
  obtain ⟨h1, h2⟩ := hk
  simp at h1 h2
  exact ⟨h1, by rw [h2]⟩
theorem zero_dig' : (Tryz.prog.info? 23).map (·.zero) = some (some (.agg (drow z16))) := by kernel_rfl
theorem zero_dig (w : World) : (zeroValue 23).run Tryz.prog w = .ok (.agg (drow z16)) w := by
  have h := zero_dig'
  generalize drow z16 = L at h ⊢
  cases hq : Tryz.prog.info? 23 with
  | none => rw [hq] at h; cases h
  | some i =>
    rw [hq] at h
    simp at h
    simp [zeroValue, typeInfo, hq, h]
theorem run_dig (w : World) (g : Nat) (d : List UInt8) (T : TypeId) (hg : w.heap[g]? = some (.cells (drow d) T (0, 0))) : (loadVar 23 ⟨g, 0, none⟩).run Tryz.prog w = .ok (.agg (drow d)) w :=
  run_loadVar_row w g T 23 (drow d) (0, 0) _ hg Tryz.underlying23 rfl (by rw [drow_size]; exact info_d)
/-- a digest is stored whole -/
theorem st_dig {ops : Array Oper} {rest : List Oper} {o : Oper} {a : Act} {w : World} {Q : Exit → Act → World → Prop} (d : List UInt8) (hgd : o.guard = none) (x y : Operand) (ho : o.op = .store 23 x y)
    (g : Nat) (hx : a.eval x = .pointer (some ⟨g, 0, none⟩)) (hy : a.eval y = .agg (drow d)) (T : TypeId) (old : Array Value) (hg : w.heap[g]? = some (.cells old T (0, 0))) (hold : old.size = 16)
    (h : wpList Tryz.prog ops Q rest (a.put o.dst undef) (w.setRow g (drow d))) : wpList Tryz.prog ops Q (o :: rest) a w :=
  wpList_store_row hgd _ x y ho g (drow d) hx hy T old hg (by rw [drow_size]; exact info_d) (by rw [drow_size, hold]) (drow_one d) h
theorem rd_range {w : World} {bb off cap : Nat} {b : List UInt8} (hv : RdE eB w (.slice (some ⟨bb, off, none⟩) b.length cap) b) (hb : b.length = 16) : w.rangeAt bb off (drow b).toList := by
  obtain ⟨b2, off2, e, _, hc⟩ := RdB_cells hv (by omega)
  cases e
  intro j u hu
  obtain ⟨h1, rfl⟩ := drow_at b j u hu
  exact hc j (by omega)
theorem dcell_take (b : List UInt8) (i : Nat) (h : i < 16) : dcell (b.take 16) i = dcell b i := by
  unfold dcell byteAt
  rw [List.getD_eq_getElem?_getD, List.getD_eq_getElem?_getD, List.getElem?_take, if_pos h]
theorem arr_dig (p : Addr) (c : Nat) (w : World) : (Instr.arrayAt 23 (.slice (some p) 16 c)).run Tryz.prog w = .ok (.pointer (some p)) w := by
  kernel_rfl
attribute [local irreducible] Calls drow
set_option maxRecDepth 100000 in
set_option maxHeartbeats 2000000 in
theorem digest_c (v : Value) (b : List UInt8) (w : World) (hv : RdE eB w v b) :
    Calls Tryz.prog 83 #[v] w fun e w' => e = .returned (.tuple #[.agg (drow (decD b).1), .int .i64 (decD b).2.1, .int .i64 (decD b).2.2]) ∧ Below w.heap.size w w' := by
  have hz := zero_dig
  have har := arr_dig
  have HR0 : Hid ((w.alloc (.cells (drow z16) 23)).heap[w.heap.size]? = some (.cells (drow z16) 23 (0, 0))) := Lib.hid (heap_last _ _ _ rfl)
  have HB0 : Hid (Below w.heap.size w (w.alloc (.cells (drow z16) 23))) := Lib.hid ((Below.refl _ _).alloc (Nat.le_refl _) _)
  have HV := Lib.hid (hv.alloc (.cells (drow z16) 23))
  have hlen := len_b HV.out 3
  by_cases h : b.length < 16
  · have HD : Hid (decD b = (z16, 0, 5)) := Lib.hid (if_pos h)
    have i1 : (b.length : Int) < 16 := by omega
    obtain ⟨a, cap, rfl, _, _, _⟩ := hv
    clear h hlen
    go_enter Tryz.func83, Tryz.ntmps83
    go_wp2_with (first
      | (refine wpList_load_row rfl 23 (.tmp 2) rfl w.heap.size rfl _ (drow z16) (0, 0) _ HR0.out Tryz.underlying23 rfl (by rw [drow_size]; exact info_d) ?_)
      | (refine st_dig z16 rfl (.tmp 2) (.tmp 8) rfl w.heap.size rfl rfl _ _ HR0.out (drow_size _) ?_))
    refine bodyPost_ret (results_row3 rfl _ _ w.heap.size _ rfl (run_dig _ _ z16 _ (heap_last _ _ _ rfl))) rfl ?_
    exact ⟨by rw [HD.out]; rfl, (Below.refl _ _).alloc (Nat.le_refl _) _⟩
  · have HD : Hid (decD b = (b.take 16, 16, 0)) := Lib.hid (if_neg h)
    have i1 : ¬ (b.length : Int) < 16 := by omega
    have hl16 : (b.take 16).length = 16 := by rw [List.length_take]; omega
    obtain ⟨vs, hs, hrs⟩ := slice_h HV.out 16 (by omega)
    have hrs2 := hrs
    obtain ⟨a2, cap2, rfl, hc2, _, hx2⟩ := hrs
    obtain ⟨bb, off, rfl, hbl, _⟩ := hx2 (by omega)
    have HRG := Lib.hid (rd_range hrs2 hl16)
    rw [hl16] at hs hc2
    have hs' : (Instr.slice 50 v none (some (.int .i64 16)) none).run Tryz.prog (w.alloc (.cells (drow z16) 23)) = .ok (.slice (some ⟨bb, off, none⟩) 16 cap2) (w.alloc (.cells (drow z16) 23)) := hs
    obtain ⟨a, cap, hvf, _, _, _⟩ := hv
    have HDD : Hid (drow (b.take 16) = drow (decD b).1) := Lib.hid (by rw [HD.out])
    rw [hvf] at hs' hlen ⊢
    clear h hlen hs hrs2 hl16 hx2
    go_enter Tryz.func83, Tryz.ntmps83
    go_wp2_with (first
      | (refine ld_dig (b.take 16) bb off HRG.out rfl (.tmp 11) rfl rfl ?_)
      | (refine st_dig (b.take 16) rfl (.tmp 2) (.tmp 12) rfl w.heap.size rfl rfl _ _ HR0.out (drow_size _) ?_))
    refine bodyPost_ret (results_row3 rfl _ _ w.heap.size _ rfl (run_dig _ _ (b.take 16) _ (heap_last _ _ _ rfl))) rfl ?_
    exact ⟨by rw [HD.out]; rfl, (Below.refl _ _).alloc (Nat.le_refl _) _⟩
end Go.Proofs.YtbpjdfnnlmblaaaGreatDoor
/- Values are read by a reader (printed by bakG.py). -/
namespace Go.Proofs.YtbpjdfnnlmblaaaGreatDoor
open Go.RowKit Go.Shelf
set_option linter.unusedSimpArgs false
set_option linter.unusedVariables false
section
variable {α : Type}
def rdV (z : α) (dec : List UInt8 → α × Nat × Int) (rest : List UInt8) (e : Int) : α := if e ≠ 0 ∨ (dec rest).2.2 ≠ 0 then z else (dec rest).1
def rdR (dec : List UInt8 → α × Nat × Int) (rest : List UInt8) (e : Int) : List UInt8 := if e ≠ 0 ∨ (dec rest).2.2 ≠ 0 then rest else rest.drop (dec rest).2.1
def rdX (dec : List UInt8 → α × Nat × Int) (rest : List UInt8) (e : Int) : Int := if e ≠ 0 then e else (dec rest).2.2
theorem rd_parts (z : α) (dec : List UInt8 → α × Nat × Int) (rest : List UInt8) (e : Int) : (e ≠ 0 ∧ rdV z dec rest e = z ∧ rdR dec rest e = rest ∧ rdX dec rest e = e) ∨
    (e = 0 ∧ (dec rest).2.2 ≠ 0 ∧ rdV z dec rest e = z ∧ rdR dec rest e = rest ∧ rdX dec rest e = (dec rest).2.2) ∨
    (e = 0 ∧ (dec rest).2.2 = 0 ∧ rdV z dec rest e = (dec rest).1 ∧ rdR dec rest e = rest.drop (dec rest).2.1 ∧ rdX dec rest e = 0) := by
  unfold rdV rdR rdX
  by_cases h : e = 0
  · by_cases h2 : (dec rest).2.2 = 0
    · exact .inr (.inr ⟨h, h2, by simp [h, h2], by simp [h, h2], by simp [h, h2]⟩)
    · exact .inr (.inl ⟨h, h2, by simp [h, h2], by simp [h, h2], by simp [h]⟩)
  · exact .inl ⟨h, by simp [h], by simp [h], by simp [h]⟩
/-- .. all that is left -/
def whX (dec : List UInt8 → α × Nat × Int) (rest : List UInt8) (e : Int) : Int := if rdX dec rest e = 0 ∧ (decide ((rdR dec rest e).length = 0)) = false then 6 else rdX dec rest e
theorem rdR_len (dec : List UInt8 → α × Nat × Int) (rest : List UInt8) (e : Int) : (rdR dec rest e).length ≤ rest.length := by
  unfold rdR
  split
  · exact Nat.le_refl _
  · rw [List.length_drop]; omega
end
theorem RS.len {w : World} {g : Nat} {T : TypeId} {tl : Option (List UInt8)} {rest : List UInt8} {e : Int} (h : RS w g T tl rest e) : rest.length ≤ maxLen := by
  obtain ⟨v, _, h2⟩ := h
  exact h2.len
theorem RS.noB {w : World} {g : Nat} {T : TypeId} {tl : Option (List UInt8)} {rest : List UInt8} {e : Int} (h : RS w g T tl rest e) {w' : World} (hg : w.grownBy w' (some g)) {v : Value} {b : List UInt8} (hv : RdE eB w v b) : RdE eB w' v b := by
  obtain ⟨v2, h1, a, c, rfl, _⟩ := h
  refine hv.grownK eB_ok hg h1 ?_
  intro x _ j u hu
  simp at hu
  subst hu
  exact rc_noB j x
theorem grown_refl (w : World) (r : Option Nat) : w.grownBy w r := ⟨rfl, rfl, rfl, Nat.le_refl _, fun _ _ _ => rfl⟩
theorem slice_la {w : World} {v : Value} {b : List UInt8} (hv : RdE eB w v b) (i : Nat) (hi : i ≤ b.length) :
    ∃ v', (∀ wx, (Instr.slice 50 v (some (.int .i64 i)) none none).run Tryz.prog wx = .ok v' wx) ∧ (∀ u, RdE eB u v b → RdE eB u v' (b.drop i)) ∧ ∃ a n c, v' = .slice a n c := by
  obtain ⟨a, cap, rfl, h1, h2, h3⟩ := hv
  refine ⟨sliced a i b.length cap 1, ?_, ?_, _, _, _, rfl⟩
  · intro wx
    rw [run_slice_l wx _ a _ cap under_b .i64 _ (by omega) (by omega), size_b]
    simp [Result.andThen]
  · intro u hu
    have h := sliced_b hu i b.length hi (Nat.le_refl _)
    rwa [List.take_of_length_le (by rw [List.length_drop]; exact Nat.le_refl _)] at h
/-- a part of bytes, wherever they lie -/
def Part (v : Value) (rest : List UInt8) (v' : Value) (rest' : List UInt8) : Prop := ∀ u, RdE eB u v rest → RdE eB u v' rest'
/-- a reader's cells in memory -/
def RV (w : World) (g : Nat) (T : TypeId) (tl : Option (List UInt8)) (v : Value) (e : Int) : Prop := w.heap[g]? = some (.cells (rc v e tl) T (0, 0))
theorem RV.lt {w : World} {g : Nat} {T : TypeId} {tl : Option (List UInt8)} {v : Value} {e : Int} (h : RV w g T tl v e) : g < w.heap.size := (Array.getElem?_eq_some_iff.1 h).1
theorem RV.on {w w' : World} {g : Nat} {T : TypeId} {tl : Option (List UInt8)} {v : Value} {e : Int} (h : RV w g T tl v e) (hb : Below w.heap.size w w') : RV w' g T tl v e := by
  unfold RV
  rw [hb.block _ h.lt]
  exact h
/-- bytes stay where a reader's row is written -/
theorem RV.noB {w : World} {g : Nat} {T : TypeId} {tl : Option (List UInt8)} {v : Value} {rest : List UInt8} {e : Int} (h : RV w g T tl v e) (h2 : RdE eB w v rest) {w' : World} (hg : w.grownBy w' (some g)) {x : Value} {b : List UInt8} (hv : RdE eB w x b) : RdE eB w' x b :=
  RS.noB ⟨v, h, h2⟩ hg hv
theorem check_rv {w w' : World} {g : Nat} {T : TypeId} {tl : Option (List UInt8)} {v : Value} {e e2 : Int} {ok : Bool} (h : RV w g T tl v e) (hw : w' = if e = 0 ∧ ok = false then w.setRow g (rc v e2 tl) else w) : RV w' g T tl v (if e = 0 ∧ ok = false then e2 else e) := by
  rw [hw]
  split
  · exact setRow_heap _ _ _ _ _ _ h
  · exact h
theorem check_gr {w w' : World} {g : Nat} {tl : Option (List UInt8)} {v : Value} {e e2 : Int} {ok : Bool} (hw : w' = if e = 0 ∧ ok = false then w.setRow g (rc v e2 tl) else w) : w.grownBy w' (some g) := by
  rw [hw]
  split
  · exact grown_setRow _ _ _
  · exact grown_refl _ _
attribute [local irreducible] Calls rc drow

set_option maxRecDepth 100000 in
set_option maxHeartbeats 2000000 in
theorem readS_c (g : Nat) (T : TypeId) (tl : Option (List UInt8)) (v : Value) (rest : List UInt8) (e : Int) (w : World) (h1 : RV w g T tl v e) (h2 : RdE eB w v rest) (hl : rest.length ≤ 900000) :
    Calls Tryz.prog 80 #[.pointer (some ⟨g, 0, none⟩), .func (.func 81) #[] #[]] w fun en w' => ∃ x v', en = .returned x ∧ x = .string ⟨(rdV [] decS rest e).toArray⟩ ∧ RV w' g T tl v' (rdX decS rest e) ∧ Part v rest v' (rdR decS rest e) ∧ w.grownBy w' (some g) := by
  have H1 := Lib.hid h1
  have H2 := Lib.hid h2
  have HL := Lib.hid hl
  have HLT := Lib.hid h1.lt
  have c0 : w.cell? ⟨g, 0, none⟩ = some v := by rw [cell_of_row _ _ _ _ _ _ h1]; exact rc_0 v e tl
  have c1 : w.cell? ⟨g, 1, none⟩ = some (.int .i64 e) := by rw [cell_of_row _ _ _ _ _ _ h1]; exact rc_1 v e tl
  have HGET := Lib.hid (getBytes_c v rest w h2)
  obtain ⟨ad, cap, hvf, _, _, _⟩ := h2
  have HVF := Lib.hid hvf
  clear hvf
  rcases rd_parts [] decS rest e with ⟨p1, p2, p3, p4⟩ | ⟨p1, p2, p3, p4, p5⟩ | ⟨p1, p2, p3, p4, p5⟩
  · have HP2 := Lib.hid p2
    have HP3 := Lib.hid p3
    have HP4 := Lib.hid p4
    have i1 : (e != 0) = true := by simpa using p1
    clear p1 p2 p3 p4 h1 hl
    go_enter Tryz.func80, Tryz.ntmps80
    go_wp2
    go_ret
    exact ⟨_, v, rfl, by rw [HP2.out]; exact rfl, by rw [HP4.out]; exact H1.out, by rw [HP3.out]; exact fun _ h => h, grown_refl _ _⟩
  · subst p1
    have HP3 := Lib.hid p3
    have HP4 := Lib.hid p4
    have HP5 := Lib.hid p5
    generalize decS rest = d at HGET p2 HP5
    obtain ⟨xs, u, er⟩ := d
    simp only at p2 HGET HP5
    have i1 : (er == 0) = false := by simpa using p2
    have HP2 := Lib.hid p2
    clear p2 p3 p4 p5 h1 hl
    go_enter Tryz.func80, Tryz.ntmps80
    go_wp2_with (first
      | (go_at_call 81; refine HGET.out.mono ?_; rintro e1 w1 ⟨rfl, hw1⟩; have HB1 : Hid (Below w.heap.size w w1) := (Lib.hid (by rw [hw1]; exact Below.refl _ _)); clear hw1; simp only [strV])
      | (go_at_call 55; refine (check_x g T tl v 0 false er _ (H1.out.on HB1.out)).mono ?_; rw [if_pos ⟨rfl, rfl⟩, if_pos ⟨rfl, rfl⟩, decide_eq_false HP2.out]; rintro e2 w2 ⟨rfl, hw2⟩; have HR2 : Hid (RV w2 g T tl v er) := (Lib.hid (by rw [hw2]; exact setRow_heap _ _ _ _ _ _ (H1.out.on HB1.out))); have HG2 : Hid (w.grownBy w2 (some g)) := (Lib.hid (by rw [hw2]; exact grown_trans (grownB g HB1.out) (grown_setRow _ _ _))); clear hw2))
    go_ret
    exact ⟨_, v, rfl, by rw [HP3.out]; exact rfl, by rw [HP5.out]; exact HR2.out, by rw [HP4.out]; exact fun _ h => h, HG2.out⟩
  · subst p1
    have HP3 := Lib.hid p3
    have HP4 := Lib.hid p4
    have HP5 := Lib.hid p5
    have HUS := Lib.hid (codecS.used rest p2).1
    generalize decS rest = d at HGET p2 HP3 HP4 HUS
    obtain ⟨xs, u, er⟩ := d
    simp only at p2 HGET HP3 HP4 HUS
    subst p2
    clear p3 p4 p5 h1 hl
    go_enter Tryz.func80, Tryz.ntmps80
    go_upto_region 6 with (first
      | (go_at_call 81; refine HGET.out.mono ?_; rintro e1 w1 ⟨rfl, hw1⟩; have HB1 : Hid (Below w.heap.size w w1) := (Lib.hid (by rw [hw1]; exact Below.refl _ _)); clear hw1; simp only [strV])
      | (go_at_call 55; refine (check_x g T tl v 0 true 0 _ (H1.out.on HB1.out)).mono ?_; rw [if_neg (fun h => by cases h.2), if_neg (fun h => by cases h.2), decide_eq_true rfl]; rintro e2 w2 ⟨rfl, hw2⟩; rw [hw2]; clear hw2))
    have HK1 : Hid (RV w1 g T tl v 0) := Lib.hid (H1.out.on HB1.out)
    have d0 : w1.cell? ⟨g, 0, none⟩ = some v := by rw [cell_of_row _ _ _ _ _ _ HK1.out]; exact rc_0 v 0 tl
    have f0 := frozen_of_row _ _ 0 _ _ HK1.out
    rw [HVF.out] at d0
    obtain ⟨vs, hs, hp, a3, n3, c3, rfl⟩ := slice_la H2.out u HUS.out
    rw [HVF.out] at hs
    have HPT := Lib.hid hp
    have HW3 : Hid (w1.setCell ⟨g, 0, none⟩ (.slice a3 n3 c3) = w1.setRow g (rc (.slice a3 n3 c3) 0 tl)) := Lib.hid (by rw [setCell_rowC _ _ _ _ _ _ _ HK1.out, rc_set0])
    clear hp
    go_wp2
    go_ret
    rw [HW3.out]
    refine ⟨_, .slice a3 n3 c3, rfl, by rw [HP3.out]; exact rfl, by rw [HP5.out]; exact setRow_heap _ _ _ _ _ _ HK1.out, by rw [HP4.out]; exact HPT.out, grown_trans (grownB g HB1.out) (grown_setRow _ _ _)⟩

set_option maxRecDepth 100000 in
set_option maxHeartbeats 2000000 in
theorem wholeS_c (g : Nat) (T : TypeId) (tl : Option (List UInt8)) (v : Value) (rest : List UInt8) (e : Int) (w : World) (h1 : RV w g T tl v e) (h2 : RdE eB w v rest) (hl : rest.length ≤ 900000) :
    Calls Tryz.prog 86 #[.pointer (some ⟨g, 0, none⟩), .func (.func 81) #[] #[]] w fun en w' => ∃ x v', en = .returned x ∧ x = .string ⟨(rdV [] decS rest e).toArray⟩ ∧ RV w' g T tl v' (whX decS rest e) ∧ Part v rest v' (rdR decS rest e) ∧ w.grownBy w' (some g) := by
  have HLT := Lib.hid h1.lt
  have H1 := Lib.hid h1
  have H2 := Lib.hid h2
  have HCALL := Lib.hid (readS_c g T tl v rest e w h1 h2 hl)
  have HWX : Hid (whX decS rest e = if rdX decS rest e = 0 ∧ (decide ((rdR decS rest e).length = 0)) = false then 6 else rdX decS rest e) := Lib.hid rfl
  generalize rdR decS rest e = rr at HWX HCALL ⊢
  generalize rdX decS rest e = ex at HWX HCALL
  generalize rdV [] decS rest e = rv at HCALL ⊢
  clear h1 h2
  go_enter Tryz.func86, Tryz.ntmps86
  go_upto_region 2 with (go_at_call 80; refine HCALL.out.mono ?_; rintro e1 w1 ⟨_, v1, rfl, rfl, hr1, hp1, hg1⟩; have HR1 := Lib.hid hr1; have HPT1 := Lib.hid hp1; have HG1 := Lib.hid hg1; clear hr1 hg1 hp1)
  have d0 : w1.cell? ⟨g, 0, none⟩ = some v1 := by rw [cell_of_row _ _ _ _ _ _ HR1.out]; exact rc_0 v1 ex tl
  have HRD1 := Lib.hid (HPT1.out w1 (H1.out.noB H2.out HG1.out H2.out))
  obtain ⟨a2, c2, rfl, _, _, _⟩ := HRD1.out
  have HN : Hid ((((rr.length : Int) == 0) = decide (rr.length = 0))) := Lib.hid (by by_cases h0 : rr.length = 0 <;> simp [h0])
  go_wp2_with (go_at_call 55; rw [HN.out]; refine (check_x g T tl _ ex (decide (rr.length = 0)) 6 _ HR1.out).mono ?_; rw [← HWX.out]; rintro e2 w2 ⟨rfl, hw2⟩; have HR2 : Hid (RV w2 g T tl _ _) := (Lib.hid (check_rv HR1.out hw2)); have HG12 := Lib.hid (check_gr hw2); have HG2 := Lib.hid (grown_trans HG1.out HG12.out); clear hw2)
  go_ret
  exact ⟨_, _, rfl, rfl, by rw [HWX.out]; exact HR2.out, HPT1.out, HG2.out⟩

set_option maxRecDepth 100000 in
set_option maxHeartbeats 2000000 in
theorem readI_c (g : Nat) (T : TypeId) (tl : Option (List UInt8)) (v : Value) (rest : List UInt8) (e : Int) (w : World) (h1 : RV w g T tl v e) (h2 : RdE eB w v rest) (hl : rest.length ≤ 900000) :
    Calls Tryz.prog 84 #[.pointer (some ⟨g, 0, none⟩), .func (.func 85) #[] #[]] w fun en w' => ∃ x v', en = .returned x ∧ OwnE eI w' w.heap.size x (rdV [] decIs rest e) ∧ RV w' g T tl v' (rdX decIs rest e) ∧ Part v rest v' (rdR decIs rest e) ∧ w.grownBy w' (some g) := by
  have H1 := Lib.hid h1
  have H2 := Lib.hid h2
  have HL := Lib.hid hl
  have HLT := Lib.hid h1.lt
  have c0 : w.cell? ⟨g, 0, none⟩ = some v := by rw [cell_of_row _ _ _ _ _ _ h1]; exact rc_0 v e tl
  have c1 : w.cell? ⟨g, 1, none⟩ = some (.int .i64 e) := by rw [cell_of_row _ _ _ _ _ _ h1]; exact rc_1 v e tl
  have HGET := Lib.hid (getInts_c v rest w h2 hl)
  obtain ⟨ad, cap, hvf, _, _, _⟩ := h2
  have HVF := Lib.hid hvf
  clear hvf
  rcases rd_parts [] decIs rest e with ⟨p1, p2, p3, p4⟩ | ⟨p1, p2, p3, p4, p5⟩ | ⟨p1, p2, p3, p4, p5⟩
  · have HP2 := Lib.hid p2
    have HP3 := Lib.hid p3
    have HP4 := Lib.hid p4
    have i1 : (e != 0) = true := by simpa using p1
    clear p1 p2 p3 p4 h1 hl
    go_enter Tryz.func84, Tryz.ntmps84
    go_wp2
    go_ret
    exact ⟨_, v, rfl, by rw [HP2.out]; exact OwnE.nil _ _, by rw [HP4.out]; exact H1.out, by rw [HP3.out]; exact fun _ h => h, grown_refl _ _⟩
  · subst p1
    have HP3 := Lib.hid p3
    have HP4 := Lib.hid p4
    have HP5 := Lib.hid p5
    generalize decIs rest = d at HGET p2 HP5
    obtain ⟨xs, u, er⟩ := d
    simp only at p2 HGET HP5
    have i1 : (er == 0) = false := by simpa using p2
    have HP2 := Lib.hid p2
    clear p2 p3 p4 p5 h1 hl
    go_enter Tryz.func84, Tryz.ntmps84
    go_wp2_with (first
      | (go_at_call 85; refine HGET.out.mono ?_; rintro e1 w1 ⟨x1, rfl, ho1, hb1⟩; have HO1 := Lib.hid ho1; have HB1 := Lib.hid hb1; obtain ⟨xa, xc, rfl, _, _, _⟩ := ho1.rd; clear ho1 hb1)
      | (go_at_call 55; refine (check_x g T tl v 0 false er _ (H1.out.on HB1.out)).mono ?_; rw [if_pos ⟨rfl, rfl⟩, if_pos ⟨rfl, rfl⟩, decide_eq_false HP2.out]; rintro e2 w2 ⟨rfl, hw2⟩; have HR2 : Hid (RV w2 g T tl v er) := (Lib.hid (by rw [hw2]; exact setRow_heap _ _ _ _ _ _ (H1.out.on HB1.out))); have HG2 : Hid (w.grownBy w2 (some g)) := (Lib.hid (by rw [hw2]; exact grown_trans (grownB g HB1.out) (grown_setRow _ _ _))); clear hw2))
    go_ret
    exact ⟨_, v, rfl, by rw [HP3.out]; exact OwnE.nil _ _, by rw [HP5.out]; exact HR2.out, by rw [HP4.out]; exact fun _ h => h, HG2.out⟩
  · subst p1
    have HP3 := Lib.hid p3
    have HP4 := Lib.hid p4
    have HP5 := Lib.hid p5
    have HUS := Lib.hid (codecIs.used rest p2).1
    generalize decIs rest = d at HGET p2 HP3 HP4 HUS
    obtain ⟨xs, u, er⟩ := d
    simp only at p2 HGET HP3 HP4 HUS
    subst p2
    clear p3 p4 p5 h1 hl
    go_enter Tryz.func84, Tryz.ntmps84
    go_upto_region 6 with (first
      | (go_at_call 85; refine HGET.out.mono ?_; rintro e1 w1 ⟨x1, rfl, ho1, hb1⟩; have HO1 := Lib.hid ho1; have HB1 := Lib.hid hb1; obtain ⟨xa, xc, rfl, _, _, _⟩ := ho1.rd; clear ho1 hb1)
      | (go_at_call 55; refine (check_x g T tl v 0 true 0 _ (H1.out.on HB1.out)).mono ?_; rw [if_neg (fun h => by cases h.2), if_neg (fun h => by cases h.2), decide_eq_true rfl]; rintro e2 w2 ⟨rfl, hw2⟩; rw [hw2]; clear hw2))
    have HK1 : Hid (RV w1 g T tl v 0) := Lib.hid (H1.out.on HB1.out)
    have d0 : w1.cell? ⟨g, 0, none⟩ = some v := by rw [cell_of_row _ _ _ _ _ _ HK1.out]; exact rc_0 v 0 tl
    have f0 := frozen_of_row _ _ 0 _ _ HK1.out
    rw [HVF.out] at d0
    obtain ⟨vs, hs, hp, a3, n3, c3, rfl⟩ := slice_la H2.out u HUS.out
    rw [HVF.out] at hs
    have HPT := Lib.hid hp
    have HW3 : Hid (w1.setCell ⟨g, 0, none⟩ (.slice a3 n3 c3) = w1.setRow g (rc (.slice a3 n3 c3) 0 tl)) := Lib.hid (by rw [setCell_rowC _ _ _ _ _ _ _ HK1.out, rc_set0])
    clear hp
    go_wp2
    go_ret
    rw [HW3.out]
    refine ⟨_, .slice a3 n3 c3, rfl, by rw [HP3.out]; exact HO1.out.grown (grown_setRow _ _ _) (fun g2 hg2 => by cases hg2; exact HO1.out.neOld HLT.out), by rw [HP5.out]; exact setRow_heap _ _ _ _ _ _ HK1.out, by rw [HP4.out]; exact HPT.out, grown_trans (grownB g HB1.out) (grown_setRow _ _ _)⟩

set_option maxRecDepth 100000 in
set_option maxHeartbeats 2000000 in
theorem wholeI_c (g : Nat) (T : TypeId) (tl : Option (List UInt8)) (v : Value) (rest : List UInt8) (e : Int) (w : World) (h1 : RV w g T tl v e) (h2 : RdE eB w v rest) (hl : rest.length ≤ 900000) :
    Calls Tryz.prog 91 #[.pointer (some ⟨g, 0, none⟩), .func (.func 85) #[] #[]] w fun en w' => ∃ x v', en = .returned x ∧ OwnE eI w' w.heap.size x (rdV [] decIs rest e) ∧ RV w' g T tl v' (whX decIs rest e) ∧ Part v rest v' (rdR decIs rest e) ∧ w.grownBy w' (some g) := by
  have HLT := Lib.hid h1.lt
  have H1 := Lib.hid h1
  have H2 := Lib.hid h2
  have HCALL := Lib.hid (readI_c g T tl v rest e w h1 h2 hl)
  have HWX : Hid (whX decIs rest e = if rdX decIs rest e = 0 ∧ (decide ((rdR decIs rest e).length = 0)) = false then 6 else rdX decIs rest e) := Lib.hid rfl
  generalize rdR decIs rest e = rr at HWX HCALL ⊢
  generalize rdX decIs rest e = ex at HWX HCALL
  generalize rdV [] decIs rest e = rv at HCALL ⊢
  clear h1 h2
  go_enter Tryz.func91, Tryz.ntmps91
  go_upto_region 2 with (go_at_call 84; refine HCALL.out.mono ?_; rintro e1 w1 ⟨x1, v1, rfl, ho1, hr1, hp1, hg1⟩; have HO1 := Lib.hid ho1; have HR1 := Lib.hid hr1; have HPT1 := Lib.hid hp1; have HG1 := Lib.hid hg1; obtain ⟨xa, xc, rfl, _, _, _⟩ := ho1.rd; clear ho1 hr1 hg1 hp1)
  have d0 : w1.cell? ⟨g, 0, none⟩ = some v1 := by rw [cell_of_row _ _ _ _ _ _ HR1.out]; exact rc_0 v1 ex tl
  have HRD1 := Lib.hid (HPT1.out w1 (H1.out.noB H2.out HG1.out H2.out))
  obtain ⟨a2, c2, rfl, _, _, _⟩ := HRD1.out
  have HN : Hid ((((rr.length : Int) == 0) = decide (rr.length = 0))) := Lib.hid (by by_cases h0 : rr.length = 0 <;> simp [h0])
  go_wp2_with (go_at_call 55; rw [HN.out]; refine (check_x g T tl _ ex (decide (rr.length = 0)) 6 _ HR1.out).mono ?_; rw [← HWX.out]; rintro e2 w2 ⟨rfl, hw2⟩; have HR2 : Hid (RV w2 g T tl _ _) := (Lib.hid (check_rv HR1.out hw2)); have HG12 := Lib.hid (check_gr hw2); have HG2 := Lib.hid (grown_trans HG1.out HG12.out); clear hw2)
  go_ret
  exact ⟨_, _, rfl, HO1.out.grown HG12.out (fun g2 hg2 => by cases hg2; exact HO1.out.neOld HLT.out), by rw [HWX.out]; exact HR2.out, HPT1.out, HG2.out⟩

set_option maxRecDepth 100000 in
set_option maxHeartbeats 2000000 in
theorem readL_c (g : Nat) (T : TypeId) (tl : Option (List UInt8)) (v : Value) (rest : List UInt8) (e : Int) (w : World) (h1 : RV w g T tl v e) (h2 : RdE eB w v rest) (hl : rest.length ≤ 900000) :
    Calls Tryz.prog 89 #[.pointer (some ⟨g, 0, none⟩), .func (.func 53) #[] #[]] w fun en w' => ∃ x v', en = .returned x ∧ OwnE eS w' w.heap.size x (rdV [] decSs rest e) ∧ RV w' g T tl v' (rdX decSs rest e) ∧ Part v rest v' (rdR decSs rest e) ∧ w.grownBy w' (some g) := by
  have H1 := Lib.hid h1
  have H2 := Lib.hid h2
  have HL := Lib.hid hl
  have HLT := Lib.hid h1.lt
  have c0 : w.cell? ⟨g, 0, none⟩ = some v := by rw [cell_of_row _ _ _ _ _ _ h1]; exact rc_0 v e tl
  have c1 : w.cell? ⟨g, 1, none⟩ = some (.int .i64 e) := by rw [cell_of_row _ _ _ _ _ _ h1]; exact rc_1 v e tl
  have HGET := Lib.hid (getStrings_c v rest w h2 hl)
  obtain ⟨ad, cap, hvf, _, _, _⟩ := h2
  have HVF := Lib.hid hvf
  clear hvf
  rcases rd_parts [] decSs rest e with ⟨p1, p2, p3, p4⟩ | ⟨p1, p2, p3, p4, p5⟩ | ⟨p1, p2, p3, p4, p5⟩
  · have HP2 := Lib.hid p2
    have HP3 := Lib.hid p3
    have HP4 := Lib.hid p4
    have i1 : (e != 0) = true := by simpa using p1
    clear p1 p2 p3 p4 h1 hl
    go_enter Tryz.func89, Tryz.ntmps89
    go_wp2
    go_ret
    exact ⟨_, v, rfl, by rw [HP2.out]; exact OwnE.nil _ _, by rw [HP4.out]; exact H1.out, by rw [HP3.out]; exact fun _ h => h, grown_refl _ _⟩
  · subst p1
    have HP3 := Lib.hid p3
    have HP4 := Lib.hid p4
    have HP5 := Lib.hid p5
    generalize decSs rest = d at HGET p2 HP5
    obtain ⟨xs, u, er⟩ := d
    simp only at p2 HGET HP5
    have i1 : (er == 0) = false := by simpa using p2
    have HP2 := Lib.hid p2
    clear p2 p3 p4 p5 h1 hl
    go_enter Tryz.func89, Tryz.ntmps89
    go_wp2_with (first
      | (go_at_call 53; refine HGET.out.mono ?_; rintro e1 w1 ⟨x1, rfl, ho1, hb1⟩; have HO1 := Lib.hid ho1; have HB1 := Lib.hid hb1; obtain ⟨xa, xc, rfl, _, _, _⟩ := ho1.rd; clear ho1 hb1)
      | (go_at_call 55; refine (check_x g T tl v 0 false er _ (H1.out.on HB1.out)).mono ?_; rw [if_pos ⟨rfl, rfl⟩, if_pos ⟨rfl, rfl⟩, decide_eq_false HP2.out]; rintro e2 w2 ⟨rfl, hw2⟩; have HR2 : Hid (RV w2 g T tl v er) := (Lib.hid (by rw [hw2]; exact setRow_heap _ _ _ _ _ _ (H1.out.on HB1.out))); have HG2 : Hid (w.grownBy w2 (some g)) := (Lib.hid (by rw [hw2]; exact grown_trans (grownB g HB1.out) (grown_setRow _ _ _))); clear hw2))
    go_ret
    exact ⟨_, v, rfl, by rw [HP3.out]; exact OwnE.nil _ _, by rw [HP5.out]; exact HR2.out, by rw [HP4.out]; exact fun _ h => h, HG2.out⟩
  · subst p1
    have HP3 := Lib.hid p3
    have HP4 := Lib.hid p4
    have HP5 := Lib.hid p5
    have HUS := Lib.hid (codecSs.used rest p2).1
    generalize decSs rest = d at HGET p2 HP3 HP4 HUS
    obtain ⟨xs, u, er⟩ := d
    simp only at p2 HGET HP3 HP4 HUS
    subst p2
    clear p3 p4 p5 h1 hl
    go_enter Tryz.func89, Tryz.ntmps89
    go_upto_region 6 with (first
      | (go_at_call 53; refine HGET.out.mono ?_; rintro e1 w1 ⟨x1, rfl, ho1, hb1⟩; have HO1 := Lib.hid ho1; have HB1 := Lib.hid hb1; obtain ⟨xa, xc, rfl, _, _, _⟩ := ho1.rd; clear ho1 hb1)
      | (go_at_call 55; refine (check_x g T tl v 0 true 0 _ (H1.out.on HB1.out)).mono ?_; rw [if_neg (fun h => by cases h.2), if_neg (fun h => by cases h.2), decide_eq_true rfl]; rintro e2 w2 ⟨rfl, hw2⟩; rw [hw2]; clear hw2))
    have HK1 : Hid (RV w1 g T tl v 0) := Lib.hid (H1.out.on HB1.out)
    have d0 : w1.cell? ⟨g, 0, none⟩ = some v := by rw [cell_of_row _ _ _ _ _ _ HK1.out]; exact rc_0 v 0 tl
    have f0 := frozen_of_row _ _ 0 _ _ HK1.out
    rw [HVF.out] at d0
    obtain ⟨vs, hs, hp, a3, n3, c3, rfl⟩ := slice_la H2.out u HUS.out
    rw [HVF.out] at hs
    have HPT := Lib.hid hp
    have HW3 : Hid (w1.setCell ⟨g, 0, none⟩ (.slice a3 n3 c3) = w1.setRow g (rc (.slice a3 n3 c3) 0 tl)) := Lib.hid (by rw [setCell_rowC _ _ _ _ _ _ _ HK1.out, rc_set0])
    clear hp
    go_wp2
    go_ret
    rw [HW3.out]
    refine ⟨_, .slice a3 n3 c3, rfl, by rw [HP3.out]; exact HO1.out.grown (grown_setRow _ _ _) (fun g2 hg2 => by cases hg2; exact HO1.out.neOld HLT.out), by rw [HP5.out]; exact setRow_heap _ _ _ _ _ _ HK1.out, by rw [HP4.out]; exact HPT.out, grown_trans (grownB g HB1.out) (grown_setRow _ _ _)⟩

set_option maxRecDepth 100000 in
set_option maxHeartbeats 2000000 in
theorem wholeL_c (g : Nat) (T : TypeId) (tl : Option (List UInt8)) (v : Value) (rest : List UInt8) (e : Int) (w : World) (h1 : RV w g T tl v e) (h2 : RdE eB w v rest) (hl : rest.length ≤ 900000) :
    Calls Tryz.prog 52 #[.pointer (some ⟨g, 0, none⟩), .func (.func 53) #[] #[]] w fun en w' => ∃ x v', en = .returned x ∧ OwnE eS w' w.heap.size x (rdV [] decSs rest e) ∧ RV w' g T tl v' (whX decSs rest e) ∧ Part v rest v' (rdR decSs rest e) ∧ w.grownBy w' (some g) := by
  have HLT := Lib.hid h1.lt
  have H1 := Lib.hid h1
  have H2 := Lib.hid h2
  have HCALL := Lib.hid (readL_c g T tl v rest e w h1 h2 hl)
  have HWX : Hid (whX decSs rest e = if rdX decSs rest e = 0 ∧ (decide ((rdR decSs rest e).length = 0)) = false then 6 else rdX decSs rest e) := Lib.hid rfl
  generalize rdR decSs rest e = rr at HWX HCALL ⊢
  generalize rdX decSs rest e = ex at HWX HCALL
  generalize rdV [] decSs rest e = rv at HCALL ⊢
  clear h1 h2
  go_enter Tryz.func52, Tryz.ntmps52
  go_upto_region 2 with (go_at_call 89; refine HCALL.out.mono ?_; rintro e1 w1 ⟨x1, v1, rfl, ho1, hr1, hp1, hg1⟩; have HO1 := Lib.hid ho1; have HR1 := Lib.hid hr1; have HPT1 := Lib.hid hp1; have HG1 := Lib.hid hg1; obtain ⟨xa, xc, rfl, _, _, _⟩ := ho1.rd; clear ho1 hr1 hg1 hp1)
  have d0 : w1.cell? ⟨g, 0, none⟩ = some v1 := by rw [cell_of_row _ _ _ _ _ _ HR1.out]; exact rc_0 v1 ex tl
  have HRD1 := Lib.hid (HPT1.out w1 (H1.out.noB H2.out HG1.out H2.out))
  obtain ⟨a2, c2, rfl, _, _, _⟩ := HRD1.out
  have HN : Hid ((((rr.length : Int) == 0) = decide (rr.length = 0))) := Lib.hid (by by_cases h0 : rr.length = 0 <;> simp [h0])
  go_wp2_with (go_at_call 55; rw [HN.out]; refine (check_x g T tl _ ex (decide (rr.length = 0)) 6 _ HR1.out).mono ?_; rw [← HWX.out]; rintro e2 w2 ⟨rfl, hw2⟩; have HR2 : Hid (RV w2 g T tl _ _) := (Lib.hid (check_rv HR1.out hw2)); have HG12 := Lib.hid (check_gr hw2); have HG2 := Lib.hid (grown_trans HG1.out HG12.out); clear hw2)
  go_ret
  exact ⟨_, _, rfl, HO1.out.grown HG12.out (fun g2 hg2 => by cases hg2; exact HO1.out.neOld HLT.out), by rw [HWX.out]; exact HR2.out, HPT1.out, HG2.out⟩
end Go.Proofs.YtbpjdfnnlmblaaaGreatDoor
/- A row that was made last is written whole. -/
namespace Go.Proofs.YtbpjdfnnlmblaaaGreatDoor
open Go.RowKit
set_option linter.unusedSimpArgs false
set_option linter.unusedVariables false
theorem setRow_new (w : World) (cs0 cs : Array Value) (T : TypeId) : (w.alloc (.cells cs0 T)).setRow w.heap.size cs = w.alloc (.cells cs T) := by
  unfold World.setRow World.alloc
  simp only [World.mk.injEq, and_true]
  apply Array.ext_getElem?
  intro j
  rw [Array.getElem?_modify]
  by_cases h : w.heap.size = j
  · subst h
    simp
  · simp only [h, if_false]
    simp only [Array.getElem?_push]
    rw [if_neg (fun e => h e.symm), if_neg (fun e => h e.symm)]
/-- a store of a whole row into the block that was made last -/
theorem st_new {ops : Array Oper} {rest : List Oper} {o : Oper} {a : Act} {w0 : World} {Q : Exit → Act → World → Prop} {cs0 : Array Value} (cs : Array Value) (T : TypeId) (hgd : o.guard = none) (x y : Operand) (ho : o.op = .store T x y)
    (n : Nat) (hx : a.eval x = .pointer (some ⟨n, 0, none⟩)) (hn : w0.heap.size = n) (hy : a.eval y = .agg cs) (hi : (Tryz.prog.info? T).map (·.size) = some cs.size) (hold : cs0.size = cs.size) (h1 : cs.all (·.oneCell') = true)
    (h : wpList Tryz.prog ops Q rest (a.put o.dst undef) (w0.alloc (.cells cs T))) : wpList Tryz.prog ops Q (o :: rest) a (w0.alloc (.cells cs0 T)) := by
  subst hn
  refine wpList_store_row hgd T x y ho w0.heap.size cs hx hy T cs0 (heap_alloc_new _ _) hi hold h1 ?_
  rw [setRow_new]
  exact h
end Go.Proofs.YtbpjdfnnlmblaaaGreatDoor
/- A digest is read by a reader. -/
namespace Go.Proofs.YtbpjdfnnlmblaaaGreatDoor
open Go.RowKit Go.Shelf
set_option linter.unusedSimpArgs false
set_option linter.unusedVariables false
/-- a block that the call has made is written -/
theorem grown_new {w w1 : World} {r : Option Nat} {g2 : Nat} (cs : Array Value) (h : w.grownBy w1 r) (hg : w.heap.size ≤ g2) : w.grownBy (w1.setRow g2 cs) r :=
  ⟨h.os, h.tape, h.output, by rw [setRow_size]; exact h.size, fun k hk hne => by rw [setRow_else _ _ _ _ (by omega)]; exact h.block k hk hne⟩
theorem grown_alloc {w w1 : World} {r : Option Nat} (X : Obj) (h : w.grownBy w1 r) : w.grownBy (w1.alloc X) r :=
  ⟨h.os, h.tape, h.output, by rw [World.size_alloc]; have := h.size; omega, fun k hk hne => by rw [heap_past _ _ _ (Nat.lt_of_lt_of_le hk h.size)]; exact h.block k hk hne⟩
theorem grown_then {w w1 w2 : World} {r : Option Nat} (h : w.grownBy w1 r) (h2 : Below w1.heap.size w1 w2) : w.grownBy w2 r :=
  ⟨h2.os.trans h.os, h2.tape.trans h.tape, h2.output.trans h.output, Nat.le_trans h.size h2.size, fun k hk hne => (h2.block k (Nat.lt_of_lt_of_le hk h.size)).trans (h.block k hk hne)⟩
theorem results_row1 {fn : Func} {p : Tmp} {ty : TypeId} (h : fn.results = #[.cell p ty]) (tmps : Array Value) (w : World) (g : Nat) (x : Value)
    (hp : tmps.getD p undef = .pointer (some ⟨g, 0, none⟩)) (hld : (loadVar ty ⟨g, 0, none⟩).run Tryz.prog w = .ok x w) :
    (results fn tmps).run Tryz.prog w = .ok x w := by
  have hp' : tmps[p]?.getD undef = .pointer (some ⟨g, 0, none⟩) := by simpa using hp
  simp [results, h, hp', asAddr, hld]
theorem ld_dig0 {ops : Array Oper} {rest : List Oper} {o : Oper} {a : Act} {w : World} {Q : Exit → Act → World → Prop} (d : List UInt8) (g : Nat) (T : TypeId) (hg : w.heap[g]? = some (.cells (drow d) T (0, 0)))
    (hgd : o.guard = none) (x : Operand) (ho : o.op = .load 23 x) (hx : a.eval x = .pointer (some ⟨g, 0, none⟩))
    (h : wpList Tryz.prog ops Q rest (a.put o.dst (.agg (drow d))) w) : wpList Tryz.prog ops Q (o :: rest) a w :=
  wpList_load_row hgd _ x ho g hx _ (drow d) (0, 0) _ hg Tryz.underlying23 rfl (by rw [drow_size]; exact info_d) h
theorem decD_used (b : List UInt8) (h : (decD b).2.2 = 0) : (decD b).2.1 ≤ b.length := by
  unfold decD at h ⊢
  split
  · rename_i hl
    rw [if_pos hl] at h
    cases h
  · show 16 ≤ b.length
    omega
attribute [local irreducible] Calls rc drow decD
set_option maxRecDepth 100000 in
set_option maxHeartbeats 2000000 in
theorem readD_c (g : Nat) (T : TypeId) (tl : Option (List UInt8)) (v : Value) (rest : List UInt8) (e : Int) (w : World) (h1 : RV w g T tl v e) (h2 : RdE eB w v rest) :
    Calls Tryz.prog 82 #[.pointer (some ⟨g, 0, none⟩), .func (.func 83) #[] #[]] w fun en w' => ∃ v', en = .returned (.agg (drow (rdV z16 decD rest e))) ∧ RV w' g T tl v' (rdX decD rest e) ∧ Part v rest v' (rdR decD rest e) ∧ w.grownBy w' (some g) := by
  have HLT := Lib.hid h1.lt
  have hz := zero_dig
  obtain ⟨W0, hW0⟩ : ∃ W0, W0 = w.alloc (.cells (drow z16) 23) := ⟨_, rfl⟩
  have HW := Lib.hid hW0
  have HR0 : Hid (W0.heap[w.heap.size]? = some (.cells (drow z16) 23 (0, 0))) := Lib.hid (by rw [hW0]; exact heap_last _ _ _ rfl)
  have HB0 : Hid (Below w.heap.size w W0) := Lib.hid (by rw [hW0]; exact (Below.refl _ _).alloc (Nat.le_refl _) _)
  have H1 := Lib.hid h1
  have H2 := Lib.hid h2
  have HG0 : Hid (W0.heap[g]? = some (.cells (rc v e tl) T (0, 0))) := Lib.hid (by rw [HB0.out.block _ HLT.out]; exact h1)
  have c0 : W0.cell? ⟨g, 0, none⟩ = some v := by rw [cell_of_row _ _ _ _ _ _ HG0.out]; exact rc_0 v e tl
  have c1 : W0.cell? ⟨g, 1, none⟩ = some (.int .i64 e) := by rw [cell_of_row _ _ _ _ _ _ HG0.out]; exact rc_1 v e tl
  have HGET := Lib.hid (digest_c v rest W0 (h2.on HB0.out))
  obtain ⟨ad, cap, hvf, _, _, _⟩ := h2
  rcases rd_parts z16 decD rest e with ⟨p1, p2, p3, p4⟩ | ⟨p1, p2, p3, p4, p5⟩ | ⟨p1, p2, p3, p4, p5⟩
  · have HP2 := Lib.hid p2
    have HP3 := Lib.hid p3
    have HP4 := Lib.hid p4
    have i1 : (e != 0) = true := by simpa using p1
    clear p1 p2 p3 p4 h1 hW0 hvf
    go_enter Tryz.func82, Tryz.ntmps82
    go_upto_region 1 with fail
    rw [← HW.out]
    go_wp2_with (first
      | (refine ld_dig0 z16 w.heap.size _ HR0.out rfl (.tmp 4) rfl rfl ?_)
      | (refine st_dig z16 rfl (.tmp 4) (.tmp 13) rfl w.heap.size rfl rfl _ _ HR0.out (drow_size _) ?_))
    have HG := Lib.hid (grown_new (drow z16) (grownB g HB0.out) (Nat.le_refl w.heap.size))
    refine bodyPost_ret (results_row1 rfl _ _ w.heap.size _ rfl (run_dig _ _ z16 _ (setRow_heap _ _ _ _ _ _ HR0.out))) rfl ?_
    refine ⟨v, by rw [HP2.out], ?_, by rw [HP3.out]; exact fun _ h => h, HG.out⟩
    rw [HP4.out]
    unfold RV
    rw [setRow_else _ _ _ _ (by have := HLT.out; omega)]
    exact HG0.out
  · subst p1
    have HP3 := Lib.hid p3
    have HP4 := Lib.hid p4
    have HP5 := Lib.hid p5
    generalize decD rest = d at HGET p2 HP5
    obtain ⟨xs, u, er⟩ := d
    simp only at p2 HGET HP5
    have i1 : (er == 0) = false := by simpa using p2
    have HP2 := Lib.hid p2
    clear p2 p3 p4 p5 h1 hW0 hvf
    go_enter Tryz.func82, Tryz.ntmps82
    go_upto_region 1 with fail
    rw [← HW.out]
    go_upto_region 4 with (first
      | (go_at_call 83; refine HGET.out.mono ?_; rintro e1 w1 ⟨rfl, hb1⟩; have HB1 := Lib.hid hb1; clear hb1)
      | (refine st_new (drow xs) 23 rfl (.tmp 5) (.tmp 21) rfl _ rfl rfl rfl (by rw [drow_size]; exact info_d) ((drow_size _).trans (drow_size _).symm) (drow_one xs) ?_))
    have HGX : Hid ((w1.alloc (.cells (drow xs) 23)).heap[g]? = some (.cells (rc v 0 tl) T (0, 0))) := Lib.hid (by rw [heap_past _ _ _ (Nat.lt_of_lt_of_le (Nat.lt_of_lt_of_le HLT.out HB0.out.size) HB1.out.size), HB1.out.block _ (Nat.lt_of_lt_of_le HLT.out HB0.out.size)]; exact HG0.out)
    have HZ1 : Hid (((w1.alloc (.cells (drow xs) 23)).setRow g (rc v er tl)).heap[w.heap.size]? = some (.cells (drow z16) 23 (0, 0))) := Lib.hid (by
      have hsz : w.heap.size < W0.heap.size := (Array.getElem?_eq_some_iff.1 HR0.out).1
      rw [setRow_else _ _ _ _ (by have := HLT.out; omega), heap_past _ _ _ (Nat.lt_of_lt_of_le hsz HB1.out.size), HB1.out.block _ hsz]
      exact HR0.out)
    go_wp2_with (first
      | (go_at_call 55; refine (check_x g T tl v 0 false er _ HGX.out).mono ?_; rw [if_pos ⟨rfl, rfl⟩, if_pos ⟨rfl, rfl⟩, decide_eq_false HP2.out]; rintro e2 w2 ⟨rfl, hw2⟩; rw [hw2]; clear hw2)
      | (refine ld_dig0 z16 w.heap.size _ HZ1.out rfl (.tmp 4) rfl rfl ?_)
      | (refine st_dig z16 rfl (.tmp 4) (.tmp 30) rfl w.heap.size rfl rfl _ _ HZ1.out (drow_size _) ?_))
    have HG := Lib.hid (grown_new (drow z16) (grown_trans (grown_alloc (.cells (drow xs) 23) (grown_then (grownB g HB0.out) HB1.out)) (grown_setRow _ g (rc v er tl))) (Nat.le_refl w.heap.size))
    refine bodyPost_ret (results_row1 rfl _ _ w.heap.size _ rfl (run_dig _ _ z16 _ (setRow_heap _ _ _ _ _ _ HZ1.out))) rfl ?_
    refine ⟨v, by rw [HP3.out], ?_, by rw [HP4.out]; exact fun _ h => h, HG.out⟩
    rw [HP5.out]
    unfold RV
    rw [setRow_else _ _ _ _ (by have := HLT.out; omega)]
    exact setRow_heap _ _ _ _ _ _ HGX.out
  · subst p1
    have HP3 := Lib.hid p3
    have HP4 := Lib.hid p4
    have HP5 := Lib.hid p5
    obtain ⟨vs, hs, hrs, a3, nr, c3, rfl⟩ := slice_la H2.out (decD rest).2.1 (decD_used rest p2)
    generalize decD rest = d at HGET p2 HP3 HP4 hs hrs
    obtain ⟨xs, u, er⟩ := d
    simp only at p2 HGET HP3 HP4 hs hrs
    subst p2
    have HRS3 := Lib.hid hrs
    clear hrs
    rw [hvf] at hs
    clear p3 p4 p5 h1 hW0
    have HVF := Lib.hid hvf
    clear hvf
    go_enter Tryz.func82, Tryz.ntmps82
    go_upto_region 1 with fail
    rw [← HW.out]
    go_upto_region 4 with (first
      | (go_at_call 83; refine HGET.out.mono ?_; rintro e1 w1 ⟨rfl, hb1⟩; have HB1 := Lib.hid hb1; clear hb1)
      | (refine st_new (drow xs) 23 rfl (.tmp 5) (.tmp 21) rfl _ rfl rfl rfl (by rw [drow_size]; exact info_d) ((drow_size _).trans (drow_size _).symm) (drow_one xs) ?_))
    have HGX : Hid ((w1.alloc (.cells (drow xs) 23)).heap[g]? = some (.cells (rc v 0 tl) T (0, 0))) := Lib.hid (by rw [heap_past _ _ _ (Nat.lt_of_lt_of_le (Nat.lt_of_lt_of_le HLT.out HB0.out.size) HB1.out.size), HB1.out.block _ (Nat.lt_of_lt_of_le HLT.out HB0.out.size)]; exact HG0.out)
    have HX5 : Hid ((w1.alloc (.cells (drow xs) 23)).heap[w1.heap.size]? = some (.cells (drow xs) 23 (0, 0))) := Lib.hid (heap_last _ _ _ rfl)
    have hszW : w.heap.size < W0.heap.size := (Array.getElem?_eq_some_iff.1 HR0.out).1
    have HSZW := Lib.hid hszW
    have HZX : Hid ((w1.alloc (.cells (drow xs) 23)).heap[w.heap.size]? = some (.cells (drow z16) 23 (0, 0))) := Lib.hid (by
      rw [heap_past _ _ _ (Nat.lt_of_lt_of_le hszW HB1.out.size), HB1.out.block _ hszW]
      exact HR0.out)
    have HLT1 : Hid (g < w1.heap.size) := Lib.hid (Nat.lt_of_lt_of_le (Nat.lt_of_lt_of_le HLT.out HB0.out.size) HB1.out.size)
    have HWX := Lib.hid (grown_alloc (.cells (drow xs) 23) (grown_then (grownB g HB0.out) HB1.out))
    clear hszW
    go_upto_region 6 with (go_at_call 55; refine (check_x g T tl v 0 true 0 _ HGX.out).mono ?_; rw [if_neg (fun h => by cases h.2), if_neg (fun h => by cases h.2), decide_eq_true rfl]; rintro e2 w2 ⟨rfl, hw2⟩; rw [hw2]; clear hw2)
    generalize w1.alloc (.cells (drow xs) 23) = wx at HGX HX5 HZX HWX ⊢
    have d0 : wx.cell? ⟨g, 0, none⟩ = some v := by rw [cell_of_row _ _ _ _ _ _ HGX.out]; exact rc_0 v 0 tl
    rw [HVF.out] at d0
    have f0 := frozen_of_row _ _ 0 _ _ HGX.out
    have HW3 : Hid (wx.setCell ⟨g, 0, none⟩ (.slice a3 nr c3) = wx.setRow g (rc (.slice a3 nr c3) 0 tl)) := Lib.hid (by rw [setCell_rowC _ _ _ _ _ _ _ HGX.out, rc_set0])
    go_upto_region 7 with fail
    rw [HW3.out]
    have HX6 : Hid ((wx.setRow g (rc (.slice a3 nr c3) 0 tl)).heap[w1.heap.size]? = some (.cells (drow xs) 23 (0, 0))) := Lib.hid (by rw [setRow_else _ _ _ _ (by have := HLT1.out; omega)]; exact HX5.out)
    have HZ6 : Hid ((wx.setRow g (rc (.slice a3 nr c3) 0 tl)).heap[w.heap.size]? = some (.cells (drow z16) 23 (0, 0))) := Lib.hid (by rw [setRow_else _ _ _ _ (by have := HLT.out; omega)]; exact HZX.out)
    go_wp2_with (first
      | (refine ld_dig0 xs w1.heap.size _ HX6.out rfl (.tmp 5) rfl rfl ?_)
      | (refine st_dig xs rfl (.tmp 4) (.tmp 40) rfl w.heap.size rfl rfl _ _ HZ6.out (drow_size _) ?_))
    have HG := Lib.hid (grown_new (drow xs) (grown_trans HWX.out (grown_setRow _ g (rc (.slice a3 nr c3) 0 tl))) (Nat.le_refl w.heap.size))
    refine bodyPost_ret (results_row1 rfl _ _ w.heap.size _ rfl (run_dig _ _ xs _ (setRow_heap _ _ _ _ _ _ HZ6.out))) rfl ?_
    refine ⟨.slice a3 nr c3, by rw [HP3.out], ?_, by rw [HP4.out]; exact HRS3.out, HG.out⟩
    rw [HP5.out]
    unfold RV
    rw [setRow_else _ _ _ _ (by have := HLT.out; omega)]
    exact setRow_heap _ _ _ _ _ _ HGX.out
end Go.Proofs.YtbpjdfnnlmblaaaGreatDoor
/- A backup's row: its parts are written; the reader's box. -/
namespace Go.Proofs.YtbpjdfnnlmblaaaGreatDoor
open Go.RowKit Go.Shelf
set_option linter.unusedSimpArgs false
set_option linter.unusedVariables false
/-- the backup without anything -/
def zB : BK := ⟨z16, 0, 0, 0, 0, z16, []⟩
attribute [local semireducible] bc
theorem bcset_16 (b : BK) (u : Value) (x : Int) : (bc b u).setIfInBounds 16 (.int .i64 x) = bc { b with ep := x } u := rfl
theorem bcset_17 (b : BK) (u : Value) (x : Int) : (bc b u).setIfInBounds 17 (.int .i64 x) = bc { b with num := x } u := rfl
theorem bcset_18 (b : BK) (u : Value) (x : Int) : (bc b u).setIfInBounds 18 (.int .i64 x) = bc { b with fw := x } u := rfl
theorem bcset_19 (b : BK) (u : Value) (x : Int) : (bc b u).setIfInBounds 19 (.int .i64 x) = bc { b with tm := x } u := rfl
theorem bcset_36 (b : BK) (u : Value) (x : List UInt8) : (bc b u).setIfInBounds 36 (.string ⟨x.toArray⟩) = bc { b with mo := x } u := rfl
theorem bcset_37 (b : BK) (u x : Value) : (bc b u).setIfInBounds 37 x = bc b x := rfl
theorem bcset_dom (b : BK) (u : Value) (d : List UInt8) : ((bc b u).toList.take (0 + 0) ++ (drow d).toList ++ (bc b u).toList.drop (0 + 0 + (drow d).toList.length)).toArray = bc { b with dom := d } u := rfl
theorem bcset_pol (b : BK) (u : Value) (d : List UInt8) : ((bc b u).toList.take (20 + 0) ++ (drow d).toList ++ (bc b u).toList.drop (20 + 0 + (drow d).toList.length)).toArray = bc { b with pol := d } u := rfl
theorem zero_bk' : (Tryz.prog.info? 26).map (·.zero) = some (some (.agg (bc zB (.slice none 0 0)))) := by kernel_rfl
theorem bcone (b : BK) (a : Option Addr) (n c : Nat) : (bc b (.slice a n c)).all (·.oneCell') = true := by
  have h1 : ∀ d i, (dcell d i).oneCell' = true := fun _ _ => rfl
  have h2 : ∀ k, (Value.int .i64 k).oneCell' = true := fun _ => rfl
  have h3 : ∀ s, (Value.string s).oneCell' = true := fun _ => rfl
  have h4 : (Value.slice a n c).oneCell' = true := rfl
  unfold bc
  simp [h1, h2, h3, h4]
attribute [local irreducible] bc
theorem zero_bk (w : World) : (zeroValue 26).run Tryz.prog w = .ok (.agg (bc zB (.slice none 0 0))) w := by
  have h := zero_bk'
  generalize bc zB (.slice none 0 0) = L at h ⊢
  cases hq : Tryz.prog.info? 26 with
  | none => rw [hq] at h; cases h
  | some i =>
    rw [hq] at h
    simp at h
    simp [zeroValue, typeInfo, hq, h]
theorem run_stpart (w : World) (g o : Nat) (T : TypeId) (ty : TypeId) (cs cells : Array Value) (hg : w.heap[g]? = some (.cells cs T (0, 0))) (hi : (Tryz.prog.info? ty).map (·.size) = some cells.size) (h1 : cells.all (·.oneCell') = true) (hs : o + cells.size ≤ cs.size) :
    (storeVar ty ⟨g, o, none⟩ (.agg cells)).run Tryz.prog w = .ok () (w.setRow g (cs.toList.take (o + 0) ++ cells.toList ++ cs.toList.drop (o + 0 + cells.toList.length)).toArray) := by
  have := run_storeCells_at (P := Tryz.prog) g o T cells.toList 0 cs w hg (by simpa using hs) (fun v hv => (Array.all_eq_true_iff_forall_mem.1 h1) v (by simpa using hv))
  cases hq : Tryz.prog.info? ty with
  | none => simp [hq] at hi
  | some i =>
    have hs : cells.size = i.size := by simp [hq] at hi; omega
    simp only [Nat.add_zero] at this
    simp [storeVar, sizeOf, typeInfo, hq, Value.cells, hs, this]
theorem wpList_stpart {ops : Array Oper} {rest : List Oper} {o : Oper} {a : Act} {w w' : World} {Q : Exit → Act → World → Prop} (hgd : o.guard = none) (ty : TypeId) (x y : Operand) (ho : o.op = .store ty x y)
    (p : Addr) (v : Value) (hx : a.eval x = .pointer (some p)) (hy : a.eval y = v) (hr : (storeVar ty p v).run Tryz.prog w = .ok () w')
    (h : wpList Tryz.prog ops Q rest (a.put o.dst undef) w') : wpList Tryz.prog ops Q (o :: rest) a w :=
  wpList_plain hgd fun _ hK => by
    unfold Oper.wp execOp
    simp only [ho, hx, hy, Instr.storeAt, Instr.sureAddr, Sem.run_bind, Sem.run_pure, Result.andThen_ok, hr]
    exact hK _ _ h
theorem st_dom {ops : Array Oper} {rest : List Oper} {o : Oper} {a : Act} {w : World} {Q : Exit → Act → World → Prop} (b : BK) (u : Value) (d : List UInt8) (g : Nat) (hg : w.heap[g]? = some (.cells (bc b u) 26 (0, 0))) (hgd : o.guard = none) (x y : Operand) (ho : o.op = .store 23 x y)
    (hx : a.eval x = .pointer (some ⟨g, 0, none⟩)) (hy : a.eval y = .agg (drow d))
    (h : wpList Tryz.prog ops Q rest (a.put o.dst undef) (w.setRow g (bc { b with dom := d } u))) : wpList Tryz.prog ops Q (o :: rest) a w := by
  have hr := run_stpart w g 0 26 23 (bc b u) (drow d) hg (by rw [drow_size]; exact info_d) (drow_one d) (by rw [drow_size, bc_size]; decide)
  rw [bcset_dom] at hr
  exact wpList_stpart hgd _ x y ho _ _ hx hy hr h
theorem st_pol {ops : Array Oper} {rest : List Oper} {o : Oper} {a : Act} {w : World} {Q : Exit → Act → World → Prop} (b : BK) (u : Value) (d : List UInt8) (g : Nat) (hg : w.heap[g]? = some (.cells (bc b u) 26 (0, 0))) (hgd : o.guard = none) (x y : Operand) (ho : o.op = .store 23 x y)
    (hx : a.eval x = .pointer (some ⟨g, 20, none⟩)) (hy : a.eval y = .agg (drow d))
    (h : wpList Tryz.prog ops Q rest (a.put o.dst undef) (w.setRow g (bc { b with pol := d } u))) : wpList Tryz.prog ops Q (o :: rest) a w := by
  have hr := run_stpart w g 20 26 23 (bc b u) (drow d) hg (by rw [drow_size]; exact info_d) (drow_one d) (by rw [drow_size, bc_size]; decide)
  rw [bcset_pol] at hr
  exact wpList_stpart hgd _ x y ho _ _ hx hy hr h
theorem run_bkrow (w : World) (g : Nat) (b : BK) (u : Value) (T : TypeId) (hg : w.heap[g]? = some (.cells (bc b u) T (0, 0))) : (loadVar 26 ⟨g, 0, none⟩).run Tryz.prog w = .ok (.agg (bc b u)) w :=
  run_loadVar_row w g T 26 (bc b u) (0, 0) _ hg Tryz.underlying26 rfl (by rw [bc_size]; exact info_b)
theorem rc_set2 (v : Value) (e : Int) (h0 h1 : List UInt8) : (rc v e (some h0)).setIfInBounds 2 (.string ⟨h1.toArray⟩) = rc v e (some h1) := by unfold rc tlc; simp
theorem rc_2 (v : Value) (e : Int) (h : List UInt8) : (rc v e (some h))[2]? = some (.string ⟨h.toArray⟩) := rfl
end Go.Proofs.YtbpjdfnnlmblaaaGreatDoor
/- The header of a blob is read: what lies in memory meanwhile. -/
namespace Go.Proofs.YtbpjdfnnlmblaaaGreatDoor
open Go.RowKit Go.Shelf
set_option linter.unusedSimpArgs false
set_option linter.unusedVariables false
def nilS : Value := .slice none 0 0
/-- the numbers of a header -/
def setN (b : BK) (l : List Int) : BK := { b with ep := l.getD 0 0, num := l.getD 1 0, fw := l.getD 2 0, tm := l.getD 3 0 }
/-- what is read out of a header: the backup without its keys, the error -/
def hdE (hdr : List UInt8) (e : Int) : Int :=
  let r1 := rdR decD hdr e; let e1 := rdX decD hdr e
  let e2 := rdX decIs r1 e1
  if e2 = 0 ∧ decide ((rdV [] decIs r1 e1).length = 4) = false then 6 else e2
def hdB (hdr : List UInt8) (e : Int) : BK :=
  let r1 := rdR decD hdr e; let e1 := rdX decD hdr e
  let b0 : BK := { zB with dom := rdV z16 decD hdr e }
  let r2 := rdR decIs r1 e1
  let e3 := hdE hdr e
  let b1 := if e3 = 0 then setN b0 (rdV [] decIs r1 e1) else b0
  let r3 := rdR decD r2 e3; let e4 := rdX decD r2 e3
  { b1 with pol := rdV z16 decD r2 e3, mo := rdV [] decS r3 e4 }
def hdX (hdr : List UInt8) (e : Int) : Int :=
  let r1 := rdR decD hdr e; let e1 := rdX decD hdr e
  let r2 := rdR decIs r1 e1
  let e3 := hdE hdr e
  let r3 := rdR decD r2 e3; let e4 := rdX decD r2 e3
  let e5 := whX decS r3 e4
  if e5 = 0 ∧ validB (hdB hdr e) [] = false then 6 else e5
theorem RdE.other {α : Type} {E : El α} {w w' : World} {v : Value} {l : List α} {g : Nat} (h : RdE E w v l) (hg : w.grownBy w' (some g)) (hne : v.ownBlock ≠ some g) : RdE E w' v l := by
  obtain ⟨a, cap, rfl, h1, h2, h3⟩ := h
  refine ⟨a, cap, rfl, h1, h2, fun h0 => ?_⟩
  obtain ⟨b, off, rfl, hlt, hc⟩ := h3 h0
  have hbg : b ≠ g := fun e => hne (by rw [e]; rfl)
  exact ⟨b, off, rfl, Nat.lt_of_lt_of_le hlt hg.size, fun j u hu => by
    rw [World.cell?_of_block (a := ⟨b, off + j, none⟩) (hg.block b hlt (fun e => hbg (Option.some.inj e)))]
    exact hc j u hu⟩
theorem rdVS_len (rest : List UInt8) (e : Int) : (rdV [] decS rest e).length ≤ rest.length := by
  rcases rd_parts [] decS rest e with ⟨_, p3, _⟩ | ⟨_, _, p3, _⟩ | ⟨_, p2, p3, _⟩
  · rw [p3]; exact Nat.zero_le _
  · rw [p3]; exact Nat.zero_le _
  · rw [p3]
    have h3 := congrArg List.length (decS_ok rest _ _ (by rw [← p2])).1
    unfold encS at h3
    rw [List.length_append, List.length_append] at h3
    omega
structure PkS (w : World) (g : Nat) (hdr : List UInt8) (v1 : Value) (e1 : Int) (gh : Nat) (v0 : Value) (x : World) (b : BK) (vh : Value) (hr : List UInt8) (eh : Int) : Prop where
  bk : x.heap[w.heap.size]? = some (.cells (bc b nilS) 26 (0, 0))
  rv : RV x g 68 (some hdr) v1 e1
  hv : RV x gh 66 none vh eh
  rd : RdE eB x v0 hdr
  part : Part v0 hdr vh hr
  gr : w.grownBy x (some g)
  gb : w.heap.size < gh
  gg : g < w.heap.size
  nb : v0.ownBlock ≠ some w.heap.size
  le : hr.length ≤ hdr.length
theorem PkS.rdh {w : World} {g : Nat} {hdr : List UInt8} {v1 : Value} {e1 : Int} {gh : Nat} {v0 : Value} {x : World} {b : BK} {vh : Value} {hr : List UInt8} {eh : Int} (h : PkS w g hdr v1 e1 gh v0 x b vh hr eh) : RdE eB x vh hr := h.part x h.rd
theorem PkS.step {w : World} {g : Nat} {hdr : List UInt8} {v1 : Value} {e1 : Int} {gh : Nat} {v0 : Value} {x : World} {b : BK} {vh : Value} {hr : List UInt8} {eh : Int} (h : PkS w g hdr v1 e1 gh v0 x b vh hr eh) {y : World} {vh' : Value} {hr' : List UInt8} {eh' : Int}
    (hy : x.grownBy y (some gh)) (hv' : RV y gh 66 none vh' eh') (hp : Part vh hr vh' hr') (hle : hr'.length ≤ hr.length) : PkS w g hdr v1 e1 gh v0 y b vh' hr' eh' := by
  have h1 := h.gb
  have h2 := h.gg
  have hbs : w.heap.size < x.heap.size := (Array.getElem?_eq_some_iff.1 h.bk).1
  refine ⟨?_, ?_, hv', ?_, fun u hu => hp u (h.part u hu), ?_, h1, h2, h.nb, Nat.le_trans hle h.le⟩
  · rw [hy.block _ hbs (fun e => by cases e; omega)]; exact h.bk
  · unfold RV
    rw [hy.block _ (by omega) (fun e => by cases e; omega)]
    exact h.rv
  · exact h.hv.noB h.rdh hy h.rd
  · exact ⟨hy.os.trans h.gr.os, hy.tape.trans h.gr.tape, hy.output.trans h.gr.output, Nat.le_trans h.gr.size hy.size, fun k hk hne => (hy.block k (by omega) (fun e => by cases e; omega)).trans (h.gr.block k hk hne)⟩
theorem PkS.setB {w : World} {g : Nat} {hdr : List UInt8} {v1 : Value} {e1 : Int} {gh : Nat} {v0 : Value} {x : World} {b : BK} {vh : Value} {hr : List UInt8} {eh : Int} (h : PkS w g hdr v1 e1 gh v0 x b vh hr eh) (b' : BK) :
    PkS w g hdr v1 e1 gh v0 (x.setRow w.heap.size (bc b' nilS)) b' vh hr eh := by
  have h1 := h.gb
  have h2 := h.gg
  refine ⟨setRow_heap _ _ _ _ _ _ h.bk, ?_, ?_, h.rd.other (grown_setRow _ _ _) h.nb, h.part, grown_new _ h.gr (Nat.le_refl _), h1, h2, h.nb, h.le⟩
  · unfold RV; rw [setRow_else _ _ _ _ (by omega)]; exact h.rv
  · unfold RV; rw [setRow_else _ _ _ _ (by omega)]; exact h.hv
theorem PkS.on {w : World} {g : Nat} {hdr : List UInt8} {v1 : Value} {e1 : Int} {gh : Nat} {v0 : Value} {x : World} {b : BK} {vh : Value} {hr : List UInt8} {eh : Int} (h : PkS w g hdr v1 e1 gh v0 x b vh hr eh) {y : World} (hb : Below x.heap.size x y) :
    PkS w g hdr v1 e1 gh v0 y b vh hr eh :=
  ⟨by rw [hb.block _ (Array.getElem?_eq_some_iff.1 h.bk).1]; exact h.bk, h.rv.on hb, h.hv.on hb, h.rd.on hb, h.part, grown_then h.gr hb, h.gb, h.gg, h.nb, h.le⟩
theorem rc_none (v : Value) (e : Int) : rc v e none = #[v, .int .i64 e] := rfl
/-- bytes that a text was turned into -/
def SP.byt (B : Nat) (l : List UInt8) : SP := .pred (fun v w => RdE eB w v l ∧ ∃ a n c, v = .slice (some a) n c ∧ B ≤ a.block) (fun _ _ _ hb h => ⟨h.1.on hb, h.2⟩)
def SP.rdv (B : Nat) (l : List UInt8) (e : Int) : SP := .pred (fun x w => ∃ a n c, x = .agg #[.slice (some a) n c, .int .i64 e] ∧ RdE eB w (.slice (some a) n c) l ∧ B ≤ a.block) (fun _ _ _ hb ⟨a, n, c, h1, h2, h3⟩ => ⟨a, n, c, h1, h2.on hb, h3⟩)
def SP.rbx (B : Nat) (l : List UInt8) (e : Int) : SP := .pred (fun x w => ∃ gh a n c, x = .pointer (some ⟨gh, 0, none⟩) ∧ B ≤ gh ∧ RV w gh 66 none (.slice (some a) n c) e ∧ RdE eB w (.slice (some a) n c) l ∧ B ≤ a.block)
  (fun _ _ _ hb ⟨gh, a, n, c, h1, h2, h3, h4, h5⟩ => ⟨gh, a, n, c, h1, h2, h3.on hb, h4.on hb, h5⟩)
attribute [local irreducible] Calls rc drow decD validB
set_option maxRecDepth 100000 in
set_option maxHeartbeats 4000000 in
theorem peek_c (g : Nat) (h0 rest : List UInt8) (v : Value) (w : World) (h1 : RV w g 68 (some h0) v 0) (h2 : RdE eB w v rest) (hl : rest.length ≤ 900000) :
    Calls Tryz.prog 47 #[.pointer (some ⟨g, 0, none⟩)] w fun en w' => ∃ v', en = .returned (.agg (bc (hdB (rdV [] decS rest 0) (rdX decS rest 0)) nilS)) ∧ RV w' g 68 (some (rdV [] decS rest 0)) v' (hdX (rdV [] decS rest 0) (rdX decS rest 0)) ∧
      Part v rest v' (rdR decS rest 0) ∧ w.grownBy w' (some g) := by
  have hz := zero_bk
  have H1 := Lib.hid h1
  have H2 := Lib.hid h2
  have HGG := Lib.hid h1.lt
  obtain ⟨W0, hW0⟩ : ∃ W0, W0 = w.alloc (.cells (bc zB (.slice none 0 0)) 26) := ⟨_, rfl⟩
  have HW := Lib.hid hW0
  have HB0 : Hid (Below w.heap.size w W0) := Lib.hid (by rw [hW0]; exact (Below.refl _ _).alloc (Nat.le_refl _) _)
  have HK0 : Hid (W0.heap[w.heap.size]? = some (.cells (bc zB nilS) 26 (0, 0))) := Lib.hid (by rw [hW0]; exact heap_last _ _ _ rfl)
  have HRD := Lib.hid (readS_c g 68 (some h0) v rest 0 W0 (h1.on HB0.out) (h2.on HB0.out) hl)
  have HHL : Hid ((rdV [] decS rest 0).length ≤ 900000) := Lib.hid (Nat.le_trans (rdVS_len rest 0) hl)
  generalize rdV [] decS rest 0 = hdr at HRD HHL ⊢
  generalize rdX decS rest 0 = e1 at HRD ⊢
  generalize rdR decS rest 0 = rr at HRD ⊢
  clear h1 h2 hl hW0
  go_enter Tryz.func47, Tryz.ntmps47
  go_upto_region 1 with fail
  rw [← HW.out]
  go_upto_region 2 with (go_at_call 80; refine HRD.out.mono ?_; rintro e2 w1 ⟨_, v1, rfl, rfl, hr1, hp1, hg1⟩; have HR1 := Lib.hid hr1; have HP1 := Lib.hid hp1; have HG1 := Lib.hid hg1; have c2 : w1.cell? ⟨g, 2, none⟩ = some (.string ⟨h0.toArray⟩) := (by rw [cell_of_row _ _ _ _ _ _ hr1]; exact rc_2 v1 e1 h0); have f2 := frozen_of_row _ _ 2 _ _ hr1; clear hr1 hp1 hg1)
  have HW2 : Hid (w1.setCell ⟨g, 2, none⟩ (.string ⟨hdr.toArray⟩) = w1.setRow g (rc v1 e1 (some hdr))) := Lib.hid (by rw [setCell_rowC _ _ _ _ _ _ _ HR1.out, rc_set2])
  rw [HW2.out]
  have HR2 : Hid (RV (w1.setRow g (rc v1 e1 (some hdr))) g 68 (some hdr) v1 e1) := Lib.hid (setRow_heap _ _ _ _ _ _ HR1.out)
  have hszW : w.heap.size < W0.heap.size := (Array.getElem?_eq_some_iff.1 HK0.out).1
  have HK2 : Hid ((w1.setRow g (rc v1 e1 (some hdr))).heap[w.heap.size]? = some (.cells (bc zB nilS) 26 (0, 0))) := Lib.hid (by
    rw [setRow_else _ _ _ _ (by have := HGG.out; omega), HG1.out.block _ hszW (fun e => by cases e; have := HGG.out; omega)]
    exact HK0.out)
  have HG2 : Hid (w.grownBy (w1.setRow g (rc v1 e1 (some hdr))) (some g)) := Lib.hid (grown_trans (grown_trans (grownB g HB0.out) HG1.out) (grown_setRow _ _ _))
  clear c2 f2 hszW
  generalize w1.setRow g (rc v1 e1 (some hdr)) = w2 at HR2 HK2 HG2 ⊢
  have hcv := conv_sb
  refine region_rel 12 [[], [0], [1], [2], [3], [], [5], [6], [7], [8], [4, 9], [10]]
    (SP.of [.eq (.pointer (some ⟨g, 0, none⟩)), .eq (.pointer (some ⟨g, 0, none⟩)), .eq (.pointer (some ⟨g, 2, none⟩)), .eq (.string ⟨hdr.toArray⟩), .byt w2.heap.size hdr, .eq (.pointer (some ⟨g, 0, none⟩)), .eq (.pointer (some ⟨g, 0, none⟩)), .eq (.pointer (some ⟨g, 0, none⟩)), .eq (.pointer (some ⟨g, 1, none⟩)), .eq (.int .i64 e1), .rdv w2.heap.size hdr e1, .rbx w2.heap.size hdr e1]) (fun _ => undef) ?q1 ?q2 ?q3 ?q4 ?q5 ?q6
  case q1 => kernel_rfl
  case q2 => kernel_rfl
  case q3 => kernel_rfl
  case q4 =>
    simp only [List.take_succ_cons, List.take_zero]
    repeat (first | exact trivial | refine ⟨fun vals v => by kernel_rfl, ?_⟩)
  case q5 =>
    simp only [List.take_succ_cons, List.take_zero]
    refine ⟨?_, ?_, ?_, ?_, ?_, ?_, ?_, ?_, ?_, ?_, ?_, ?_, trivial⟩
    all_goals (intro wq hbq vals; simp only [Nat.reduceAdd, Nat.zero_add, List.getD_cons_succ, List.getD_cons_zero]; have HBQ := Lib.hid hbq; have HRQ : Hid (RV wq g 68 (some hdr) v1 e1) := Lib.hid (HR2.out.on hbq); clear hbq)
    case refine_5 =>
      refine given_eq rfl (given_nil ?_)
      intro Q hQ
      simp only [putAll, upd, Act.put, List.setIfInBounds_toArray, List.set_cons_zero, List.set_cons_succ, Nat.reduceAdd, Nat.zero_add, Nat.reduceEqDiff, if_true, if_false, reduceIte]
      have hc1 := hcv wq hdr
      have HSB := Lib.hid (sb_below wq hdr)
      have HSR := Lib.hid (sb_rd wq hdr (by have := HHL.out; unfold maxLen; omega))
      generalize Lib.bytesWorld wq 5 ⟨hdr.toArray⟩ = ws at hc1 HSB HSR
      clear hcv
      go_wp2
      exact relEnd_fin hQ _ (by kernel_rfl) HSB.out ⟨HSR.out, _, _, _, rfl, HBQ.out.size⟩
    case refine_11 =>
      refine given_pred rfl ?_
      rintro _ ⟨hrd, a, n, c, rfl, hba⟩
      refine given_eq rfl (given_nil ?_)
      intro Q hQ
      simp only [putAll, upd, Act.put, List.setIfInBounds_toArray, List.set_cons_zero, List.set_cons_succ, Nat.reduceAdd, Nat.zero_add, Nat.reduceEqDiff, if_true, if_false, reduceIte]
      have HRDX := Lib.hid hrd
      have HBA := Lib.hid hba
      clear hrd hba hcv
      go_wp2
      exact relEnd_fin hQ _ (by kernel_rfl) (Below.refl _ _) ⟨a, n, c, rfl, HRDX.out, HBA.out⟩
    case refine_12 =>
      refine given_pred rfl ?_
      rintro _ ⟨a, n, c, rfl, hrd, hba⟩
      refine given_nil ?_
      intro Q hQ
      simp only [putAll, upd, Act.put, List.setIfInBounds_toArray, List.set_cons_zero, List.set_cons_succ, Nat.reduceAdd, Nat.zero_add, Nat.reduceEqDiff, if_true, if_false, reduceIte]
      have HRDX := Lib.hid hrd
      have HBA := Lib.hid hba
      clear hrd hba hcv
      go_wp2
      exact relEnd_fin hQ _ (by kernel_rfl) ((Below.refl _ _).alloc (Nat.le_refl _) _) ⟨wq.heap.size, a, n, c, rfl, HBQ.out.size, by unfold RV; rw [rc_none]; exact heap_last _ _ _ rfl, HRDX.out.alloc _, HBA.out⟩
    all_goals (repeat (first | refine given_nil ?_ | refine given_eq rfl ?_))
    all_goals (intro Q hQ; simp only [putAll, upd, Act.put, List.setIfInBounds_toArray, List.set_cons_zero, List.set_cons_succ, Nat.reduceAdd, Nat.zero_add, Nat.reduceEqDiff, if_true, if_false, reduceIte]; clear hcv)
    case refine_4 =>
      have c2 : wq.cell? ⟨g, 2, none⟩ = some (.string ⟨hdr.toArray⟩) := by rw [cell_of_row _ _ _ _ _ _ HRQ.out]; exact rc_2 v1 e1 hdr
      go_wp2
      exact relEnd_fin hQ _ (by kernel_rfl) (Below.refl _ _) rfl
    case refine_10 =>
      have c1 : wq.cell? ⟨g, 1, none⟩ = some (.int .i64 e1) := by rw [cell_of_row _ _ _ _ _ _ HRQ.out]; exact rc_1 v1 e1 (some hdr)
      go_wp2
      exact relEnd_fin hQ _ (by kernel_rfl) (Below.refl _ _) rfl
    all_goals go_wp2
    all_goals exact relEnd_fin hQ _ (by kernel_rfl) (Below.refl _ _) rfl
  case q6 =>
    intro w3 hb3 vals
    rw [show List.range 12 = [0, 1, 2, 3, 4, 5, 6, 7, 8, 9, 10, 11] from by decide]
    refine given_eq rfl (given_eq rfl (given_eq rfl (given_eq rfl (given_pred rfl ?_))))
    intro x4 hx4
    refine given_eq rfl (given_eq rfl (given_eq rfl (given_eq rfl (given_eq rfl (given_pred rfl ?_)))))
    intro x10 hx10
    refine given_pred rfl ?_
    intro x11 hx11
    refine given_nil ?_
    obtain ⟨gh, a0, n0, c0, rfl, hgh, hrv, hrd, hba⟩ := hx11
    clear hx4 hx10
    simp only [List.take_succ_cons, List.take_zero, List.drop_succ_cons, List.drop_zero]
    simp only [putAll, upd, Act.put, List.setIfInBounds_toArray, List.set_cons_zero, List.set_cons_succ, Nat.reduceAdd, Nat.zero_add, Nat.reduceEqDiff, if_true, if_false, reduceIte]
    have HS3 : Hid (PkS w g hdr v1 e1 gh (.slice (some a0) n0 c0) w3 zB (.slice (some a0) n0 c0) hdr e1) := Lib.hid
      ⟨by rw [hb3.block _ (Array.getElem?_eq_some_iff.1 HK2.out).1]; exact HK2.out, HR2.out.on hb3, hrv, hrd, fun _ h => h, grown_then HG2.out hb3, by have := (Array.getElem?_eq_some_iff.1 HK2.out).1; omega, HGG.out, fun e => by have e2 : a0.block = w.heap.size := Option.some.inj e; have := (Array.getElem?_eq_some_iff.1 HK2.out).1; omega, Nat.le_refl _⟩
    clear hb3 hrv hrd hba hgh hcv
    have C4 := Lib.hid (readD_c gh 66 none _ hdr e1 w3 HS3.out.hv HS3.out.rdh)
    have HL1 := Lib.hid (rdR_len decD hdr e1)
    generalize hdom : rdV z16 decD hdr e1 = dom at C4
    generalize hr1 : rdR decD hdr e1 = r1 at C4 HL1
    generalize hx1 : rdX decD hdr e1 = x1 at C4
    have EDOM := Lib.hid hdom
    have ER1 := Lib.hid hr1
    have EX1 := Lib.hid hx1
    clear hdom hr1 hx1
    go_upto_region 4 with (first
      | (go_at_call 82; refine C4.out.mono ?_; rintro en w4 ⟨v4, rfl, hr4, hp4, hg4⟩; have HS4 := Lib.hid (HS3.out.step hg4 hr4 hp4 HL1.out); clear hr4 hp4 hg4)
      | (refine st_dom zB nilS dom w.heap.size HS4.out.bk rfl (.tmp 26) (.tmp 25) rfl rfl rfl ?_))
    have HS5 := Lib.hid (HS4.out.setB { zB with dom := dom })
    generalize w4.setRow w.heap.size (bc { zB with dom := dom } nilS) = w5 at HS5 ⊢
    generalize hb0 : { zB with dom := dom } = b0 at HS5
    have EB0 := Lib.hid hb0
    have C5 := Lib.hid (readI_c gh 66 none _ r1 x1 w5 HS5.out.hv HS5.out.rdh (by have := HS5.out.le; have := HHL.out; omega))
    have HL2 := Lib.hid (rdR_len decIs r1 x1)
    generalize hl : rdV [] decIs r1 x1 = l at C5
    generalize hr2 : rdR decIs r1 x1 = r2 at C5 HL2
    generalize hx2 : rdX decIs r1 x1 = x2 at C5
    have EL := Lib.hid hl
    have ER2 := Lib.hid hr2
    have EX2 := Lib.hid hx2
    have HN : Hid ((((l.length : Int) == 4) = decide (l.length = 4))) := Lib.hid (by by_cases h0 : l.length = 4 <;> simp [h0]; omega)
    clear hb0 hl hr2 hx2
    generalize he3 : (if x2 = 0 ∧ decide (l.length = 4) = false then 6 else x2) = e3
    have E3 := Lib.hid he3
    clear he3
    go_upto_if 33 with (first
      | (go_at_call 84; refine C5.out.mono ?_; rintro en w6 ⟨x6, v6, rfl, ho6, hr6, hp6, hg6⟩; have HO6 := Lib.hid ho6; have HS6 := Lib.hid (HS5.out.step hg6 hr6 hp6 HL2.out); obtain ⟨la, lc, rfl, _, _, _⟩ := ho6.rd; clear hr6 hp6 hg6 ho6)
      | (go_at_call 55; rw [HN.out]; refine (check_x gh _ none _ x2 (decide (l.length = 4)) 6 _ HS6.out.hv).mono ?_; rintro en w7 ⟨rfl, hw7⟩; have HG7 := Lib.hid (check_gr hw7); have HR7 := Lib.hid (check_rv HS6.out.hv hw7); rw [E3.out] at HR7; clear hw7; rw [E3.out]))
    have HS7 := Lib.hid (HS6.out.step HG7.out HR7.out (fun _ h => h) (Nat.le_refl _))
    have hgh5 : gh < w5.heap.size := HS5.out.hv.lt
    have HO7 := Lib.hid (HO6.out.grown HG7.out (fun g2 hg2 => by cases hg2; exact HO6.out.neOld hgh5))
    generalize hb1 : (if e3 = 0 then setN b0 l else b0) = b1
    have EB1 := Lib.hid hb1
    clear hb1 hgh5
    go_cut [33] from 34 to 49 (fun _ wc => Hid (PkS w g hdr v1 e1 gh (.slice (some a0) n0 c0) wc b1 v6 r2 e3))
    case first =>
      by_cases h30 : e3 = 0
      · have hd : decide (e3 = 0) = true := decide_eq_true h30
        have hl4 : l.length = 4 := by
          have h := E3.out
          rw [h30] at h
          split at h
          · cases h
          · rename_i hn
            exact Decidable.of_not_not (fun h4 => hn ⟨h, decide_eq_false h4⟩)
        obtain ⟨m0, m1, m2, m3, rfl⟩ : ∃ m0 m1 m2 m3, l = [m0, m1, m2, m3] := by
          match l, hl4 with
          | [m0, m1, m2, m3], _ => exact ⟨m0, m1, m2, m3, rfl⟩
        obtain ⟨bl, off, rfl, hbl, hrow⟩ := RdI_cells HO7.out.rd (by simp)
        have y0 := hrow 0 (by simp)
        have y1 := hrow 1 (by simp)
        have y2 := hrow 2 (by simp)
        have y3 := hrow 3 (by simp)
        rw [Nat.add_zero] at y0
        simp only [List.getElem_cons_zero, List.getElem_cons_succ] at y0 y1 y2 y3
        have hge : w5.heap.size ≤ bl := (HO7.out.lt bl rfl).1
        have hgb5 : w.heap.size < w5.heap.size := (Array.getElem?_eq_some_iff.1 HS5.out.bk).1
        have z1 : w.heap.size ≠ bl := by omega
        have z2 : bl ≠ w.heap.size := by omega
        have k16 : w7.cell? ⟨w.heap.size, 16, none⟩ = some (.int .i64 b0.ep) := by rw [cell_of_row _ _ _ _ _ _ HS7.out.bk]; exact bc_16 b0 nilS
        have k17 : w7.cell? ⟨w.heap.size, 17, none⟩ = some (.int .i64 b0.num) := by rw [cell_of_row _ _ _ _ _ _ HS7.out.bk]; exact bc_17 b0 nilS
        have k18 : w7.cell? ⟨w.heap.size, 18, none⟩ = some (.int .i64 b0.fw) := by rw [cell_of_row _ _ _ _ _ _ HS7.out.bk]; exact bc_18 b0 nilS
        have k19 : w7.cell? ⟨w.heap.size, 19, none⟩ = some (.int .i64 b0.tm) := by rw [cell_of_row _ _ _ _ _ _ HS7.out.bk]; exact bc_19 b0 nilS
        have f16 := frozen_of_row _ _ 16 _ _ HS7.out.bk
        have f17 := frozen_of_row _ _ 17 _ _ HS7.out.bk
        have f18 := frozen_of_row _ _ 18 _ _ HS7.out.bk
        have f19 := frozen_of_row _ _ 19 _ _ HS7.out.bk
        have HEB : Hid (setN b0 [m0, m1, m2, m3] = b1) := Lib.hid (by rw [← EB1.out, if_pos h30])
        have HW8 : Hid ((((w7.setCell ⟨w.heap.size, 16, none⟩ (.int .i64 m0)).setCell ⟨w.heap.size, 17, none⟩ (.int .i64 m1)).setCell ⟨w.heap.size, 18, none⟩ (.int .i64 m2)).setCell ⟨w.heap.size, 19, none⟩ (.int .i64 m3) = w7.setRow w.heap.size (bc (setN b0 [m0, m1, m2, m3]) nilS)) := Lib.hid (by
          have q1 := HS7.out.bk
          rw [setCell_rowC _ _ _ _ _ _ _ q1, bcset_16]
          rw [setCell_rowC _ _ _ _ _ _ _ (setRow_heap _ _ _ _ _ _ q1), bcset_17, setRow_setRow]
          rw [setCell_rowC _ _ _ _ _ _ _ (setRow_heap _ _ _ _ _ _ q1), bcset_18, setRow_setRow]
          rw [setCell_rowC _ _ _ _ _ _ _ (setRow_heap _ _ _ _ _ _ q1), bcset_19, setRow_setRow]
          rfl)
        clear hrow hge hgb5 hl4 hd
        go_wp2
        go_region
        all_goals go_wp2
        all_goals go_meet
        case rel =>
          have hs := HS7.out.setB (setN b0 [m0, m1, m2, m3])
          rw [← HW8.out] at hs
          rw [← HEB.out]
          exact Lib.hid (hs.on (below_drewN 1 (Below.refl _ _)))
      · have hd : decide (e3 = 0) = false := decide_eq_false h30
        have HEB : Hid (b0 = b1) := Lib.hid (by rw [← EB1.out, if_neg h30])
        clear hd
        go_wp2
        all_goals go_meet
        case rel => rw [← HEB.out]; exact HS7
    case rest =>
      have HST := Lib.hid hcut.out
      have C8 := Lib.hid (readD_c gh 66 none v6 r2 e3 wc HST.out.hv HST.out.rdh)
      have HL3 := Lib.hid (rdR_len decD r2 e3)
      generalize hpol : rdV z16 decD r2 e3 = pol at C8
      generalize hr3 : rdR decD r2 e3 = r3 at C8 HL3
      generalize hx4 : rdX decD r2 e3 = x4' at C8
      have EPOL := Lib.hid hpol
      have ER3 := Lib.hid hr3
      have EX4 := Lib.hid hx4
      clear hpol hr3 hx4 hcut
      go_upto_region 8 with (first
        | (go_at_call 82; refine C8.out.mono ?_; rintro en w8 ⟨v8, rfl, hr8, hp8, hg8⟩; have HS8 := Lib.hid (HST.out.step hg8 hr8 hp8 HL3.out); clear hr8 hp8 hg8)
        | (refine st_pol b1 nilS pol w.heap.size HS8.out.bk rfl (.tmp 52) (.tmp 51) rfl rfl rfl ?_))
      have HS9 := Lib.hid (HS8.out.setB { b1 with pol := pol })
      generalize w8.setRow w.heap.size (bc { b1 with pol := pol } nilS) = w9 at HS9 ⊢
      generalize hb2 : { b1 with pol := pol } = b2 at HS9
      have EB2 := Lib.hid hb2
      have C9 := Lib.hid (wholeS_c gh 66 none _ r3 x4' w9 HS9.out.hv HS9.out.rdh (by have := HS9.out.le; have := HHL.out; omega))
      have HL4 := Lib.hid (rdR_len decS r3 x4')
      have HML := Lib.hid (Nat.le_trans (rdVS_len r3 x4') HS9.out.le)
      generalize hmo : rdV [] decS r3 x4' = mo at C9 HML
      generalize rdR decS r3 x4' = r4 at C9 HL4
      generalize hx5 : whX decS r3 x4' = x5 at C9
      have EMO := Lib.hid hmo
      have EX5 := Lib.hid hx5
      clear hb2 hmo hx5
      go_upto_region 9 with (go_at_call 86; refine C9.out.mono ?_; rintro en w10 ⟨_, v10, rfl, rfl, hr10, hp10, hg10⟩; have HS10 := Lib.hid (HS9.out.step hg10 hr10 hp10 HL4.out); have k36 : w10.cell? ⟨w.heap.size, 36, none⟩ = some (.string ⟨b2.mo.toArray⟩) := (by rw [cell_of_row _ _ _ _ _ _ HS10.out.bk]; exact bc_36 b2 nilS); have f36 := frozen_of_row _ _ 36 _ _ HS10.out.bk; clear hr10 hp10 hg10)
      have HW11 : Hid (w10.setCell ⟨w.heap.size, 36, none⟩ (.string ⟨mo.toArray⟩) = w10.setRow w.heap.size (bc { b2 with mo := mo } nilS)) := Lib.hid (by rw [setCell_rowC _ _ _ _ _ _ _ HS10.out.bk, bcset_36])
      rw [HW11.out]
      have HS11 := Lib.hid (HS10.out.setB { b2 with mo := mo })
      clear k36 f36
      generalize w10.setRow w.heap.size (bc { b2 with mo := mo } nilS) = w11 at HS11 ⊢
      have HMO3 : Hid (({ b2 with mo := mo } : BK).mo.length ≤ maxLen) := Lib.hid (by have := HML.out; have := HHL.out; show mo.length ≤ maxLen; unfold maxLen; omega)
      generalize hb3 : { b2 with mo := mo } = b3 at HS11 HMO3
      have EB3 := Lib.hid hb3
      have C11 := Lib.hid (validB_c b3 nilS [] w11 ⟨none, 0, rfl, Nat.le_refl _, by unfold maxLen; omega, fun h => absurd h (by simp)⟩ (fun i hi => absurd hi (by simp)) HMO3.out)
      clear hb3
      generalize hva : validB b3 [] = va at C11
      have EVA := Lib.hid hva
      clear hva
      generalize he6 : (if x5 = 0 ∧ va = false then 6 else x5) = x6
      have E6 := Lib.hid he6
      clear he6
      go_upto_region 10 with (first
        | (refine ld_bk b3 nilS rfl (.tmp 2) rfl w.heap.size rfl _ HS11.out.bk ?_)
        | (go_at_call 13; refine C11.out.mono ?_; rintro en w12 ⟨rfl, hb12⟩; have HS12 := Lib.hid (HS11.out.on hb12); clear hb12)
        | (go_at_call 55; refine (check_x gh _ none _ x5 va 6 _ HS12.out.hv).mono ?_; rintro en w13 ⟨rfl, hw13⟩; have HG13 := Lib.hid (check_gr hw13); have HR13 := Lib.hid (check_rv HS12.out.hv hw13); rw [E6.out] at HR13; clear hw13; rw [E6.out]))
      have HS13 := Lib.hid (HS12.out.step HG13.out HR13.out (fun _ h => h) (Nat.le_refl _))
      have m1 : w13.cell? ⟨gh, 1, none⟩ = some (.int .i64 x6) := by rw [cell_of_row _ _ _ _ _ _ HS13.out.hv]; exact rc_1 _ x6 none
      have m2 : w13.cell? ⟨g, 1, none⟩ = some (.int .i64 e1) := by rw [cell_of_row _ _ _ _ _ _ HS13.out.rv]; exact rc_1 _ e1 (some hdr)
      have m3 := frozen_of_row _ _ 1 _ _ HS13.out.rv
      have HW14 : Hid (w13.setCell ⟨g, 1, none⟩ (.int .i64 x6) = w13.setRow g (rc v1 x6 (some hdr))) := Lib.hid (by rw [setCell_rowC _ _ _ _ _ _ _ HS13.out.rv, rc_set1])
      go_upto_region 11 with fail
      rw [HW14.out]
      have HR14 : Hid (RV (w13.setRow g (rc v1 x6 (some hdr))) g 68 (some hdr) v1 x6) := Lib.hid (setRow_heap _ _ _ _ _ _ HS13.out.rv)
      have HK14 : Hid ((w13.setRow g (rc v1 x6 (some hdr))).heap[w.heap.size]? = some (.cells (bc b3 nilS) 26 (0, 0))) := Lib.hid (by rw [setRow_else _ _ _ _ (by have := HGG.out; omega)]; exact HS13.out.bk)
      have HG14 : Hid (w.grownBy (w13.setRow g (rc v1 x6 (some hdr))) (some g)) := Lib.hid (grown_trans HS13.out.gr (grown_setRow _ _ _))
      clear m1 m2 m3
      generalize w13.setRow g (rc v1 x6 (some hdr)) = w14 at HR14 HK14 HG14 ⊢
      go_wp2_with (first
        | (refine ld_bk b3 nilS rfl (.tmp 2) rfl w.heap.size rfl _ HK14.out ?_)
        | (refine wpList_store_row rfl 26 (.tmp 2) (.tmp 68) rfl w.heap.size (bc b3 nilS) rfl rfl _ _ HK14.out (by rw [bc_size]; exact info_b) rfl (bcone _ _ _ _) ?_))
      refine bodyPost_ret (results_row1 rfl _ _ w.heap.size _ rfl (run_bkrow _ _ b3 nilS _ (setRow_heap _ _ _ _ _ _ HK14.out))) rfl ?_
      have HDE : hdE hdr e1 = e3 := by
        unfold hdE
        simp only [ER1.out, EX1.out, EX2.out, EL.out]
        exact E3.out
      have HDB : hdB hdr e1 = b3 := by
        unfold hdB
        simp only [EDOM.out, ER1.out, EX1.out, EL.out, ER2.out, HDE, EPOL.out, ER3.out, EX4.out, EMO.out]
        rw [← EB3.out, ← EB2.out, ← EB1.out, ← EB0.out]
      have HDX : hdX hdr e1 = x6 := by
        unfold hdX
        simp only [HDB, ER1.out, EX1.out, ER2.out, HDE, ER3.out, EX4.out, EX5.out, EVA.out]
        exact E6.out
      refine ⟨v1, by rw [HDB], ?_, HP1.out, grown_new _ HG14.out (Nat.le_refl _)⟩
      rw [HDX]
      unfold RV
      rw [setRow_else _ _ _ _ (by have := HGG.out; omega)]
      exact HR14.out
end Go.Proofs.YtbpjdfnnlmblaaaGreatDoor
