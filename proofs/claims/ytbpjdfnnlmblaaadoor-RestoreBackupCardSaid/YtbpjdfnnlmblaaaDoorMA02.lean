/- Parts of a proof, joined: contracts of functions of the program and plain lemmas (KeyM, KeyN, KeyO, KeyP, KeyQ, KeyR, KeyS, KeyT, KeyU, KeyV, KeyW, PlanA, KeyX, KeyY). No condition. -/
import Derived.Test.YtbpjdfnnlmblaaaDoorMA01
import Derived.Deep.MidRow
import Derived.ChangeKeysEq
import Derived.Laws.Tables
import Derived.ArgAppend
import Derived.Deep.Upon
import Derived.Lib.SliceRun
import Derived.Deep.RegionLaw
import Derived.Deep.AppendLies
import Derived.Deep.RegionLawGrows
import Derived.Deep.Onto
/- Digests and places: loads and equality. -/
namespace Go.Proofs.YtbpjdfnnlmblaaaDoor
open Go.RowKit Go.Shelf
set_option linter.unusedSimpArgs false
set_option linter.unusedVariables false
/-- where a backup is restored -/
structure PK where
  dom : List UInt8
  pol : List UInt8
  fw : Int
  num : Int
def drow (d : List UInt8) : Array Value := #[dcell d 0, dcell d 1, dcell d 2, dcell d 3, dcell d 4, dcell d 5, dcell d 6, dcell d 7, dcell d 8, dcell d 9, dcell d 10, dcell d 11, dcell d 12, dcell d 13, dcell d 14, dcell d 15]
def pc (p : PK) : Array Value := #[dcell p.dom 0, dcell p.dom 1, dcell p.dom 2, dcell p.dom 3, dcell p.dom 4, dcell p.dom 5, dcell p.dom 6, dcell p.dom 7, dcell p.dom 8, dcell p.dom 9, dcell p.dom 10, dcell p.dom 11, dcell p.dom 12, dcell p.dom 13, dcell p.dom 14, dcell p.dom 15, dcell p.pol 0, dcell p.pol 1, dcell p.pol 2, dcell p.pol 3, dcell p.pol 4, dcell p.pol 5, dcell p.pol 6, dcell p.pol 7, dcell p.pol 8, dcell p.pol 9, dcell p.pol 10, dcell p.pol 11, dcell p.pol 12, dcell p.pol 13, dcell p.pol 14, dcell p.pol 15, .int .i64 p.fw, .int .i64 p.num]
theorem pc_0 (p : PK) : (pc p)[0]? = some (dcell p.dom 0) := rfl
theorem pc_1 (p : PK) : (pc p)[1]? = some (dcell p.dom 1) := rfl
theorem pc_2 (p : PK) : (pc p)[2]? = some (dcell p.dom 2) := rfl
theorem pc_3 (p : PK) : (pc p)[3]? = some (dcell p.dom 3) := rfl
theorem pc_4 (p : PK) : (pc p)[4]? = some (dcell p.dom 4) := rfl
theorem pc_5 (p : PK) : (pc p)[5]? = some (dcell p.dom 5) := rfl
theorem pc_6 (p : PK) : (pc p)[6]? = some (dcell p.dom 6) := rfl
theorem pc_7 (p : PK) : (pc p)[7]? = some (dcell p.dom 7) := rfl
theorem pc_8 (p : PK) : (pc p)[8]? = some (dcell p.dom 8) := rfl
theorem pc_9 (p : PK) : (pc p)[9]? = some (dcell p.dom 9) := rfl
theorem pc_10 (p : PK) : (pc p)[10]? = some (dcell p.dom 10) := rfl
theorem pc_11 (p : PK) : (pc p)[11]? = some (dcell p.dom 11) := rfl
theorem pc_12 (p : PK) : (pc p)[12]? = some (dcell p.dom 12) := rfl
theorem pc_13 (p : PK) : (pc p)[13]? = some (dcell p.dom 13) := rfl
theorem pc_14 (p : PK) : (pc p)[14]? = some (dcell p.dom 14) := rfl
theorem pc_15 (p : PK) : (pc p)[15]? = some (dcell p.dom 15) := rfl
theorem pc_16 (p : PK) : (pc p)[16]? = some (dcell p.pol 0) := rfl
theorem pc_17 (p : PK) : (pc p)[17]? = some (dcell p.pol 1) := rfl
theorem pc_18 (p : PK) : (pc p)[18]? = some (dcell p.pol 2) := rfl
theorem pc_19 (p : PK) : (pc p)[19]? = some (dcell p.pol 3) := rfl
theorem pc_20 (p : PK) : (pc p)[20]? = some (dcell p.pol 4) := rfl
theorem pc_21 (p : PK) : (pc p)[21]? = some (dcell p.pol 5) := rfl
theorem pc_22 (p : PK) : (pc p)[22]? = some (dcell p.pol 6) := rfl
theorem pc_23 (p : PK) : (pc p)[23]? = some (dcell p.pol 7) := rfl
theorem pc_24 (p : PK) : (pc p)[24]? = some (dcell p.pol 8) := rfl
theorem pc_25 (p : PK) : (pc p)[25]? = some (dcell p.pol 9) := rfl
theorem pc_26 (p : PK) : (pc p)[26]? = some (dcell p.pol 10) := rfl
theorem pc_27 (p : PK) : (pc p)[27]? = some (dcell p.pol 11) := rfl
theorem pc_28 (p : PK) : (pc p)[28]? = some (dcell p.pol 12) := rfl
theorem pc_29 (p : PK) : (pc p)[29]? = some (dcell p.pol 13) := rfl
theorem pc_30 (p : PK) : (pc p)[30]? = some (dcell p.pol 14) := rfl
theorem pc_31 (p : PK) : (pc p)[31]? = some (dcell p.pol 15) := rfl
theorem pc_32 (p : PK) : (pc p)[32]? = some (.int .i64 p.fw) := rfl
theorem pc_33 (p : PK) : (pc p)[33]? = some (.int .i64 p.num) := rfl
/-- equal digests -/
def dEq (x y : List UInt8) : Bool := (List.range 16).all fun i => byteAt x i == byteAt y i
theorem part_d (d : List UInt8) (i : Nat) (hi : i < 16) (w : World) : (part 5 (drow d) (i * 1)).run Tryd.prog w = .ok (dcell d i) w := by
  have e : drow d = ((List.range 16).map (dcell d)).toArray := rfl
  have h : (drow d)[i]? = some (dcell d i) := by rw [e]; simp [hi]
  rw [Nat.mul_one]
  simp [part, go_sem, h]
theorem eq_d (d : Nat) (x y : List UInt8) (w : World) : ∀ (is : List Nat), (∀ i ∈ is, i < 16) → (Op.eqItems (d + 1) 5 1 (drow x) (drow y) is).run Tryd.prog w = .ok (is.all fun i => byteAt x i == byteAt y i) w := by
  intro is
  induction is with
  | nil => intro _; rfl
  | cons i is ih =>
    intro h
    have h1 := part_d x i (h i (by simp)) w
    have h2 := part_d y i (h i (by simp)) w
    have h3 : (Op.equalIn (d + 1) 5 (dcell x i) (dcell y i)).run Tryd.prog w = .ok (B8 (byteAt x i) == B8 (byteAt y i)) w := run_equalIn_int w d _ _ _ _ _ Tryd.underlying5
    have h4 : (B8 (byteAt x i) == B8 (byteAt y i)) = (byteAt x i == byteAt y i) := by
      by_cases e : byteAt x i = byteAt y i
      · rw [e]; simp
      · rw [beq_eq_false_iff_ne.2 e, beq_eq_false_iff_ne]
        exact fun e2 => e (u8_inj e2)
    simp only [Op.eqItems, Sem.run_bind, h1, h2, h3, Result.andThen_ok, h4, List.all_cons]
    cases byteAt x i == byteAt y i with
    | true => simpa using ih (fun j hj => h j (by simp [hj]))
    | false => rfl
theorem equalIn_d (d : Nat) (x y : List UInt8) (w : World) : (Op.equalIn (d + 2) 23 (.agg (drow x)) (.agg (drow y))).run Tryd.prog w = .ok (dEq x y) w := by
  obtain ⟨i0, hi⟩ : ∃ i, Tryd.prog.info? 5 = some i := Option.isSome_iff_exists.1 (by kernel_rfl)
  rw [show d + 2 = (d + 1) + 1 from rfl, run_equalIn_array w (d + 1) (drow x) (drow y) Tryd.underlying23 hi]
  have hc : Tryd.prog.cellsOf 5 = 1 := by kernel_rfl
  rw [hc]
  exact eq_d d x y w (List.range 16) (fun i hi => List.mem_range.1 hi)
theorem neq_d (x y : List UInt8) (w : World) : (binOp .neq 23 (.agg (drow x)) (.agg (drow y))).run Tryd.prog w = .ok (.bool (!dEq x y)) w := by
  rw [run_neq_struct]
  rw [show (10000 : Nat) = 9998 + 2 from rfl, equalIn_d 9998 x y]
  rfl
end Go.Proofs.YtbpjdfnnlmblaaaDoor
/- Admit, both. -/
namespace Go.Proofs.YtbpjdfnnlmblaaaDoor
open Go.RowKit Go.Shelf
set_option linter.unusedSimpArgs false
set_option linter.unusedVariables false
theorem info_b : (Tryd.prog.info? 26).map (·.size) = some 38 := by kernel_rfl
theorem info_d : (Tryd.prog.info? 23).map (·.size) = some 16 := by kernel_rfl
theorem info_p : (Tryd.prog.info? 82).map (·.size) = some 34 := by kernel_rfl
/-- a whole backup out of memory -/
theorem ld_bk {ops : Array Oper} {rest : List Oper} {o : Oper} {a : Act} {w : World} {Q : Exit → Act → World → Prop} (b : BK) (u : Value)
    (hgd : Region.wanted o (yielded ops a.tmps) = true) (x : Operand) (ho : o.op = .load 26 x)
    (g : Nat) (hx : a.eval x = .pointer (some ⟨g, 0, none⟩)) (T' : TypeId) (hg : w.heap[g]? = some (.cells (bc b u) T' (0, 0)))
    (h : wpList Tryd.prog ops Q rest (a.put o.dst (.agg (bc b u))) w) : wpList Tryd.prog ops Q (o :: rest) a w :=
  wpList_step fun K hK => by
    rw [if_pos hgd]
    exact wp_load_row _ x ho g hx _ (bc b u) (0, 0) _ hg Tryd.underlying26 rfl (by rw [bc_size]; exact info_b) (hK _ _ h)
/-- a digest out of memory -/
theorem ld_dig {ops : Array Oper} {rest : List Oper} {o : Oper} {a : Act} {w : World} {Q : Exit → Act → World → Prop} (d : List UInt8) (g off : Nat) (hc : w.rangeAt g off (drow d).toList)
    (hgd : Region.wanted o (yielded ops a.tmps) = true) (x : Operand) (ho : o.op = .load 23 x) (hx : a.eval x = .pointer (some ⟨g, off, none⟩))
    (h : wpList Tryd.prog ops Q rest (a.put o.dst (.agg (drow d))) w) : wpList Tryd.prog ops Q (o :: rest) a w :=
  wpList_step fun K hK => by
    rw [if_pos hgd]
    exact wp_load_mid _ x ho g off hx (drow d).toList _ hc Tryd.underlying23 rfl info_d (hK _ _ h)
theorem range_row {w : World} {g : Nat} {cs : Array Value} {T : TypeId} (h : w.heap[g]? = some (.cells cs T (0, 0))) (off : Nat) (l : List Value) (hl : (cs.toList.drop off).take l.length = l) : w.rangeAt g off l := by
  intro j v hj
  rw [cell_of_row _ _ _ _ _ _ h]
  have hlt : j < l.length := (List.getElem?_eq_some_iff.1 hj).1
  have e : ((cs.toList.drop off).take l.length)[j]? = l[j]? := by rw [hl]
  rw [List.getElem?_take, if_pos hlt, List.getElem?_drop, hj] at e
  rw [← Array.getElem?_toList]
  exact e
def admitK (p : PK) (b : BK) (l : List K) : Int :=
  if validB b l = true then (if dEq b.dom p.dom = true ∧ dEq b.pol p.pol = true then (if b.fw ≤ p.fw ∧ p.num ≤ b.num then 0 else 20) else 10) else 1
theorem admit_six (p : PK) (b : BK) (l : List K) : (validB b l = false ∧ admitK p b l = 1) ∨ (validB b l = true ∧ dEq b.dom p.dom = false ∧ admitK p b l = 10) ∨ (validB b l = true ∧ dEq b.dom p.dom = true ∧ dEq b.pol p.pol = false ∧ admitK p b l = 10) ∨
    (validB b l = true ∧ dEq b.dom p.dom = true ∧ dEq b.pol p.pol = true ∧ p.fw < b.fw ∧ admitK p b l = 20) ∨ (validB b l = true ∧ dEq b.dom p.dom = true ∧ dEq b.pol p.pol = true ∧ ¬ p.fw < b.fw ∧ b.num < p.num ∧ admitK p b l = 20) ∨
    (validB b l = true ∧ dEq b.dom p.dom = true ∧ dEq b.pol p.pol = true ∧ ¬ p.fw < b.fw ∧ ¬ b.num < p.num ∧ admitK p b l = 0) := by
  unfold admitK
  cases h1 : validB b l
  · simp
  cases h2 : dEq b.dom p.dom
  · simp
  cases h3 : dEq b.pol p.pol
  · simp
  by_cases h4 : p.fw < b.fw
  · have : ¬ b.fw ≤ p.fw := by omega
    simp [h4, this]
  by_cases h5 : b.num < p.num
  · have : ¬ p.num ≤ b.num := by omega
    simp [h4, h5, this]
  have a4 : b.fw ≤ p.fw := by omega
  have a5 : p.num ≤ b.num := by omega
  simp [h4, h5, a4, a5]
attribute [local semireducible] bc
theorem bc_dom (b : BK) (u : Value) : ((bc b u).toList.drop 0).take (drow b.dom).toList.length = (drow b.dom).toList := rfl
theorem bc_pol (b : BK) (u : Value) : ((bc b u).toList.drop 20).take (drow b.pol).toList.length = (drow b.pol).toList := rfl
theorem pc_dom (p : PK) : ((pc p).toList.drop 0).take (drow p.dom).toList.length = (drow p.dom).toList := rfl
theorem pc_pol (p : PK) : ((pc p).toList.drop 16).take (drow p.pol).toList.length = (drow p.pol).toList := rfl
attribute [local irreducible] bc pc drow Calls validB admitK dEq
end Go.Proofs.YtbpjdfnnlmblaaaDoor
/- The program's Admit. -/
namespace Go.Proofs.YtbpjdfnnlmblaaaDoor
open Go.RowKit Go.Shelf
set_option linter.unusedSimpArgs false
set_option linter.unusedVariables false
theorem part_dg (cs : Array Value) (off : Nat) (w : World) : (part 23 cs off).run Tryd.prog w = .ok (.agg (cs.extract off (off + 16))) w := by
  have h1 : (isAgg 23).run Tryd.prog w = .ok true w := by simp [isAgg, run_underlying Tryd.underlying23]
  have h2 : (sizeOf 23).run Tryd.prog w = .ok 16 w := by
    cases hq : Tryd.prog.info? 23 with
    | none => have := info_d; rw [hq] at this; cases this
    | some i => have h1 := info_d; rw [hq] at h1; simp at h1; simp [sizeOf, typeInfo, hq, h1]
  simp [part, h1, h2]
theorem part_in (cs : Array Value) (off : Nat) (v : Value) (h : cs[off]? = some v) (w : World) : (part 3 cs off).run Tryd.prog w = .ok v w := by
  have h1 : (isAgg 3).run Tryd.prog w = .ok false w := by simp [isAgg, run_underlying Tryd.underlying3]
  simp [part, h1, h]
def pEq (p q : PK) : Bool := dEq p.dom q.dom && (dEq p.pol q.pol && ((p.fw == q.fw) && (p.num == q.num)))
theorem ex_dom (p : PK) : (pc p).extract 0 (0 + 16) = drow p.dom := rfl
theorem ex_pol (p : PK) : (pc p).extract 16 (16 + 16) = drow p.pol := rfl
theorem fields_p : (Tryd.prog.fieldsOf 82).toList.map (fun f => (f.name == "_", f.type, f.offset)) = [(false, 23, 0), (false, 23, 16), (false, 3, 32), (false, 3, 33)] := by kernel_rfl
theorem eqf_step (d : Nat) (xs ys : Array Value) (f : Field) (fs : List Field) (hn : f.name ≠ "_") (w : World) (a b : Value) (r : Bool) (h1 : (part f.type xs f.offset).run Tryd.prog w = .ok a w) (h2 : (part f.type ys f.offset).run Tryd.prog w = .ok b w)
    (h3 : (Op.equalIn d f.type a b).run Tryd.prog w = .ok r w) : (Op.eqFields d xs ys (f :: fs)).run Tryd.prog w = if r = true then (Op.eqFields d xs ys fs).run Tryd.prog w else .ok false w := by
  simp only [Op.eqFields, hn, ne_eq, not_false_eq_true, if_true, Sem.run_bind, h1, h2, h3, Result.andThen_ok]
  cases r <;> rfl
theorem neq_p (p q : PK) (w : World) : (binOp .neq 82 (.agg (pc p)) (.agg (pc q))).run Tryd.prog w = .ok (.bool (!pEq p q)) w := by
  rw [run_neq_struct]
  have ht : Tryd.prog.underlying 82 = some (.struct (Tryd.prog.fieldsOf 82)) := by kernel_rfl
  have hp : Tryd.prog.stoodInHeld 82 = false := by kernel_rfl
  rw [show (10000 : Nat) = 9999 + 1 from rfl, run_equalIn_struct w 9999 _ _ _ ht hp]
  have hf := fields_p
  generalize (Tryd.prog.fieldsOf 82).toList = fs at hf
  rcases fs with _ | ⟨f1, _ | ⟨f2, _ | ⟨f3, _ | ⟨f4, _ | ⟨f5, fs⟩⟩⟩⟩⟩
  · simp at hf
  · simp at hf
  · simp at hf
  · simp at hf
  · simp only [List.map_cons, List.map_nil, List.cons.injEq, Prod.mk.injEq, and_true] at hf
    obtain ⟨⟨a1, a2, a3⟩, ⟨b1, b2, b3⟩, ⟨c1, c2, c3⟩, ⟨d1, d2, d3⟩⟩ := hf
    have na : f1.name ≠ "_" := by simpa using a1
    have nb : f2.name ≠ "_" := by simpa using b1
    have nc : f3.name ≠ "_" := by simpa using c1
    have nd : f4.name ≠ "_" := by simpa using d1
    have e1 := equalIn_d 9997 p.dom q.dom w
    have e2 := equalIn_d 9997 p.pol q.pol w
    have e3 : (Op.equalIn 9999 3 (.int .i64 p.fw) (.int .i64 q.fw)).run Tryd.prog w = .ok (p.fw == q.fw) w := run_equalIn_int w 9998 _ _ _ _ _ Tryd.underlying3
    have e4 : (Op.equalIn 9999 3 (.int .i64 p.num) (.int .i64 q.num)).run Tryd.prog w = .ok (p.num == q.num) w := run_equalIn_int w 9998 _ _ _ _ _ Tryd.underlying3
    rw [eqf_step 9999 _ _ f1 _ na w (.agg (drow p.dom)) (.agg (drow q.dom)) (dEq p.dom q.dom) (by rw [a2, a3, part_dg, ex_dom]) (by rw [a2, a3, part_dg, ex_dom]) (by rw [a2]; exact e1),
      eqf_step 9999 _ _ f2 _ nb w (.agg (drow p.pol)) (.agg (drow q.pol)) (dEq p.pol q.pol) (by rw [b2, b3, part_dg, ex_pol]) (by rw [b2, b3, part_dg, ex_pol]) (by rw [b2]; exact e2),
      eqf_step 9999 _ _ f3 _ nc w (.int .i64 p.fw) (.int .i64 q.fw) (p.fw == q.fw) (by rw [c2, c3]; exact part_in _ _ _ (pc_32 p) w) (by rw [c2, c3]; exact part_in _ _ _ (pc_32 q) w) (by rw [c2]; exact e3),
      eqf_step 9999 _ _ f4 _ nd w (.int .i64 p.num) (.int .i64 q.num) (p.num == q.num) (by rw [d2, d3]; exact part_in _ _ _ (pc_33 p) w) (by rw [d2, d3]; exact part_in _ _ _ (pc_33 q) w) (by rw [d2]; exact e4)]
    unfold pEq
    cases dEq p.dom q.dom <;> cases dEq p.pol q.pol <;> cases (p.fw == q.fw) <;> cases (p.num == q.num) <;> rfl
  · simp at hf
end Go.Proofs.YtbpjdfnnlmblaaaDoor
/- The program's Admit. -/
namespace Go.Proofs.YtbpjdfnnlmblaaaDoor
open Go.RowKit Go.Shelf
set_option linter.unusedSimpArgs false
set_option linter.unusedVariables false
theorem built_p (d q : List UInt8) (f n : Int) : Tryd.prog.built 82 [(0, .agg (drow d)), (1, .agg (drow q)), (2, .int .i64 f), (3, .int .i64 n)] = some (pc ⟨d, q, f, n⟩) := by kernel_rfl
theorem bld_p {ops : Array Oper} {rest : List Oper} {o : Oper} {a : Act} {w : World} {Q : Exit → Act → World → Prop} (hg : o.guard = none) (x y z v : Operand) (ho : o.op = .build 82 #[(0, x), (1, y), (2, z), (3, v)])
    (d q : List UInt8) (f n : Int) (hx : a.eval x = .agg (drow d)) (hy : a.eval y = .agg (drow q)) (hz : a.eval z = .int .i64 f) (hv : a.eval v = .int .i64 n)
    (h : wpList Tryd.prog ops Q rest (a.put o.dst (.agg (pc ⟨d, q, f, n⟩))) w) : wpList Tryd.prog ops Q (o :: rest) a w := by
  have e : (Tryd.prog.built 82 ((#[(0, x), (1, y), (2, z), (3, v)] : Array (Nat × Operand)).map fun (i, x) => (i, a.eval x)).toList) = some (pc ⟨d, q, f, n⟩) := by
    simp only [List.map_toArray, List.map_cons, List.map_nil, hx, hy, hz, hv]
    exact built_p d q f n
  refine wpList_build hg 82 _ ho (by rw [e]; rfl) ?_
  rw [e]
  exact h
theorem pc_size (p : PK) : (pc p).size = 34 := rfl
/-- a whole place out of memory -/
theorem ld_pk {ops : Array Oper} {rest : List Oper} {o : Oper} {a : Act} {w : World} {Q : Exit → Act → World → Prop} (p : PK)
    (hgd : Region.wanted o (yielded ops a.tmps) = true) (x : Operand) (ho : o.op = .load 82 x)
    (g : Nat) (hx : a.eval x = .pointer (some ⟨g, 0, none⟩)) (T' : TypeId) (hg : w.heap[g]? = some (.cells (pc p) T' (0, 0)))
    (h : wpList Tryd.prog ops Q rest (a.put o.dst (.agg (pc p))) w) : wpList Tryd.prog ops Q (o :: rest) a w :=
  wpList_step fun K hK => by
    rw [if_pos hgd]
    exact wp_load_row _ x ho g hx _ (pc p) (0, 0) _ hg Tryd.underlying82 rfl (by rw [pc_size]; exact info_p) (hK _ _ h)
theorem dEq_comm (x y : List UInt8) : dEq x y = dEq y x := by
  unfold dEq
  congr 1
  funext i
  exact Bool.beq_comm
theorem pEq_at (p : PK) (b : BK) : pEq p ⟨b.dom, b.pol, p.fw, p.num⟩ = (dEq b.dom p.dom && dEq b.pol p.pol) := by
  unfold pEq
  rw [dEq_comm p.dom, dEq_comm p.pol]
  simp
attribute [local irreducible] pc drow Calls validB admitK dEq pEq
set_option maxRecDepth 100000 in
set_option maxHeartbeats 4000000 in
theorem admit_c (p : PK) (b : BK) (u : Value) (l : List K) (w : World) (hv : RdK w u l) (hwf : ∀ i, i < l.length → (keyAt l i).wf) (hmo : b.mo.length ≤ maxLen) :
    Calls Tryd.prog 44 #[.agg (pc p), .agg (bc b u)] w fun e w' => e = .returned (.int .i64 (admitK p b l)) ∧ Below w.heap.size w w' := by
  obtain ⟨W0, hW0⟩ : ∃ W0, W0 = (w.alloc (.cells (pc p) 82)).alloc (.cells (bc b u) 26) := ⟨_, rfl⟩
  have hvw : RdK W0 u l := by rw [hW0]; exact (hv.alloc _).alloc _
  have hbh : ∀ w1, Below W0.heap.size W0 w1 → w1.heap[w.heap.size]? = some (.cells (pc p) 82 (0, 0)) ∧ w1.heap[w.heap.size + 1]? = some (.cells (bc b u) 26 (0, 0)) := by
    intro w1 h
    rw [hW0] at h
    have h1 := ((Below.refl (w.alloc (.cells (pc p) 82)).heap.size (w.alloc (.cells (pc p) 82))).alloc (Nat.le_refl _) (.cells (bc b u) 26)).trans (h.mono (by simp))
    have h2 := heap_alloc_new (w.alloc (.cells (pc p) 82)) (.cells (bc b u) 26)
    rw [World.size_alloc] at h2
    exact ⟨by rw [h1.block _ (by simp)]; exact heap_alloc_new _ _, by rw [h.block _ (by simp)]; exact h2⟩
  have hbe : ∀ w1, Below W0.heap.size W0 w1 → Below w.heap.size w w1 := by
    intro w1 h
    rw [hW0] at h
    exact below2 _ _ _ h
  have hB0 : W0.heap[w.heap.size + 1]? = some (.cells (bc b u) 26 (0, 0)) := (hbh W0 (Below.refl _ _)).2
  rw [hW0] at hB0
  have hval := validB_c b u l W0 hvw hwf hmo
  rw [hW0] at hval
  have HVAL := Lib.hid hval
  have HB0 := Lib.hid hB0
  have HBH := Lib.hid hbh
  have HBE := Lib.hid hbe
  have HW := Lib.hid hW0
  have hn1 := fun w => neq_p p ⟨b.dom, b.pol, p.fw, p.num⟩ w
  rw [pEq_at] at hn1
  clear hW0 hvw hbh hbe hB0 hval hwf
  rcases admit_six p b l with ⟨hv1, hr⟩ | ⟨hv1, hd1, hr⟩ | ⟨hv1, hd1, hd2, hr⟩ | ⟨hv1, hd1, hd2, hf, hr⟩ | ⟨hv1, hd1, hd2, hf, hg, hr⟩ | ⟨hv1, hd1, hd2, hf, hg, hr⟩
  all_goals
    rw [hr]
    rw [hv1] at HVAL
    try rw [hd1] at hn1
    try rw [hd2] at hn1
    clear hr hv1
    go_enter Tryd.func44, Tryd.ntmps44
    go_wp2_with (first
      | (refine ld_bk b u rfl (.tmp 3) rfl _ rfl _ HB0.out ?_)
      | (go_at_call 24; refine HVAL.out.mono ?_; rintro e w1 ⟨rfl, hb⟩; rw [← HW.out] at hb; obtain ⟨g1, g2⟩ := HBH.out _ hb; have p32 := (cell_of_row _ _ 32 _ _ _ g1).trans (pc_32 p); have p33 := (cell_of_row _ _ 33 _ _ _ g1).trans (pc_33 p); have b17 := (cell_of_row _ _ 17 _ _ _ g2).trans (bc_17 b u); have b18 := (cell_of_row _ _ 18 _ _ _ g2).trans (bc_18 b u); have G1 := Lib.hid g1; have G2 := Lib.hid g2; clear g1 g2)
      | (refine ld_pk p rfl (.tmp 2) rfl _ rfl _ G1.out ?_)
      | (refine ld_dig b.dom _ _ (range_row G2.out 0 _ (bc_dom b u)) rfl (.tmp 11) rfl rfl ?_)
      | (refine ld_dig b.pol _ _ (range_row G2.out 20 _ (bc_pol b u)) rfl (.tmp 13) rfl rfl ?_)
      | (refine bld_p rfl (.tmp 12) (.tmp 14) (.tmp 16) (.tmp 18) rfl b.dom b.pol p.fw p.num rfl rfl rfl rfl ?_))
    go_ret
    exact ⟨rfl, HBE.out _ hb⟩
end Go.Proofs.YtbpjdfnnlmblaaaDoor
/- Lists of keys, appended to. -/
namespace Go.Proofs.YtbpjdfnnlmblaaaDoor
open Go.RowKit Go.Shelf
set_option linter.unusedSimpArgs false
set_option linter.unusedVariables false
/-- the cells of keys, one after the other -/
def kflat : List K → List Value
  | [] => []
  | k :: l => (kc k).toList ++ kflat l
theorem kc_len (k : K) : (kc k).toList.length = 9 := rfl
theorem kflat_len (l : List K) : (kflat l).length = l.length * 9 := by
  induction l with
  | nil => rfl
  | cons k l ih => rw [kflat, List.length_append, kc_len, ih, List.length_cons]; omega
theorem kflat_append (l m : List K) : kflat (l ++ m) = kflat l ++ kflat m := by
  induction l with
  | nil => rfl
  | cons k l ih => rw [List.cons_append, kflat, kflat, ih, List.append_assoc]
theorem kflat_at (l : List K) (j i : Nat) (hj : j < l.length) (hi : i < 9) : (kflat l)[j * 9 + i]? = (kc (keyAt l j))[i]? := by
  induction l generalizing j with
  | nil => simp at hj
  | cons k l ih =>
    cases j with
    | zero =>
      rw [kflat, Nat.zero_mul, Nat.zero_add, List.getElem?_append_left (by rw [kc_len]; exact hi), Array.getElem?_toList]
      rfl
    | succ j =>
      have hj' : j < l.length := by simpa using hj
      rw [kflat, List.getElem?_append_right (by rw [kc_len]; omega), kc_len, show (j + 1) * 9 + i - 9 = j * 9 + i by omega, ih j hj']
      rw [keyAt_eq _ _ hj', keyAt_eq _ _ hj]
      rfl
theorem kflat_one (l : List K) : ∀ u ∈ kflat l, u.oneCell' = true := by
  induction l with
  | nil => intro u hu; simp [kflat] at hu
  | cons k l ih =>
    intro u hu
    rw [kflat, List.mem_append] at hu
    rcases hu with hu | hu
    · simp [kc] at hu
      rcases hu with rfl | rfl | rfl | rfl | rfl | rfl | rfl | rfl | rfl <;> rfl
    · exact ih u hu
theorem RdK.flat {w : World} {a : Option Addr} {n cap : Nat} {l : List K} (h : RdK w (.slice a n cap) l) : ∀ b, a = some b → ∀ j u, (kflat l)[j]? = some u → w.cell? (b.add j) = some u := by
  obtain ⟨a', c', e, _, _, h3⟩ := h
  cases e
  intro b hb j u hu
  have hj : j < l.length * 9 := by
    have := (List.getElem?_eq_some_iff.1 hu).1
    rwa [kflat_len] at this
  obtain ⟨b0, off, e, _, hc⟩ := h3 (by omega)
  rw [hb] at e
  cases e
  have hadd : (⟨b0, off, none⟩ : Addr).add j = ⟨b0, off + j, none⟩ := by unfold Addr.add; split <;> simp_all
  have e2 : j = (j / 9) * 9 + j % 9 := by omega
  rw [hadd]
  have := hc (j / 9) (by omega) (j % 9) (by omega)
  rw [show off + j / 9 * 9 + j % 9 = off + j by omega, ← kflat_at l (j / 9) (j % 9) (by omega) (by omega), ← e2, hu] at this
  exact this
theorem ownK_rd {w : World} {base : Nat} {v : Value} {l : List K} {n : Nat} (hn : n = l.length) (h : w.ownsRow base 48 9 v n (kflat l)) : RdK w v l := by
  subst hn
  rcases h.2 with ⟨rfl, h0⟩ | ⟨g, cap, cur, rfl, hb, hg, h1, h2, h3, h4⟩
  · have : l = [] := List.length_eq_zero_iff.1 h0
    subst this
    exact RdK.nil w
  · refine ⟨_, cap, rfl, h1, h2, fun h0 => ⟨g, 0, rfl, (Array.getElem?_eq_some_iff.1 hg).1, fun j hj i hi => ?_⟩⟩
    rw [Nat.zero_add, cell_of_row _ _ _ _ _ _ hg, ← kflat_at l j i hj hi, ← h4, List.getElem?_take, if_pos (by omega), Array.getElem?_toList]
theorem info_k : (Tryd.prog.info? 48).map (fun i => (i.zero.map (·.cells.size), i.size)) = some (some 9, 9) := by kernel_rfl
theorem clip_k (a : Option Addr) (n cap : Nat) (w : World) (h1 : n ≤ cap) (h2 : cap ≤ maxLen) : Calls Tryd.prog 80 #[.slice a n cap] w fun e w' => e = .returned (.slice a n n) ∧ w' = w := by
  unfold maxLen at h2
  have i1 : (n : Int) ≤ cap := by omega
  have i2 : (0 : Int) ≤ n := by omega
  go_enter Tryd.func80, Tryd.ntmps80
  go_wp2
  go_ret
  exact ⟨rfl, rfl⟩
end Go.Proofs.YtbpjdfnnlmblaaaDoor
/- append of keys; Clone. -/
namespace Go.Proofs.YtbpjdfnnlmblaaaDoor
open Go.RowKit Go.Shelf
set_option linter.unusedSimpArgs false
set_option linter.unusedVariables false
theorem info_k2 : (Tryd.prog.info? 48).map (fun i => (i.zero.map (·.cells.size), i.size, decide (0 < i.bytes ∧ i.bytes ≤ 200))) = some (some 9, 9, true) := by kernel_rfl
theorem info_k3 : ∃ i z, Tryd.prog.info? 48 = some i ∧ i.zero = some z ∧ i.size = 9 ∧ z.cells.size = 9 ∧ 0 < i.bytes ∧ i.bytes ≤ 200 := by
  have h := info_k2
  cases hi : Tryd.prog.info? 48 with
  | none => rw [hi] at h; cases h
  | some i =>
    rw [hi] at h
    simp only [Option.map_some, Option.some.injEq, Prod.mk.injEq, decide_eq_true_eq] at h
    cases hz : i.zero with
    | none => rw [hz] at h; cases h.1
    | some z =>
      rw [hz] at h
      exact ⟨i, z, rfl, hz, h.2.1, by simpa using h.1, h.2.2.1, h.2.2.2⟩
def OwnK (w : World) (base : Nat) (v : Value) (l : List K) : Prop := w.ownsRow base 48 9 v l.length (kflat l)
theorem OwnK.rd {w : World} {base : Nat} {v : Value} {l : List K} (h : OwnK w base v l) : RdK w v l := ownK_rd rfl h
theorem OwnK.nil (w : World) (base : Nat) : OwnK w base (.slice none 0 0) [] := World.ownsRow_nil w base _ 9
theorem OwnK.keep {w w' : World} {base B : Nat} {v : Value} {l : List K} (h : OwnK w base v l) (hb : Below B w w') (hB : w.heap.size ≤ B) : OwnK w' base v l := by
  refine ⟨h.1, ?_⟩
  rcases h.2 with hn | ⟨g, cap, cur, rfl, hg, hgg, r⟩
  · exact .inl hn
  · exact .inr ⟨g, cap, cur, rfl, hg, by rw [hb.block _ (Nat.lt_of_lt_of_le (Array.getElem?_eq_some_iff.1 hgg).1 hB)]; exact hgg, r⟩
/-- append of keys that can be read to keys of one's own -/
theorem app_k {w : World} {ops : Array Oper} {rest : List Oper} {o : Oper} {a : Act} {Q : Exit → Act → World → Prop} (hgd : o.guard = none) (s x : Operand)
    (ho : o.op = .call { callee := .builtin .append, args := #[s, x], argTypes := #[24, 24] })
    (base : Nat) (v : Value) (l : List K) (hs : a.eval s = v) (hown : OwnK w base v l) (xv : Value) (news : List K) (hx : a.eval x = xv) (hr : RdK w xv news)
    (hsz : l.length + news.length ≤ 1000000) (hbase : base ≤ w.heap.size)
    (h : ∀ v' w', OwnK w' base v' (l ++ news) → Below base w w' → wpList Tryd.prog ops Q rest (a.put o.dst v') w') : wpList Tryd.prog ops Q (o :: rest) a w := by
  obtain ⟨i0, z0, hi, hz, hs9, hz9, hb0, hb1⟩ := info_k3
  have hfl := hr
  obtain ⟨ad, cap, rfl, hcap, _, hc⟩ := hr
  have hflat := hfl.flat
  cases ad with
  | some p =>
    refine wpList_append_own w hgd s x 24 ho base 48 i0 z0 9 i0.bytes Tryd.underlying24 hi hz hs9 rfl hz9 (by decide) v l.length (kflat l) hs hown p news.length cap (kflat news) hx (kflat_len news) (hflat p rfl) (kflat_one news)
      (by unfold maxLen; omega) (Nat.le_trans (Nat.mul_le_mul hsz hb1) (by decide)) hbase ?_
    intro v' w' h1 h2 _
    refine h v' w' ?_ ((Below.refl base w).grown h2 hbase (fun k hk => (World.ownsRow.lt hown k hk).1))
    unfold OwnK
    rw [List.length_append, kflat_append]
    exact h1
  | none =>
    have hn : news = [] := by
      cases news with
      | nil => rfl
      | cons c l =>
        obtain ⟨b, off, e, _⟩ := hc (by simp)
        cases e
    subst hn
    have key : ∃ ad' n cap', v = .slice ad' n cap' ∧ n ≤ cap' := by
      rcases hown.2 with ⟨rfl, _⟩ | ⟨g, cap', cur, rfl, _, _, h1, _⟩
      · exact ⟨none, 0, 0, rfl, Nat.le_refl _⟩
      · exact ⟨_, _, _, rfl, h1⟩
    obtain ⟨ad', n, cap', rfl, hle⟩ := key
    have hrun := run_append_nothing (P := Tryd.prog) w 24 24 o.type 48 i0 Tryd.underlying24 hi ad' n cap' hle (.slice none 0 cap) (Src.ofNil w Tryd.underlying24 cap)
    refine wpList_plain hgd fun K hK => ?_
    unfold Oper.wp execOp
    have hx' : a.eval x = .slice none 0 cap := hx
    simp only [ho, resolve, invoke, builtin, Sem.run_bind, Sem.run_pure, Result.andThen_ok, List.map_toArray, List.map_cons, List.map_nil, hs, hx', hrun]
    exact hK _ _ (h _ _ (by rw [List.append_nil]; exact hown) (Below.refl _ _))
theorem one_k (w : World) (k : K) : RdK (w.alloc (.cells (kc k) 48)) (.slice (some ⟨w.heap.size, 0, none⟩) 1 1) [k] :=
  ⟨_, 1, rfl, Nat.le_refl _, by unfold maxLen; omega, fun _ => ⟨w.heap.size, 0, rfl, by simp, fun j hj i hi => by
    have : j = 0 := by simpa using hj
    subst this
    rw [cell_of_row _ _ _ _ _ _ (heap_alloc_new _ _)]
    simp [keyAt]⟩⟩
theorem empty_k (w : World) : OwnK (w.alloc (.cells #[] 48)) w.heap.size (.slice (some ⟨w.heap.size, 0, none⟩) 0 0) [] :=
  ⟨rfl, .inr ⟨w.heap.size, 0, #[], rfl, Nat.le_refl _, heap_alloc_new _ _, Nat.le_refl _, by unfold maxLen; omega, rfl, rfl⟩⟩
attribute [local irreducible] Calls
set_option maxRecDepth 100000 in
set_option maxHeartbeats 1000000 in
theorem clone_k (v : Value) (l : List K) (w : World) (hv : RdK w v l) (hl : l.length ≤ 5000) :
    Calls Tryd.prog 46 #[v] w fun e w' => ∃ v', e = .returned v' ∧ OwnK w' w.heap.size v' l ∧ Below w.heap.size w w' := by
  have HV := Lib.hid hv
  obtain ⟨a, cap, rfl, _, _, hc⟩ := hv
  have heq : ∀ (a : Option Addr) (n c : Nat) (w : World), (binOp .eql 24 (.slice a n c) (.slice none 0 0)).run Tryd.prog w = .ok (.bool a.isNone) w := fun a n c w => Lib.run_eql_slice_nil w _ _ a n c 0 0 Tryd.underlying24
  cases a with
  | none =>
    have hn : l = [] := by
      cases l with
      | nil => rfl
      | cons c l =>
        obtain ⟨b, off, e, _⟩ := hc (by simp)
        cases e
    subst hn
    go_enter Tryd.func46, Tryd.ntmps46
    go_wp2
    go_ret
    exact ⟨_, rfl, OwnK.nil _ _, Below.refl _ _⟩
  | some p =>
    have hsz : Hid (([] : List K).length + l.length ≤ 1000000) := Lib.hid (by simp; omega)
    clear hc
    go_enter Tryd.func46, Tryd.ntmps46
    go_wp2_with (at_builtin; refine app_k rfl (.tmp 5) (.tmp 6) rfl w.heap.size _ [] rfl (empty_k w) _ l rfl (HV.out.alloc _) hsz.out (by rw [World.size_alloc]; exact Nat.le_succ _) ?_; intro v' w' ho hb)
    go_ret
    exact ⟨_, rfl, ho, ((Below.refl _ _).alloc (Nat.le_refl _) _).trans hb⟩
end Go.Proofs.YtbpjdfnnlmblaaaDoor
/- Equal tables, equal lists of numbers, small inputs. -/
namespace Go.Proofs.YtbpjdfnnlmblaaaDoor
open Go.RowKit Go.Shelf
set_option linter.unusedSimpArgs false
set_option linter.unusedVariables false
theorem ext_i {l m : List Int} (h : l.length = m.length) (h2 : ∀ j, j < l.length → intAt l j = intAt m j) : l = m := by
  refine List.ext_getElem h (fun i h3 h4 => ?_)
  have := h2 i h3
  rwa [intAt_eq l i h3, intAt_eq m i h4] at this
attribute [local irreducible] Calls
end Go.Proofs.YtbpjdfnnlmblaaaDoor
/- Equality of keys. -/
namespace Go.Proofs.YtbpjdfnnlmblaaaDoor
open Go.RowKit Go.Shelf
set_option linter.unusedSimpArgs false
set_option linter.unusedVariables false
theorem fields_k : (Tryd.prog.fieldsOf 48).toList.map (fun f => (f.name == "_", f.type, f.offset)) = [(false, 3, 0), (false, 3, 1), (false, 9, 2), (false, 3, 3), (false, 3, 4), (false, 3, 5), (false, 3, 6), (false, 3, 7), (false, 4, 8)] := by kernel_rfl
theorem ag_i (w : World) : (isAgg 3).run Tryd.prog w = .ok false w := by simp [isAgg, run_underlying Tryd.underlying3]
theorem ag_s (w : World) : (isAgg 9).run Tryd.prog w = .ok false w := by simp [isAgg, run_underlying Tryd.underlying9]
theorem ag_b (w : World) : (isAgg 4).run Tryd.prog w = .ok false w := by simp [isAgg, run_underlying Tryd.underlying4]
theorem str_beq (x y : List UInt8) : ((⟨x.toArray⟩ : ByteArray).toList == (⟨y.toArray⟩ : ByteArray).toList) = (x == y) := by
  rw [ByteArray.toList_eq, ByteArray.toList_eq]
def kEq (a b : K) : Bool := (a.id == b.id) && ((a.ty == b.ty) && ((a.val == b.val) && ((a.uses == b.uses) && ((a.start == b.start) && ((a.fin == b.fin) && ((a.ver == b.ver) && ((a.par == b.par) && ((a.raw == b.raw)))))))))
theorem kEq_eq (a b : K) : kEq a b = decide (a = b) := by
  rw [Bool.eq_iff_iff]
  obtain ⟨⟩ := a
  obtain ⟨⟩ := b
  simp [kEq]
theorem neq_k (a b : K) (w : World) : (binOp .neq 48 (.agg (kc a)) (.agg (kc b))).run Tryd.prog w = .ok (.bool (!kEq a b)) w := by
  rw [run_neq_struct]
  have ht : Tryd.prog.underlying 48 = some (.struct (Tryd.prog.fieldsOf 48)) := by kernel_rfl
  have hp : Tryd.prog.stoodInHeld 48 = false := by kernel_rfl
  rw [show (10000 : Nat) = 9999 + 1 from rfl, run_equalIn_struct w 9999 _ _ _ ht hp]
  have hf := fields_k
  generalize (Tryd.prog.fieldsOf 48).toList = fs at hf
  rcases fs with _ | ⟨f0, _ | ⟨f1, _ | ⟨f2, _ | ⟨f3, _ | ⟨f4, _ | ⟨f5, _ | ⟨f6, _ | ⟨f7, _ | ⟨f8, _ | ⟨f9, fs⟩⟩⟩⟩⟩⟩⟩⟩⟩⟩
  case cons.cons.cons.cons.cons.cons.cons.cons.cons.nil =>
    simp only [List.map_cons, List.map_nil, List.cons.injEq, Prod.mk.injEq, and_true] at hf
    obtain ⟨⟨n0, t0, o0⟩, ⟨n1, t1, o1⟩, ⟨n2, t2, o2⟩, ⟨n3, t3, o3⟩, ⟨n4, t4, o4⟩, ⟨n5, t5, o5⟩, ⟨n6, t6, o6⟩, ⟨n7, t7, o7⟩, ⟨n8, t8, o8⟩⟩ := hf
    have m0 : f0.name ≠ "_" := by simpa using n0
    have m1 : f1.name ≠ "_" := by simpa using n1
    have m2 : f2.name ≠ "_" := by simpa using n2
    have m3 : f3.name ≠ "_" := by simpa using n3
    have m4 : f4.name ≠ "_" := by simpa using n4
    have m5 : f5.name ≠ "_" := by simpa using n5
    have m6 : f6.name ≠ "_" := by simpa using n6
    have m7 : f7.name ≠ "_" := by simpa using n7
    have m8 : f8.name ≠ "_" := by simpa using n8
    have e0 : (Op.equalIn 9999 3 (.int .i64 a.id) (.int .i64 b.id)).run Tryd.prog w = .ok (a.id == b.id) w := run_equalIn_int w 9998 _ _ _ _ _ Tryd.underlying3
    have e1 : (Op.equalIn 9999 3 (.int .i64 a.ty) (.int .i64 b.ty)).run Tryd.prog w = .ok (a.ty == b.ty) w := run_equalIn_int w 9998 _ _ _ _ _ Tryd.underlying3
    have e2 : (Op.equalIn 9999 9 (.string ⟨a.val.toArray⟩) (.string ⟨b.val.toArray⟩)).run Tryd.prog w = .ok (a.val == b.val) w := by rw [run_equalIn_string w 9998 _ _ _ Tryd.underlying9, str_beq]
    have e3 : (Op.equalIn 9999 3 (.int .i64 a.uses) (.int .i64 b.uses)).run Tryd.prog w = .ok (a.uses == b.uses) w := run_equalIn_int w 9998 _ _ _ _ _ Tryd.underlying3
    have e4 : (Op.equalIn 9999 3 (.int .i64 a.start) (.int .i64 b.start)).run Tryd.prog w = .ok (a.start == b.start) w := run_equalIn_int w 9998 _ _ _ _ _ Tryd.underlying3
    have e5 : (Op.equalIn 9999 3 (.int .i64 a.fin) (.int .i64 b.fin)).run Tryd.prog w = .ok (a.fin == b.fin) w := run_equalIn_int w 9998 _ _ _ _ _ Tryd.underlying3
    have e6 : (Op.equalIn 9999 3 (.int .i64 a.ver) (.int .i64 b.ver)).run Tryd.prog w = .ok (a.ver == b.ver) w := run_equalIn_int w 9998 _ _ _ _ _ Tryd.underlying3
    have e7 : (Op.equalIn 9999 3 (.int .i64 a.par) (.int .i64 b.par)).run Tryd.prog w = .ok (a.par == b.par) w := run_equalIn_int w 9998 _ _ _ _ _ Tryd.underlying3
    have e8 : (Op.equalIn 9999 4 (.bool a.raw) (.bool b.raw)).run Tryd.prog w = .ok (a.raw == b.raw) w := run_equalIn_bool w 9998 _ _ _ Tryd.underlying4
    rw [eqf_step 9999 _ _ f0 _ m0 w (.int .i64 a.id) (.int .i64 b.id) (a.id == b.id) (by rw [t0, o0]; simp [part, ag_i, kc]) (by rw [t0, o0]; simp [part, ag_i, kc]) (by rw [t0]; exact e0),
      eqf_step 9999 _ _ f1 _ m1 w (.int .i64 a.ty) (.int .i64 b.ty) (a.ty == b.ty) (by rw [t1, o1]; simp [part, ag_i, kc]) (by rw [t1, o1]; simp [part, ag_i, kc]) (by rw [t1]; exact e1),
      eqf_step 9999 _ _ f2 _ m2 w (.string ⟨a.val.toArray⟩) (.string ⟨b.val.toArray⟩) (a.val == b.val) (by rw [t2, o2]; simp [part, ag_s, kc]) (by rw [t2, o2]; simp [part, ag_s, kc]) (by rw [t2]; exact e2),
      eqf_step 9999 _ _ f3 _ m3 w (.int .i64 a.uses) (.int .i64 b.uses) (a.uses == b.uses) (by rw [t3, o3]; simp [part, ag_i, kc]) (by rw [t3, o3]; simp [part, ag_i, kc]) (by rw [t3]; exact e3),
      eqf_step 9999 _ _ f4 _ m4 w (.int .i64 a.start) (.int .i64 b.start) (a.start == b.start) (by rw [t4, o4]; simp [part, ag_i, kc]) (by rw [t4, o4]; simp [part, ag_i, kc]) (by rw [t4]; exact e4),
      eqf_step 9999 _ _ f5 _ m5 w (.int .i64 a.fin) (.int .i64 b.fin) (a.fin == b.fin) (by rw [t5, o5]; simp [part, ag_i, kc]) (by rw [t5, o5]; simp [part, ag_i, kc]) (by rw [t5]; exact e5),
      eqf_step 9999 _ _ f6 _ m6 w (.int .i64 a.ver) (.int .i64 b.ver) (a.ver == b.ver) (by rw [t6, o6]; simp [part, ag_i, kc]) (by rw [t6, o6]; simp [part, ag_i, kc]) (by rw [t6]; exact e6),
      eqf_step 9999 _ _ f7 _ m7 w (.int .i64 a.par) (.int .i64 b.par) (a.par == b.par) (by rw [t7, o7]; simp [part, ag_i, kc]) (by rw [t7, o7]; simp [part, ag_i, kc]) (by rw [t7]; exact e7),
      eqf_step 9999 _ _ f8 _ m8 w (.bool a.raw) (.bool b.raw) (a.raw == b.raw) (by rw [t8, o8]; simp [part, ag_b, kc]) (by rw [t8, o8]; simp [part, ag_b, kc]) (by rw [t8]; exact e8)]
    unfold kEq
    cases (a.id == b.id)
    · rfl
    cases (a.ty == b.ty)
    · rfl
    cases (a.val == b.val)
    · rfl
    cases (a.uses == b.uses)
    · rfl
    cases (a.start == b.start)
    · rfl
    cases (a.fin == b.fin)
    · rfl
    cases (a.ver == b.ver)
    · rfl
    cases (a.par == b.par)
    · rfl
    cases (a.raw == b.raw)
    · rfl
    rfl
  all_goals simp at hf
end Go.Proofs.YtbpjdfnnlmblaaaDoor
/- Equal tables; small inputs. -/
namespace Go.Proofs.YtbpjdfnnlmblaaaDoor
open Go.RowKit Go.Shelf
set_option linter.unusedSimpArgs false
set_option linter.unusedVariables false
theorem ext_k {l m : List K} (h : l.length = m.length) (h2 : ∀ j, j < l.length → keyAt l j = keyAt m j) : l = m := by
  refine List.ext_getElem h (fun i h3 h4 => ?_)
  have := h2 i h3
  rwa [keyAt_eq l i h3, keyAt_eq m i h4] at this
attribute [local irreducible] Calls kEq
set_option maxRecDepth 100000 in
set_option maxHeartbeats 2000000 in
theorem sameT (n1 n2 : Int) (v u : Value) (l m : List K) (w : World) (hv : RdK w v l) (hu : RdK w u m) :
    Calls Tryd.prog 45 #[.agg #[.int .i64 n1, v], .agg #[.int .i64 n2, u]] w fun e w' => e = .returned (.bool (decide (n1 = n2 ∧ l = m))) ∧ Below w.heap.size w w' := by
  have hlen := hv.len
  unfold maxLen at hlen
  have hbe : ∀ (A B : Obj) (n : Nat), Below w.heap.size w (((w.alloc A).alloc B).drewN n) := fun A B n => below_drewN n (((Below.refl _ _).alloc (Nat.le_refl _) A).alloc (by simp) B)
  have HBE := Lib.hid hbe
  have HV := Lib.hid ((hv.alloc (.cells #[.int .i64 n1, v] 37)).alloc (.cells #[.int .i64 n2, u] 37))
  have HU := Lib.hid ((hu.alloc (.cells #[.int .i64 n1, v] 37)).alloc (.cells #[.int .i64 n2, u] 37))
  obtain ⟨a, cap, rfl, _, _, _⟩ := hv
  obtain ⟨a2, cap2, rfl, _, _, _⟩ := hu
  clear hbe
  by_cases hn : n1 = n2
  · have hnn : (n1 == n2) = true := by rw [hn]; simp
    have hnn2 : (n1 != n2) = false := by rw [bne, hnn]; rfl
    have HN := Lib.hid hn
    by_cases hl : l.length = m.length
    · have hne : ((l.length : Int) == m.length) = true := by rw [beq_iff_eq]; omega
      have hne2 : ((l.length : Int) != m.length) = false := by rw [bne, hne]; rfl
      have HL := Lib.hid hl
      clear hl hn
      go_enter Tryd.func45, Tryd.ntmps45
      go_wp2
      go_loopw [5] (fun o wr => ∃ i : Nat, i ≤ l.length ∧ o = .int .i64 i ∧ Hid (∀ j, j < i → keyAt l j = keyAt m j) ∧ ∃ n, wr = ((w.alloc (.cells #[.int .i64 n1, .slice a l.length cap] 37)).alloc (.cells #[.int .i64 n2, .slice a2 m.length cap2] 37)).drewN n) (fun o _ => l.length - (intOf o).toNat)
      case atStart => exact ⟨0, Nat.zero_le _, rfl, Lib.hid (fun j hj => absurd hj (by omega)), 0, rfl⟩
      case round =>
        obtain ⟨i, hi, rfl, hno, n, rfl⟩ := hrel
        by_cases hlt : i < l.length
        · obtain ⟨b, off, rfl, hb1, hrow⟩ := (HV.out.cells) (by omega)
          obtain ⟨b2, off2, rfl, hb2, hrow2⟩ := (HU.out.cells) (by have := HL.out; omega)
          have hneq := fun w' => neq_k (keyAt l i) (keyAt m i) w'
          rw [kEq_eq] at hneq
          unfold kc at hneq
          obtain ⟨d0, d1, d2, d3, d4, d5, d6, d7, d8⟩ := hrow i hlt
          obtain ⟨x0, x1, x2, x3, x4, x5, x6, x7, x8⟩ := hrow2 i (by have := HL.out; omega)
          have i1 : (i : Int) < l.length := by omega
          have i2 : (i : Int) < m.length := by have := HL.out; omega
          have i3 : i < m.length := by have := HL.out; omega
          have HK := Lib.hid hlt
          have HNO := hno
          clear hrow hrow2 hno
          by_cases hq : keyAt l i = keyAt m i
          · rw [decide_eq_true hq] at hneq
            have HQ := Lib.hid hq
            clear hq
            go_wp2
            first | refine allD (by kernel_rfl) (by kernel_rfl) ?_ | refine all0 (by kernel_rfl) (by kernel_rfl) ?_
            repeat (go_big_quiet_step (fail))
            refine wpQuiet_nil ?_
            rintro _ ⟨nq, rfl⟩
            go_wp2
            go_roundw
            case rel => exact ⟨i + 1, HK.out, by go_num, Lib.hid (fun j hj => by
              by_cases e : j = i
              · subst e; exact HQ.out
              · exact HNO.out j (by omega)), _, rfl⟩
            case measure => have := HK.out; simp [intOf]; omega
          · rw [decide_eq_false hq] at hneq
            have hres : decide (n1 = n2 ∧ l = m) = false := decide_eq_false (fun e => hq (by rw [e.2]))
            have HRES := Lib.hid hres
            clear hq hres
            go_wp2
            first | refine allD (by kernel_rfl) (by kernel_rfl) ?_ | refine all0 (by kernel_rfl) (by kernel_rfl) ?_
            repeat (go_big_quiet_step (fail))
            refine wpQuiet_nil ?_
            rintro _ ⟨nq, rfl⟩
            go_wp2
            go_ret
            exact ⟨by rw [HRES.out]; rfl, HBE.out _ _ _⟩
        · have i1 : (l.length : Int) ≤ i := by omega
          have hres : decide (n1 = n2 ∧ l = m) = true := decide_eq_true ⟨HN.out, ext_k HL.out (fun j hj => hno.out j (by omega))⟩
          have HRES := Lib.hid hres
          clear hres hno
          go_wp2
          go_ret
          exact ⟨by rw [HRES.out]; rfl, HBE.out _ _ _⟩
    · have hne : ((l.length : Int) == m.length) = false := by rw [beq_eq_false_iff_ne]; omega
      have hne2 : ((l.length : Int) != m.length) = true := by rw [bne, hne]; rfl
      rw [decide_eq_false (fun e => hl (by rw [e.2]))]
      clear hl hn
      go_enter Tryd.func45, Tryd.ntmps45
      go_wp2
      go_ret
      exact ⟨rfl, HBE.out _ _ 0⟩
  · have hnn : (n1 == n2) = false := by rw [beq_eq_false_iff_ne]; exact hn
    have hnn2 : (n1 != n2) = true := by rw [bne, hnn]; rfl
    rw [decide_eq_false (fun e => hn e.1)]
    clear hn
    go_enter Tryd.func45, Tryd.ntmps45
    go_wp2
    go_ret
    exact ⟨rfl, HBE.out _ _ 0⟩
theorem few_k (n1 : Int) (v u : Value) (l m : List K) (b : BK) (w : World) (hv : RdK w v l) (hu : RdK w u m) :
    Calls Tryd.prog 15 #[.agg #[.int .i64 n1, v], .agg (bc b u)] w fun e w' => e = .returned (.bool (decide (l.length ≤ 40) && (decide (m.length ≤ 40) && decide (b.mo.length ≤ 100)))) ∧ Below w.heap.size w w' := by
  have hbe : ∀ (A B : Obj), Below w.heap.size w ((w.alloc A).alloc B) := fun A B => ((Below.refl _ _).alloc (Nat.le_refl _) A).alloc (by simp) B
  have HBE := Lib.hid hbe
  obtain ⟨a, cap, rfl, _, _, _⟩ := hv
  obtain ⟨a2, cap2, rfl, _, _, _⟩ := hu
  clear hbe
  by_cases h1 : l.length ≤ 40
  · have i1 : (l.length : Int) ≤ 40 := by omega
    by_cases h2 : m.length ≤ 40
    · have i2 : (m.length : Int) ≤ 40 := by omega
      by_cases h3 : b.mo.length ≤ 100
      · have i3 : (b.mo.length : Int) ≤ 100 := by omega
        rw [decide_eq_true h1, decide_eq_true h2, decide_eq_true h3]
        go_enter Tryd.func15, Tryd.ntmps15
        go_wp2
        go_ret
        exact ⟨rfl, HBE.out _ _⟩
      · have i3 : ¬ (b.mo.length : Int) ≤ 100 := by omega
        rw [decide_eq_true h1, decide_eq_true h2, decide_eq_false h3]
        go_enter Tryd.func15, Tryd.ntmps15
        go_wp2
        go_ret
        exact ⟨rfl, HBE.out _ _⟩
    · have i2 : ¬ (m.length : Int) ≤ 40 := by omega
      rw [decide_eq_true h1, decide_eq_false h2]
      go_enter Tryd.func15, Tryd.ntmps15
      go_wp2
      go_ret
      exact ⟨rfl, HBE.out _ _⟩
  · have i1 : ¬ (l.length : Int) ≤ 40 := by omega
    rw [decide_eq_false h1]
    go_enter Tryd.func15, Tryd.ntmps15
    go_wp2
    go_ret
    exact ⟨rfl, HBE.out _ _⟩
end Go.Proofs.YtbpjdfnnlmblaaaDoor
/- The specification's Add. -/
namespace Go.Proofs.YtbpjdfnnlmblaaaDoor
open Go.RowKit Go.Shelf
set_option linter.unusedSimpArgs false
set_option linter.unusedVariables false
def addErr (nx : Int) (l : List K) (k : K) : Int := if validK k = true ∧ k.par < nx then (if l.length < 4096 ∧ nx < 2147483647 then 0 else 2) else 1
theorem addErr_parts (nx : Int) (l : List K) (k : K) : (validK k = false ∧ addErr nx l k = 1) ∨ (validK k = true ∧ nx ≤ k.par ∧ addErr nx l k = 1) ∨ (validK k = true ∧ ¬ nx ≤ k.par ∧ (4096 : Int) ≤ l.length ∧ addErr nx l k = 2) ∨
    (validK k = true ∧ ¬ nx ≤ k.par ∧ ¬ (4096 : Int) ≤ l.length ∧ 2147483647 ≤ nx ∧ addErr nx l k = 2) ∨ (validK k = true ∧ ¬ nx ≤ k.par ∧ ¬ (4096 : Int) ≤ l.length ∧ ¬ 2147483647 ≤ nx ∧ addErr nx l k = 0) := by
  unfold addErr
  cases h1 : validK k
  · simp
  by_cases h2 : nx ≤ k.par
  · have : ¬ k.par < nx := by omega
    simp [h2, this]
  have a2 : k.par < nx := by omega
  by_cases h3 : (4096 : Int) ≤ l.length
  · have : ¬ l.length < 4096 := by omega
    simp [h2, a2, h3, this]
  have a3 : l.length < 4096 := by omega
  by_cases h4 : 2147483647 ≤ nx
  · have : ¬ nx < 2147483647 := by omega
    simp [h2, a2, h3, a3, h4, this]
  have a4 : nx < 2147483647 := by omega
  simp [h2, a2, h3, a3, h4, a4]
theorem kheap3_2' (w : World) (A B C : Obj) : (((w.alloc A).alloc B).alloc C).heap[w.heap.size + 1 + 1]? = some C := kheap3_2 w A B C
theorem kbelow_row {w : World} {g B : Nat} {cs : Array Value} (h : B ≤ g) : Below B w (w.setRow g cs) :=
  ⟨rfl, rfl, rfl, by simp [World.setRow], fun k hk => by
    unfold World.setRow
    rw [Array.getElem?_modify]
    have : ¬ g = k := by omega
    simp [this]⟩
/-- the result variable of Add -/
def ac (n : Int) (v : Value) (i e : Int) : Array Value := #[.int .i64 n, v, .int .i64 i, .int .i64 e]
attribute [local irreducible] Calls validK
end Go.Proofs.YtbpjdfnnlmblaaaDoor
/- append of keys as a step of a region that draws. -/
namespace Go.Proofs.YtbpjdfnnlmblaaaDoor
open Go.RowKit Go.Shelf
set_option linter.unusedSimpArgs false
set_option linter.unusedVariables false
/-- append to one's own keys, as a step of a region that draws -/
theorem step_app_k {ops : Array Oper} {o : Oper} {a : Act} {w : World} {K : Act → World → Prop} {Q : Exit → Act → World → Prop} {E : Prop} (hgd : o.guard = none) (s x : Operand)
    (ho : o.op = .call { callee := .builtin .append, args := #[s, x], argTypes := #[24, 24] })
    (base : Nat) (v : Value) (l : List Go.Proofs.YtbpjdfnnlmblaaaDoor.K) (hs : a.eval s = v) (hown : OwnK w base v l) (ad : Addr) (m c : Nat) (news : List Go.Proofs.YtbpjdfnnlmblaaaDoor.K) (hx : a.eval x = .slice (some ad) m c) (hl : news.length = m) (hm : 0 < m)
    (hnews : RdK w (.slice (some ad) m c) news) (hsz : l.length + m ≤ 1000000) (hbase : base ≤ w.heap.size)
    (h : ∀ v' w', OwnK w' base v' (l ++ news) → Below base w w' → K (a.put o.dst v') w') :
    if Region.wanted o (yielded ops a.tmps) = true then Oper.wp Tryd.prog o a w K Q else E := by
  obtain ⟨i0, z0, hi, hz, hs9, hz9, hb0, hb1⟩ := info_k3
  refine step_append_lies w hgd s x 24 ho base 48 i0 z0 9 i0.bytes Tryd.underlying24 hi hz hs9 rfl hz9 (by decide) v l.length (kflat l) hs hown ad m c (kflat news) hx (by rw [kflat_len, hl]) (hnews.flat ad rfl) (kflat_one news) hm
    (by unfold maxLen; omega) (Nat.le_trans (Nat.mul_le_mul hsz hb1) (by decide)) hbase w.heap.size rfl ?_
  intro g cap w' h1 h2 _ _
  refine h _ w' ?_ ((Below.refl base w).grown h2 hbase (fun k hk => (World.ownsRow.lt hown k hk).1))
  unfold OwnK
  rw [List.length_append, hl, kflat_append]
  exact h1
/-- append to keys that have no room, as such a step -/
theorem step_grow_k {ops : Array Oper} {o : Oper} {a : Act} {w : World} {K : Act → World → Prop} {Q : Exit → Act → World → Prop} {E : Prop} (hgd : o.guard = none) (s x : Operand)
    (ho : o.op = .call { callee := .builtin .append, args := #[s, x], argTypes := #[24, 24] })
    (ao : Option Addr) (l : List Go.Proofs.YtbpjdfnnlmblaaaDoor.K) (hs : a.eval s = .slice ao l.length l.length) (hr : RdK w (.slice ao l.length l.length) l) (ad : Addr) (m c : Nat) (news : List Go.Proofs.YtbpjdfnnlmblaaaDoor.K) (hx : a.eval x = .slice (some ad) m c) (hl : news.length = m) (hm : 0 < m)
    (hnews : RdK w (.slice (some ad) m c) news) (hsz : l.length + m ≤ 1000000)
    (h : ∀ v' w', OwnK w' w.heap.size v' (l ++ news) → Below w.heap.size w w' → K (a.put o.dst v') w') :
    if Region.wanted o (yielded ops a.tmps) = true then Oper.wp Tryd.prog o a w K Q else E := by
  obtain ⟨i0, z0, hi, hz, hs9, hz9, hb0, hb1⟩ := info_k3
  have hn : ao = none → l.length = 0 ∧ l.length = 0 := by
    intro e
    subst e
    obtain ⟨a', c', e, _, _, h3⟩ := hr
    cases e
    have : l.length = 0 := by
      rcases Nat.eq_zero_or_pos l.length with h0 | h0
      · exact h0
      · obtain ⟨b, off, e, _⟩ := h3 h0
        cases e
    exact ⟨this, this⟩
  refine step_append_grows hgd s x 24 ho 48 i0 z0 9 i0.bytes Tryd.underlying24 hi hz hs9 rfl hz9 (by decide) ao l.length l.length (kflat l) hs hn (kflat_len l) hr.flat ad m c (kflat news) hx (by rw [kflat_len, hl]) (hnews.flat ad rfl) (kflat_one news)
    (by omega) (by unfold maxLen; omega) (Nat.le_trans (Nat.mul_le_mul hsz hb1) (by decide)) ?_
  intro v' w' h1 h2
  refine h v' w' ?_ ((Below.refl _ w).grown h2 (Nat.le_refl _) (fun k hk => by cases hk))
  unfold OwnK
  rw [List.length_append, hl, kflat_append]
  exact h1
end Go.Proofs.YtbpjdfnnlmblaaaDoor
/- Plan as a function of lists; what holds of it. -/
namespace Go.Proofs.YtbpjdfnnlmblaaaDoor
open Go.RowKit Go.Shelf
set_option linter.unusedSimpArgs false
set_option linter.unusedVariables false
/-- the key with another Id -/
def withId (k : K) (n : Int) : K := { k with id := n }
/-- the key with another Parent -/
def withPar (k : K) (n : Int) : K := { k with par := n }
/-- what stands for a key: the last pair that says it, or 0 -/
def lookP (ps : List (Int × Int)) (x : Int) : Int := ps.foldl (fun acc p => if p.1 = x then p.2 else acc) 0
theorem lookP_snoc (ps : List (Int × Int)) (p : Int × Int) (x : Int) : lookP (ps ++ [p]) x = if p.1 = x then p.2 else lookP ps x := by
  simp [lookP, List.foldl_append]
/-- where the plan stands -/
structure PS where
  nx : Int
  ks : List K
  ps : List (Int × Int)
  ids : List Int
/-- the key as it is added -/
def newK (s : PS) (x : K) : K := withPar x (lookP s.ps x.par)
def plTwin (s : PS) (x : K) : PS := ⟨s.nx, s.ks, s.ps ++ [(x.id, twinId s.ks x)], s.ids⟩
def plAdd (s : PS) (x : K) : PS := ⟨s.nx + 1, s.ks ++ [withId (newK s x) s.nx], s.ps ++ [(x.id, s.nx)], s.ids ++ [s.nx]⟩
def plStep (now : Int) (s : PS) (x : K) : Except Int PS :=
  if x.fin ≤ now then .ok s else if twinIs s.ks x = true then .ok (plTwin s x) else if addErr s.nx s.ks (newK s x) = 0 then .ok (plAdd s x) else .error (addErr s.nx s.ks (newK s x))
def plRun (now : Int) : PS → List K → Except Int PS
  | s, [] => .ok s
  | s, x :: l => match plStep now s x with
    | .ok s' => plRun now s' l
    | .error e => .error e
theorem plRun_append (now : Int) (l m : List K) : ∀ s, plRun now s (l ++ m) = (match plRun now s l with | .ok s' => plRun now s' m | .error e => .error e) := by
  induction l with
  | nil => intro s; rfl
  | cons x l ih =>
    intro s
    simp only [List.cons_append, plRun]
    cases plStep now s x with
    | ok s' => exact ih s'
    | error e => rfl
theorem take_keyAt (l : List K) (i : Nat) (h : i < l.length) : l.take (i + 1) = l.take i ++ [keyAt l i] := by
  rw [keyAt_eq l i h]
  exact List.take_succ_eq_append_getElem h
theorem plRun_take (now : Int) (s0 s : PS) (l : List K) (i : Nat) (h : i < l.length) (hr : plRun now s0 (l.take i) = .ok s) : plRun now s0 (l.take (i + 1)) = plStep now s (keyAt l i) := by
  rw [take_keyAt l i h, plRun_append, hr]
  simp only [plRun]
  cases plStep now s (keyAt l i) <;> rfl
theorem plRun_fell (now : Int) (s0 s : PS) (l : List K) (i : Nat) (h : i < l.length) (hr : plRun now s0 (l.take i) = .ok s) (e : Int) (he : plStep now s (keyAt l i) = .error e) : plRun now s0 l = .error e := by
  have h1 := plRun_take now s0 s l i h hr
  rw [he] at h1
  have h2 := plRun_append now (l.take (i + 1)) (l.drop (i + 1)) s0
  rw [List.take_append_drop, h1] at h2
  exact h2
/-- the four ways of a step -/
theorem plStep_parts (now : Int) (s : PS) (x : K) : (x.fin ≤ now ∧ plStep now s x = .ok s) ∨ (¬ x.fin ≤ now ∧ twinIs s.ks x = true ∧ plStep now s x = .ok (plTwin s x)) ∨
    (¬ x.fin ≤ now ∧ twinIs s.ks x = false ∧ addErr s.nx s.ks (newK s x) ≠ 0 ∧ plStep now s x = .error (addErr s.nx s.ks (newK s x))) ∨
    (¬ x.fin ≤ now ∧ twinIs s.ks x = false ∧ addErr s.nx s.ks (newK s x) = 0 ∧ plStep now s x = .ok (plAdd s x)) := by
  unfold plStep
  by_cases h1 : x.fin ≤ now
  · exact .inl ⟨h1, if_pos h1⟩
  rw [if_neg h1]
  cases h2 : twinIs s.ks x with
  | true => exact .inr (.inl ⟨h1, rfl, rfl⟩)
  | false =>
    by_cases h3 : addErr s.nx s.ks (newK s x) = 0
    · exact .inr (.inr (.inr ⟨h1, rfl, h3, by rw [if_neg (by simp), if_pos h3]⟩))
    · exact .inr (.inr (.inl ⟨h1, rfl, h3, by rw [if_neg (by simp), if_neg h3]⟩))
/-- the whole plan -/
def planK (nx : Int) (tl : List K) (b : BK) (bl : List K) (now : Int) : Except Int PS :=
  if validB b bl = true ∧ 0 ≤ now ∧ now ≤ 1099511627776 then plRun now ⟨nx, tl, [], []⟩ bl else .error 1
theorem planK_four (nx : Int) (tl : List K) (b : BK) (bl : List K) (now : Int) : (validB b bl = false ∧ planK nx tl b bl now = .error 1) ∨ (validB b bl = true ∧ now < 0 ∧ planK nx tl b bl now = .error 1) ∨
    (validB b bl = true ∧ ¬ now < 0 ∧ 1099511627776 < now ∧ planK nx tl b bl now = .error 1) ∨ (validB b bl = true ∧ ¬ now < 0 ∧ ¬ 1099511627776 < now ∧ planK nx tl b bl now = plRun now ⟨nx, tl, [], []⟩ bl) := by
  unfold planK
  cases h1 : validB b bl
  · exact .inl ⟨rfl, if_neg (by simp)⟩
  by_cases h2 : now < 0
  · exact .inr (.inl ⟨rfl, h2, if_neg (by omega)⟩)
  by_cases h3 : 1099511627776 < now
  · exact .inr (.inr (.inl ⟨rfl, h2, h3, if_neg (by omega)⟩))
  · exact .inr (.inr (.inr ⟨rfl, h2, h3, if_pos ⟨rfl, by omega, by omega⟩⟩))
/-! valid tables -/
theorem validTab_iff (nx : Int) (l : List K) : validTab nx l = true ↔ l.length ≤ 4096 ∧ 1 ≤ nx ∧ nx ≤ 2147483647 ∧ ∀ j, j < l.length → okAt nx l j = true := by
  unfold validTab
  rw [Bool.and_eq_true, Bool.and_eq_true, decide_eq_true_eq, win_iff, List.all_eq_true]
  simp only [List.mem_range]
  constructor
  · rintro ⟨⟨a, b, c⟩, d⟩; exact ⟨a, b, c, d⟩
  · rintro ⟨a, b, c, d⟩; exact ⟨⟨a, b, c⟩, d⟩
theorem okAt_iff (nx : Int) (l : List K) (i : Nat) : okAt nx l i = true ↔ validK (keyAt l i) = true ∧ lastId l i < (keyAt l i).id ∧ (keyAt l i).id < nx ∧ (keyAt l i).par < nx := by
  unfold okAt
  simp only [Bool.and_eq_true, decide_eq_true_eq]
  constructor
  · rintro ⟨⟨⟨a, b⟩, c⟩, d⟩; exact ⟨a, b, c, d⟩
  · rintro ⟨a, b, c, d⟩; exact ⟨⟨⟨a, b⟩, c⟩, d⟩
theorem keyAt_append_left (l m : List K) (i : Nat) (h : i < l.length) : keyAt (l ++ m) i = keyAt l i := by
  rw [keyAt_eq _ _ (by rw [List.length_append]; omega), keyAt_eq _ _ h, List.getElem_append_left]
theorem keyAt_append_right (l m : List K) (i : Nat) (h : i < m.length) : keyAt (l ++ m) (l.length + i) = keyAt m i := by
  rw [keyAt_eq _ _ (by rw [List.length_append]; omega), keyAt_eq _ _ h, List.getElem_append_right (by omega)]
  simp
theorem keyAt_last (l : List K) (x : K) : keyAt (l ++ [x]) l.length = x := by
  have := keyAt_append_right l [x] 0 (by simp)
  rw [Nat.add_zero] at this
  rw [this]; rfl
theorem lastId_append (l m : List K) (i : Nat) (h : i ≤ l.length) : lastId (l ++ m) i = lastId l i := by
  unfold lastId
  by_cases h0 : i = 0
  · simp [h0]
  · rw [if_neg h0, if_neg h0, keyAt_append_left _ _ _ (by omega)]
theorem lastId_lt (nx : Int) (l : List K) (h : validTab nx l = true) : lastId l l.length < nx := by
  obtain ⟨_, h1, _, h2⟩ := (validTab_iff nx l).1 h
  unfold lastId
  by_cases h0 : l.length = 0
  · rw [if_pos h0]; omega
  · rw [if_neg h0]
    exact ((okAt_iff _ _ _).1 (h2 (l.length - 1) (by omega))).2.2.1
theorem addErr_zero (nx : Int) (l : List K) (k : K) : addErr nx l k = 0 ↔ validK k = true ∧ k.par < nx ∧ l.length < 4096 ∧ nx < 2147483647 := by
  unfold addErr
  by_cases h : validK k = true ∧ k.par < nx
  · rw [if_pos h]
    by_cases h2 : l.length < 4096 ∧ nx < 2147483647
    · rw [if_pos h2]; simp only [true_iff]; exact ⟨h.1, h.2, h2.1, h2.2⟩
    · rw [if_neg h2]
      constructor
      · intro e; omega
      · rintro ⟨_, _, a, b⟩; exact absurd ⟨a, b⟩ h2
  · rw [if_neg h]
    constructor
    · intro e; omega
    · rintro ⟨a, b, _, _⟩; exact absurd ⟨a, b⟩ h
theorem validK_withId (k : K) (n : Int) : validK (withId k n) = validK k := rfl
theorem validTab_add (nx : Int) (l : List K) (k : K) (h : validTab nx l = true) (he : addErr nx l k = 0) : validTab (nx + 1) (l ++ [withId k nx]) = true := by
  obtain ⟨a, b, c, d⟩ := (validTab_iff nx l).1 h
  obtain ⟨e1, e2, e3, e4⟩ := (addErr_zero nx l k).1 he
  rw [validTab_iff]
  refine ⟨by rw [List.length_append, List.length_singleton]; omega, by omega, by omega, fun j hj => ?_⟩
  rw [okAt_iff]
  rw [List.length_append, List.length_singleton] at hj
  by_cases hlt : j < l.length
  · obtain ⟨o1, o2, o3, o4⟩ := (okAt_iff nx l j).1 (d j hlt)
    rw [keyAt_append_left _ _ _ hlt, lastId_append _ _ _ (by omega)]
    exact ⟨o1, o2, by omega, by omega⟩
  · obtain rfl : j = l.length := by omega
    rw [keyAt_last, lastId_append _ _ _ (Nat.le_refl _), validK_withId]
    refine ⟨e1, lastId_lt nx l h, ?_, ?_⟩
    · show nx < nx + 1; omega
    · show k.par < nx + 1; omega
/-! what stays true -/
/-- s has come of a start with the table (nx, tl) -/
structure Good (nx : Int) (tl : List K) (bl : List K) (now : Int) (s : PS) : Prop where
  tab : validTab s.nx s.ks = true
  news : ∃ new, s.ks = tl ++ new ∧ new.length = s.ids.length ∧ ∀ j, j < new.length → s.ids[j]? = some (nx + j) ∧ (keyAt new j).id = nx + j ∧ now < (keyAt new j).fin ∧ (∃ y ∈ bl, keyAt new j = withPar (withId y (keyAt new j).id) (keyAt new j).par) ∧
    ((keyAt new j).par = 0 ∨ ∃ i, i < tl.length + j ∧ (keyAt s.ks i).id = (keyAt new j).par)
  nxt : s.nx = nx + s.ids.length
  pto : ∀ p ∈ s.ps, ∃ k ∈ s.ks, k.id = p.2
theorem Good.start (nx : Int) (tl bl : List K) (now : Int) (h : validTab nx tl = true) : Good nx tl bl now ⟨nx, tl, [], []⟩ where
  tab := h
  news := ⟨[], by simp, rfl, fun j hj => absurd hj (by simp)⟩
  nxt := by simp
  pto := fun p hp => by simp at hp
theorem lookP_aux (x : Int) (ps : List (Int × Int)) : ∀ acc : Int, (ps.foldl (fun acc p => if p.1 = x then p.2 else acc) acc = acc) ∨ ∃ p ∈ ps, p.2 = ps.foldl (fun acc p => if p.1 = x then p.2 else acc) acc := by
  induction ps with
  | nil => intro acc; exact .inl rfl
  | cons q ps ih =>
    intro acc
    rw [List.foldl_cons]
    by_cases h : q.1 = x
    · rw [if_pos h]
      rcases ih q.2 with h0 | ⟨p, hp, h0⟩
      · exact .inr ⟨q, by simp, h0.symm⟩
      · exact .inr ⟨p, by simp [hp], h0⟩
    · rw [if_neg h]
      rcases ih acc with h0 | ⟨p, hp, h0⟩
      · exact .inl h0
      · exact .inr ⟨p, by simp [hp], h0⟩
theorem lookP_mem (ps : List (Int × Int)) (x : Int) : lookP ps x = 0 ∨ ∃ p ∈ ps, p.2 = lookP ps x := lookP_aux x ps 0
theorem twinIs_iff (l : List K) (x : K) : twinIs l x = true ↔ ∃ y ∈ l, alikeK y x = true := by
  rcases twin_parts l x with ⟨_, h, _, hn⟩ | ⟨i, hi, _, h, _, hp, _⟩
  · rw [h]
    simp only [Bool.false_eq_true, false_iff]
    rintro ⟨y, hy, hp⟩
    obtain ⟨i, hi, rfl⟩ := List.mem_iff_getElem.1 hy
    have := hn i hi
    rw [keyAt_eq l i hi, hp] at this
    cases this
  · rw [h]
    simp only [true_iff]
    exact ⟨_, List.getElem_mem hi, by rw [← keyAt_eq l i hi]; exact hp⟩
theorem twinId_mem (l : List K) (x : K) (h : twinIs l x = true) : ∃ k ∈ l, k.id = twinId l x := by
  rcases twin_parts l x with ⟨_, h0, _, hn⟩ | ⟨i, hi, h1, _⟩
  · rw [h0] at h; cases h
  · exact ⟨l[i], List.getElem_mem hi, by rw [h1, keyAt_eq l i hi]⟩
theorem Good.step {nx : Int} {tl bl : List K} {now : Int} {s s' : PS} (h : Good nx tl bl now s) (x : K) (hx : x ∈ bl) (hs : plStep now s x = .ok s') : Good nx tl bl now s' := by
  rcases plStep_parts now s x with ⟨_, e⟩ | ⟨_, ht, e⟩ | ⟨_, _, _, e⟩ | ⟨hf, ht, he, e⟩
  · rw [e] at hs; cases hs; exact h
  · rw [e] at hs; cases hs
    refine ⟨h.tab, h.news, h.nxt, fun p hp => ?_⟩
    rcases List.mem_append.1 hp with hp | hp
    · exact h.pto p hp
    · rw [List.mem_singleton.1 hp]; exact twinId_mem _ _ ht
  · rw [e] at hs; cases hs
  · rw [e] at hs; cases hs
    obtain ⟨new, hk, hl, hj⟩ := h.news
    refine ⟨validTab_add _ _ _ h.tab he, ⟨new ++ [withId (newK s x) s.nx], by show s.ks ++ _ = _; rw [hk, List.append_assoc], by show _ = (s.ids ++ [s.nx]).length; simp [hl], fun j hjl => ?_⟩, by show s.nx + 1 = nx + ((s.ids ++ [s.nx]).length : Int); rw [h.nxt, List.length_append, List.length_singleton]; omega, fun p hp => ?_⟩
    · rw [List.length_append, List.length_singleton] at hjl
      have hks : (plAdd s x).ks = s.ks ++ [withId (newK s x) s.nx] := rfl
      have hid : (plAdd s x).ids = s.ids ++ [s.nx] := rfl
      rw [hks, hid]
      by_cases hlt : j < new.length
      · obtain ⟨a1, a2, a3, a4, a5⟩ := hj j hlt
        rw [keyAt_append_left _ _ _ hlt]
        refine ⟨by rw [List.getElem?_append_left (by omega)]; exact a1, a2, a3, a4, a5.imp id (fun ⟨i, hi, hp⟩ => ⟨i, hi, ?_⟩)⟩
        rw [keyAt_append_left _ _ _ (by rw [hk, List.length_append]; omega)]; exact hp
      · obtain rfl : j = new.length := by omega
        rw [keyAt_last]
        have hn := h.nxt
        refine ⟨by rw [List.getElem?_append_right (by omega), hl]; simp [hn], by show s.nx = _; omega, by show now < x.fin; omega, ⟨x, hx, rfl⟩, ?_⟩
        show lookP s.ps x.par = 0 ∨ ∃ i, _ ∧ _ = lookP s.ps x.par
        rcases lookP_mem s.ps x.par with h0 | ⟨p, hp, h0⟩
        · exact .inl h0
        · obtain ⟨k, hk1, hk2⟩ := h.pto p hp
          obtain ⟨i, hi, rfl⟩ := List.mem_iff_getElem.1 hk1
          refine .inr ⟨i, by rw [hk, List.length_append] at hi; exact hi, ?_⟩
          rw [keyAt_append_left _ _ _ hi, keyAt_eq _ _ hi, hk2, h0]
    · have hp' : p ∈ s.ps ++ [(x.id, s.nx)] := hp
      rcases List.mem_append.1 hp' with hp | hp
      · obtain ⟨k, hk1, hk2⟩ := h.pto p hp
        exact ⟨k, List.mem_append_left _ hk1, hk2⟩
      · rw [List.mem_singleton.1 hp]
        exact ⟨withId (newK s x) s.nx, List.mem_append_right _ (by simp), rfl⟩
theorem plRun_ind {now : Int} {P : PS → Prop} (l : List K) : ∀ (s s' : PS), P s → (∀ s s' x, x ∈ l → P s → plStep now s x = .ok s' → P s') → plRun now s l = .ok s' → P s' := by
  induction l with
  | nil => intro s s' hs _ h; cases h; exact hs
  | cons x l ih =>
    intro s s' hs hst h
    rw [plRun] at h
    cases h1 : plStep now s x with
    | ok s1 =>
      rw [h1] at h
      exact ih s1 s' (hst s s1 x (by simp) hs h1) (fun a b y hy => hst a b y (by simp [hy])) h
    | error e => rw [h1] at h; cases h
theorem Good.run {nx : Int} {tl bl : List K} {now : Int} {s s' : PS} (h : Good nx tl bl now s) (l : List K) (hl : ∀ x ∈ l, x ∈ bl) (hr : plRun now s l = .ok s') : Good nx tl bl now s' :=
  plRun_ind (P := Good nx tl bl now) l s s' h (fun _ _ x hx hg hs => hg.step x (hl x hx) hs) hr
theorem Good.klen {nx : Int} {tl bl : List K} {now : Int} {s : PS} (h : Good nx tl bl now s) : s.ks.length = tl.length + s.ids.length := by
  obtain ⟨new, hk, hl, _⟩ := h.news
  rw [hk, List.length_append, hl]
/-- the lists are no longer than what has been gone through -/
theorem plRun_len {now : Int} (l : List K) : ∀ (s s' : PS), plRun now s l = .ok s' → s'.ps.length ≤ s.ps.length + l.length ∧ s'.ids.length ≤ s.ids.length + l.length ∧ s'.ks.length ≤ s.ks.length + l.length := by
  induction l with
  | nil => intro s s' h; cases h; simp
  | cons x l ih =>
    intro s s' h
    rw [plRun] at h
    cases h1 : plStep now s x with
    | error e => rw [h1] at h; cases h
    | ok s1 =>
      rw [h1] at h
      have := ih s1 s' h
      have hc : s1.ps.length ≤ s.ps.length + 1 ∧ s1.ids.length ≤ s.ids.length + 1 ∧ s1.ks.length ≤ s.ks.length + 1 := by
        rcases plStep_parts now s x with ⟨_, e⟩ | ⟨_, ht, e⟩ | ⟨_, _, _, e⟩ | ⟨hf, ht, he, e⟩
        · rw [e] at h1; cases h1; omega
        · rw [e] at h1; cases h1; simp [plTwin]
        · rw [e] at h1; cases h1
        · rw [e] at h1; cases h1; simp [plAdd]
      rw [List.length_cons]
      omega
/-! every key of the backup that is not over has a twin afterwards -/
theorem twinIs_append (l m : List K) (x : K) (h : twinIs l x = true) : twinIs (l ++ m) x = true := by
  rw [twinIs_iff] at h ⊢
  obtain ⟨y, hy, hp⟩ := h
  exact ⟨y, List.mem_append_left _ hy, hp⟩
theorem plStep_keeps {now : Int} {s s' : PS} {x : K} (h : plStep now s x = .ok s') : ∃ m, s'.ks = s.ks ++ m := by
  rcases plStep_parts now s x with ⟨_, e⟩ | ⟨_, ht, e⟩ | ⟨_, _, _, e⟩ | ⟨hf, ht, he, e⟩
  · rw [e] at h; cases h; exact ⟨[], by simp⟩
  · rw [e] at h; cases h; exact ⟨[], by simp [plTwin]⟩
  · rw [e] at h; cases h
  · rw [e] at h; cases h; exact ⟨_, rfl⟩
theorem plRun_keeps {now : Int} (l : List K) {s s' : PS} (h : plRun now s l = .ok s') : ∃ m, s'.ks = s.ks ++ m :=
  plRun_ind (P := fun t => ∃ m, t.ks = s.ks ++ m) l s s' ⟨[], by simp⟩ (fun a b x _ ha hs => by
    obtain ⟨m, hm⟩ := ha
    obtain ⟨m2, h2⟩ := plStep_keeps hs
    exact ⟨m ++ m2, by rw [h2, hm, List.append_assoc]⟩) h
theorem plStep_twin {now : Int} {s s' : PS} {x : K} (h : plStep now s x = .ok s') (hf : now < x.fin) : twinIs s'.ks x = true := by
  rcases plStep_parts now s x with ⟨h1, e⟩ | ⟨_, ht, e⟩ | ⟨_, _, _, e⟩ | ⟨_, ht, he, e⟩
  · omega
  · rw [e] at h; cases h; exact ht
  · rw [e] at h; cases h
  · rw [e] at h; cases h
    rw [twinIs_iff]
    refine ⟨withId (newK s x) s.nx, List.mem_append_right _ (by simp), ?_⟩
    simp [alikeK, withId, newK, withPar]
theorem plRun_twin {now : Int} (l : List K) : ∀ (s s' : PS), plRun now s l = .ok s' → ∀ x ∈ l, now < x.fin → twinIs s'.ks x = true := by
  induction l with
  | nil => intro s s' _ x hx; simp at hx
  | cons y l ih =>
    intro s s' h x hx hf
    rw [plRun] at h
    cases h1 : plStep now s y with
    | error e => rw [h1] at h; cases h
    | ok s1 =>
      rw [h1] at h
      rcases List.mem_cons.1 hx with rfl | hx
      · obtain ⟨m, hm⟩ := plRun_keeps l h
        rw [hm]
        exact twinIs_append _ _ _ (plStep_twin h1 hf)
      · exact ih s1 s' h x hx hf
theorem holdsK_iff (tl bl : List K) (now : Int) : holdsK tl bl now = true ↔ ∀ x ∈ bl, now < x.fin → twinIs tl x = true := by
  unfold holdsK
  rw [Bool.not_eq_true', List.any_eq_false]
  constructor
  · intro h x hx hf
    have := h x hx
    unfold lacks at this
    rw [decide_eq_true hf] at this
    simpa using this
  · intro h x hx
    unfold lacks
    by_cases hf : now < x.fin
    · rw [h x hx hf]; simp
    · rw [decide_eq_false hf]; simp
/-- a plan over a table that holds the backup adds nothing -/
theorem plRun_again {now : Int} (l : List K) : ∀ (s : PS), (∀ x ∈ l, now < x.fin → twinIs s.ks x = true) → ∃ s', plRun now s l = .ok s' ∧ s'.nx = s.nx ∧ s'.ks = s.ks ∧ s'.ids = s.ids := by
  induction l with
  | nil => intro s _; exact ⟨s, rfl, rfl, rfl, rfl⟩
  | cons x l ih =>
    intro s h
    rw [plRun]
    by_cases hf : now < x.fin
    · have e : plStep now s x = .ok (plTwin s x) := by
        unfold plStep
        rw [if_neg (by omega), if_pos (h x (by simp) hf)]
      rw [e]
      exact ih (plTwin s x) (fun y hy => h y (by simp [hy]))
    · have e : plStep now s x = .ok s := by unfold plStep; rw [if_pos (by omega)]
      rw [e]
      exact ih s (fun y hy => h y (by simp [hy]))
end Go.Proofs.YtbpjdfnnlmblaaaDoor
/- The specification's Add, granted. -/
namespace Go.Proofs.YtbpjdfnnlmblaaaDoor
open Go.RowKit Go.Shelf
set_option linter.unusedSimpArgs false
set_option linter.unusedVariables false
theorem setCell_rowK (w : World) (g i : Nat) (cs : Array Value) (T : TypeId) (fr : Nat × Nat) (v : Value) (h : w.heap[g]? = some (.cells cs T fr)) : w.setCell ⟨g, i, none⟩ v = w.setRow g (cs.setIfInBounds i v) := by
  unfold World.setCell World.setRow
  simp only [World.mk.injEq, and_true]
  apply Array.ext_getElem?
  intro j
  simp only [Array.getElem?_modify]
  by_cases h' : g = j
  · subst h'
    simp [h]
  · simp [h']
theorem kat_set {w : World} {B : Nat} {k : K} (h : KeyAt w B k) (n : Int) : KeyAt (w.setCell ⟨B, 0, none⟩ (.int .i64 n)) B (withId k n) := by
  unfold KeyAt at *
  rw [setCell_rowK w B 0 _ _ _ _ h, setRow_heap _ _ _ _ _ _ h]
  rfl
attribute [local irreducible] Calls validK
theorem setCell_block {w : World} {g g2 k : Nat} {v : Value} (h : g2 ≠ g) : (w.setCell ⟨g2, k, none⟩ v).heap[g]? = w.heap[g]? := by
  unfold World.setCell
  simp [Array.getElem?_modify, h]
theorem setCell_size (w : World) (p : Addr) (v : Value) : (w.setCell p v).heap.size = w.heap.size := by simp [World.setCell]
theorem KeyAt.free {w : World} {B : Nat} {k : K} (h : KeyAt w B k) (j : Nat) : w.frozen? ⟨B, j, none⟩ = false := by
  unfold KeyAt at h
  simp [World.frozen?, h]
theorem frow {w : World} {g : Nat} {cs : Array Value} {T : TypeId} (h : w.heap[g]? = some (.cells cs T (0, 0))) (j : Nat) : w.frozen? ⟨g, j, none⟩ = false := by simp [World.frozen?, h]
theorem ownK_set {w : World} {base : Nat} {v : Value} {l : List K} {g2 k : Nat} {x : Value} (h : OwnK w base v l) (hlt : g2 < base) : OwnK (w.setCell ⟨g2, k, none⟩ x) base v l := by
  refine ⟨h.1, ?_⟩
  rcases h.2 with hn | ⟨g, cap, cur, rfl, hg, hgg, r⟩
  · exact .inl hn
  · exact .inr ⟨g, cap, cur, rfl, hg, by rw [setCell_block (by omega)]; exact hgg, r⟩
theorem ownK_rd1 {w : World} {base : Nat} {va : Option Addr} {c : Nat} {l : List K} {x : K} (h : OwnK w base (.slice va (l ++ [x]).length c) (l ++ [x])) : RdK w (.slice va (l.length + 1) c) (l ++ [x]) := by
  have := h.rd
  rwa [List.length_append] at this
theorem ownK_own1 {w : World} {base b' : Nat} {va : Option Addr} {c : Nat} {l : List K} {x : K} (h : OwnK w base (.slice va (l ++ [x]).length c) (l ++ [x])) (hb : b' ≤ base) : OwnK w b' (.slice va (l.length + 1) c) (l ++ [x]) := by
  have h2 := World.ownsRow.mono h hb
  unfold OwnK
  rw [List.length_append] at h2 ⊢
  exact h2
theorem own_stepK {w : World} {base : Nat} {v : Value} {l : List K} (h : OwnK w base v l) (X : Obj) : OwnK (w.alloc X).drew base v l :=
  (h.keep ((Below.refl w.heap.size w).alloc (Nat.le_refl _) X) (Nat.le_refl _)).keep (below_drewN 1 (Below.refl (w.alloc X).heap.size (w.alloc X))) (Nat.le_refl _)
theorem base_stepK {w : World} {B : Nat} (h : B ≤ w.heap.size) (X : Obj) : B ≤ (w.alloc X).drew.heap.size := by
  have : (w.alloc X).drew.heap.size = w.heap.size + 1 := by simp
  omega
theorem one_stepK (w : World) (k : K) : RdK (w.alloc (.cells (kc k) 48)).drew (.slice (some ⟨w.heap.size, 0, none⟩) 1 1) [k] := (one_k w k).drew 1
theorem st4 {w : World} {g : Nat} {T : TypeId} {n i e n0 i0 e0 : Int} {v v0 : Value} (h : w.heap[g]? = some (.cells (ac n0 v0 i0 e0) T (0, 0))) :
    ((((w.setCell ⟨g, 0, none⟩ (.int .i64 n)).setCell ⟨g, 1, none⟩ v).setCell ⟨g, 2, none⟩ (.int .i64 i)).setCell ⟨g, 3, none⟩ (.int .i64 e)).heap[g]? = some (.cells (ac n v i e) T (0, 0)) := by
  have h1 := setRow_heap w g _ ((ac n0 v0 i0 e0).setIfInBounds 0 (.int .i64 n)) _ _ h
  rw [← setCell_rowK _ _ _ _ _ _ _ h] at h1
  have h2 := setRow_heap _ g _ (((ac n0 v0 i0 e0).setIfInBounds 0 (.int .i64 n)).setIfInBounds 1 v) _ _ h1
  rw [← setCell_rowK _ _ _ _ _ _ _ h1] at h2
  have h3 := setRow_heap _ g _ ((((ac n0 v0 i0 e0).setIfInBounds 0 (.int .i64 n)).setIfInBounds 1 v).setIfInBounds 2 (.int .i64 i)) _ _ h2
  rw [← setCell_rowK _ _ _ _ _ _ _ h2] at h3
  have h4 := setRow_heap _ g _ (((((ac n0 v0 i0 e0).setIfInBounds 0 (.int .i64 n)).setIfInBounds 1 v).setIfInBounds 2 (.int .i64 i)).setIfInBounds 3 (.int .i64 e)) _ _ h3
  rw [← setCell_rowK _ _ _ _ _ _ _ h3] at h4
  exact h4
end Go.Proofs.YtbpjdfnnlmblaaaDoor
/- The program's Add. -/
namespace Go.Proofs.YtbpjdfnnlmblaaaDoor
open Go.RowKit Go.Shelf
set_option linter.unusedSimpArgs false
set_option linter.unusedVariables false
attribute [local irreducible] Calls validK
set_option maxRecDepth 100000 in
set_option maxHeartbeats 2000000 in
theorem add_cn (nx : Int) (v : Value) (l : List K) (k : K) (w : World) (hv : RdK w v l) (hk : k.wf) (he : addErr nx l k ≠ 0) :
    Calls Tryd.prog 47 #[.agg #[.int .i64 nx, v], kv k] w fun e w' => e = .returned (.tuple #[.agg #[.int .i64 0, .slice none 0 0], .int .i64 0, .int .i64 (addErr nx l k)]) ∧ Below w.heap.size w w' := by
  have hval := fun w => valid_c k hk w
  obtain ⟨W0, hW0⟩ : ∃ W0, W0 = ((w.alloc (.cells #[.int .i64 nx, v] 37)).alloc (.cells (kc k) 48)).alloc (.cells #[.int .i64 0, .slice none 0 0] 37) := ⟨_, rfl⟩
  have hbx : ∀ w1, Below W0.heap.size W0 w1 → w1.cell? ⟨w.heap.size, 0, none⟩ = some (.int .i64 nx) ∧ w1.cell? ⟨w.heap.size, 1, none⟩ = some v ∧ w1.cell? ⟨w.heap.size + 1, 7, none⟩ = some (.int .i64 k.par) ∧
      w1.heap[w.heap.size + 1 + 1]? = some (.cells #[.int .i64 0, .slice none 0 0] 37 (0, 0)) ∧ Below w.heap.size w w1 := by
    intro w1 h
    rw [hW0] at h
    have h1 : Below ((w.alloc (.cells #[.int .i64 nx, v] 37)).alloc (.cells (kc k) 48)).heap.size ((w.alloc (.cells #[.int .i64 nx, v] 37)).alloc (.cells (kc k) 48)) w1 := below1 _ _ h
    exact ⟨boxed2 _ _ _ _ h1 0, boxed2 _ _ _ _ h1 1, boxed2' _ _ _ _ h1 7, by rw [h.block _ (by simp)]; exact kheap3_2' _ _ _ _, kbelow3 _ _ _ _ h⟩
  have HBX := Lib.hid hbx
  have HW := Lib.hid hW0
  obtain ⟨a, cap, rfl, _, _, _⟩ := hv
  clear hW0 hbx
  unfold kv kc at hval ⊢
  unfold kc at HW
  rcases addErr_parts nx l k with ⟨h1, hr⟩ | ⟨h1, h2, hr⟩ | ⟨h1, h2, h3, hr⟩ | ⟨h1, h2, h3, h4, hr⟩ | ⟨h1, h2, h3, h4, hr⟩
  case inr.inr.inr.inr => exact absurd hr he
  all_goals
    rw [h1] at hval
    rw [hr]
    clear h1 hr he
    go_enter Tryd.func47, Tryd.ntmps47
    go_wp2_with (go_at_call 52; refine (hval _).mono ?_; rintro e w1 ⟨rfl, hb⟩; rw [← HW.out] at hb; obtain ⟨n0, n1, p7, hg, hbb⟩ := HBX.out _ hb; have r0 : w1.cell? ⟨w.heap.size + 1 + 1, 0, none⟩ = some (.int .i64 0) := cell_of_row _ _ _ _ _ _ hg; have r1 : w1.cell? ⟨w.heap.size + 1 + 1, 1, none⟩ = some (.slice none 0 0) := cell_of_row _ _ _ _ _ _ hg; have g0 := frow hg 0; have g1 := frow hg 1; have HBB := Lib.hid hbb; clear hg hb hbb)
    have hle : w.heap.size ≤ w.heap.size + 1 + 1 := by omega
    refine bodyPost_ret (v := .tuple #[.agg #[.int .i64 0, .slice none 0 0], .int .i64 0, .int .i64 _]) (by simp [results, Tryd.results47, go_sem, r0, r1]) rfl ⟨rfl, ?_⟩
    exact (HBB.out.setCell (p := ⟨w.heap.size + 1 + 1, 0, none⟩) hle _).setCell (p := ⟨w.heap.size + 1 + 1, 1, none⟩) hle _
theorem RdK.clip {w : World} {a : Option Addr} {cap : Nat} {l : List K} (h : RdK w (.slice a l.length cap) l) : RdK w (.slice a l.length l.length) l := by
  obtain ⟨a', c', e, h1, h2, h3⟩ := h
  cases e
  exact ⟨a, l.length, rfl, Nat.le_refl _, by omega, h3⟩
set_option maxRecDepth 100000 in
set_option maxHeartbeats 2000000 in
theorem addKey_c (nx : Int) (v : Value) (l : List K) (k : K) (w : World) (hv : RdK w v l) (hk : k.wf) (he : addErr nx l k = 0) (hl : l.length ≤ 5000) (hnx : IntKind.i64.wrap (nx + 1) = nx + 1) :
    Calls Tryd.prog 47 #[.agg #[.int .i64 nx, v], kv k] w fun e w' => ∃ v', e = .returned (.tuple #[.agg #[.int .i64 (nx + 1), v'], .int .i64 nx, .int .i64 0]) ∧ OwnK w' w.heap.size v' (l ++ [withId k nx]) ∧ Below w.heap.size w w' := by
  have hval := fun w => valid_c k hk w
  obtain ⟨W0, hW0⟩ : ∃ W0, W0 = ((w.alloc (.cells #[.int .i64 nx, v] 37)).alloc (.cells (kc k) 48)).alloc (.cells #[.int .i64 0, .slice none 0 0] 37) := ⟨_, rfl⟩
  have hvw : RdK W0 v l := by rw [hW0]; exact ((hv.alloc _).alloc _).alloc _
  have hbx : ∀ w1, Below W0.heap.size W0 w1 → w1.cell? ⟨w.heap.size, 0, none⟩ = some (.int .i64 nx) ∧ w1.cell? ⟨w.heap.size, 1, none⟩ = some v ∧ KeyAt w1 (w.heap.size + 1) k ∧
      w1.heap[w.heap.size + 1 + 1]? = some (.cells #[.int .i64 0, .slice none 0 0] 37 (0, 0)) ∧ Below w.heap.size w w1 := by
    intro w1 h
    rw [hW0] at h
    have h1 : Below ((w.alloc (.cells #[.int .i64 nx, v] 37)).alloc (.cells (kc k) 48)).heap.size ((w.alloc (.cells #[.int .i64 nx, v] 37)).alloc (.cells (kc k) 48)) w1 := below1 _ _ h
    exact ⟨boxed2 _ _ _ _ h1 0, boxed2 _ _ _ _ h1 1, (kat2 w _ k).on h1, by rw [h.block _ (by simp)]; exact kheap3_2' _ _ _ _, kbelow3 _ _ _ _ h⟩
  have HBX := Lib.hid hbx
  have HW := Lib.hid hW0
  have HVW := Lib.hid hv
  have hszW : Hid (w.heap.size + 1 + 1 < W0.heap.size) := Lib.hid (by rw [hW0]; simp)
  obtain ⟨a, cap, rfl, hcap, hcapm, _⟩ := hv
  clear hW0 hbx hvw
  unfold kv kc at hval ⊢
  unfold kc at HW
  rcases addErr_parts nx l k with ⟨h1, hr⟩ | ⟨h1, h2, hr⟩ | ⟨h1, h2, h3, hr⟩ | ⟨h1, h2, h3, h4, hr⟩ | ⟨h1, h2, h3, h4, hr⟩
  · rw [hr] at he; cases he
  · rw [hr] at he; cases he
  · rw [hr] at he; cases he
  · rw [hr] at he; cases he
  · rw [h1] at hval
    clear h1 hr he
    go_enter Tryd.func47, Tryd.ntmps47
    go_wp2_with (go_at_call 52; refine (hval _).mono ?_; rintro e w1 ⟨rfl, hb⟩; rw [← HW.out] at hb; obtain ⟨n0, n1, hka, hg, hbb⟩ := HBX.out _ hb; have p0 : w1.cell? ⟨w.heap.size + 1, 0, none⟩ = some (.int .i64 k.id) := hka.cell 0; have p7 : w1.cell? ⟨w.heap.size + 1, 7, none⟩ = some (.int .i64 k.par) := hka.cell 7; have f0 := hka.free 0; have HG := Lib.hid hg; have HKA := Lib.hid hka; have HB1 := Lib.hid hb; have HBB := Lib.hid hbb; clear hg hka hb hbb)
    have hsz := hszW.out
    have hb1s := HB1.out.size
    obtain ⟨w2, hw2⟩ : ∃ w2, w2 = w1.setCell ⟨w.heap.size + 1, 0, none⟩ (.int .i64 nx) := ⟨_, rfl⟩
    have hw2s : w2.heap.size = w1.heap.size := by rw [hw2, setCell_size]
    have y1 : KeyAt w2 (w.heap.size + 1) (withId k nx) := by rw [hw2]; exact kat_set HKA.out nx
    have y2 : w2.heap[w.heap.size + 1 + 1]? = some (.cells #[.int .i64 0, .slice none 0 0] 37 (0, 0)) := by
      rw [hw2, setCell_block (by omega)]; exact HG.out
    have hb12 : Below (w.heap.size + 1) w1 w2 := by rw [hw2]; exact (Below.refl (w.heap.size + 1) w1).setCell (p := ⟨w.heap.size + 1, 0, none⟩) (Nat.le_refl _) _
    have y3 : w2.cell? ⟨w.heap.size, 0, none⟩ = some (.int .i64 nx) := by rw [hb12.cell (p := ⟨w.heap.size, 0, none⟩) (by show w.heap.size < _; omega)]; exact n0
    have y4 : w2.cell? ⟨w.heap.size, 1, none⟩ = some (.slice a l.length cap) := by rw [hb12.cell (p := ⟨w.heap.size, 1, none⟩) (by show w.heap.size < _; omega)]; exact n1
    have y5 : RdK w2 (.slice a l.length l.length) l := (HVW.out.on (HBB.out.trans (hb12.mono (by omega)))).clip
    have y6 : Below w.heap.size w w2 := HBB.out.trans (hb12.mono (by omega))
    rw [← hw2]
    have HF : Hid (∀ w3, Below w2.heap.size w2 w3 → w3.cell? ⟨w.heap.size, 0, none⟩ = some (.int .i64 nx) ∧ w3.cell? ⟨w.heap.size, 1, none⟩ = some (.slice a l.length cap) ∧ Nine w3 (w.heap.size + 1) 0 (withId k nx)) :=
      Lib.hid (fun w3 h3 => ⟨by rw [h3.cell (p := ⟨w.heap.size, 0, none⟩) (by show w.heap.size < _; omega)]; exact y3, by rw [h3.cell (p := ⟨w.heap.size, 1, none⟩) (by show w.heap.size < _; omega)]; exact y4, (y1.on h3).nine⟩)
    have HQ : Hid (∀ w3, Below w2.heap.size w2 w3 → w3.heap[w.heap.size + 1 + 1]? = some (.cells #[.int .i64 0, .slice none 0 0] 37 (0, 0))) := Lib.hid (fun w3 h3 => by rw [h3.block _ (by omega)]; exact y2)
    unfold Nine at HF
    simp only [Nat.zero_add] at HF
    have HRD0 := Lib.hid y5
    have HB6 := Lib.hid y6
    have hb0 := HF.out w2 (Below.refl _ _)
    obtain ⟨z0, z1, x0, x1, x2, x3, x4, x5, x6, x7, x8⟩ := hb0
    have l1 : w.heap.size < w2.heap.size := by omega
    have l2 : w.heap.size + 1 < w2.heap.size := by omega
    have l3 : w.heap.size + 1 + 1 < w2.heap.size := by omega
    have ne1 : w.heap.size + 1 + 1 ≠ w.heap.size := by omega
    have ne2 : w.heap.size ≠ w.heap.size + 1 + 1 := by omega
    have HRM : Hid (l.length + 1 ≤ 1000000) := Lib.hid (by omega)
    have HCAP := Lib.hid hcap
    have HCAPM := Lib.hid hcapm
    clear y1 y2 y3 y4 y5 y6 hb12 hcap hcapm n0 n1 p0 p7 f0 hw2s
    clear hw2
    go_region_held3 (fun w' => w'.cell? ⟨w.heap.size, 0, none⟩ = some (.int .i64 nx) ∧ w'.cell? ⟨w.heap.size, 1, none⟩ = some (.slice a l.length cap) ∧ w'.cell? ⟨w.heap.size + 1, 0, none⟩ = some (.int .i64 (withId k nx).id) ∧ w'.cell? ⟨w.heap.size + 1, 1, none⟩ = some (.int .i64 (withId k nx).ty) ∧ w'.cell? ⟨w.heap.size + 1, 2, none⟩ = some (.string ⟨(withId k nx).val.toArray⟩) ∧
        w'.cell? ⟨w.heap.size + 1, 3, none⟩ = some (.int .i64 (withId k nx).uses) ∧ w'.cell? ⟨w.heap.size + 1, 4, none⟩ = some (.int .i64 (withId k nx).start) ∧ w'.cell? ⟨w.heap.size + 1, 5, none⟩ = some (.int .i64 (withId k nx).fin) ∧
        w'.cell? ⟨w.heap.size + 1, 6, none⟩ = some (.int .i64 (withId k nx).ver) ∧ w'.cell? ⟨w.heap.size + 1, 7, none⟩ = some (.int .i64 (withId k nx).par) ∧ w'.cell? ⟨w.heap.size + 1, 8, none⟩ = some (.bool (withId k nx).raw))
      (first
        | go_keep
        | exact HF.out _ (Below.refl _ _)
        | exact HF.out _ ((below_drewN 1 ((Below.refl w2.heap.size w2).alloc (Nat.le_refl _) _)).trans (hb'.mono (by simp))))
      ((first
        | (refine step_grow_k rfl (.tmp 38) (.tmp 40) rfl a l rfl ((HRD0.out.alloc _).drew 1) ⟨w2.heap.size, 0, none⟩ 1 1 [withId k nx] rfl rfl (by decide) (one_stepK w2 (withId k nx)) HRM.out ?_; intro v' w' ho' hb'; have HRD := Lib.hid ho'; have hrd := ho'.rd; clear ho'; obtain ⟨va, vcap, rfl, _, _, _⟩ := hrd; have hbw := (below_drewN 1 ((Below.refl w2.heap.size w2).alloc (Nat.le_refl _) (.cells (kc (withId k nx)) 48))).trans (hb'.mono (by simp)); have qr := HQ.out w' hbw; have HBF := Lib.hid (HB6.out.trans (hbw.mono (by omega))); have r0 : w'.cell? ⟨w.heap.size + 1 + 1, 0, none⟩ = some (.int .i64 0) := cell_of_row _ _ _ _ _ _ qr; have r1 : w'.cell? ⟨w.heap.size + 1 + 1, 1, none⟩ = some (.slice none 0 0) := cell_of_row _ _ _ _ _ _ qr; have g0 := frow qr 0; have g1 := frow qr 1; clear qr hbw)
        | (go_at_call 80; refine (clip_k _ _ _ _ HCAP.out HCAPM.out).mono ?_; rintro e wf ⟨rfl, hwf⟩; rw [hwf]; clear hwf)))
    all_goals
      go_wp2
      have hle : w.heap.size ≤ w.heap.size + 1 + 1 := by omega
      have hs := hszW.out
      refine bodyPost_ret (v := .tuple #[.agg #[.int .i64 (nx + 1), .slice va (l.length + 1) vcap], .int .i64 nx, .int .i64 0]) (by simp [results, Tryd.results47, go_sem, r0, r1]; rfl) rfl ⟨_, rfl, ?_, ?_⟩
      · exact ownK_own1 (ownK_set (ownK_set HRD.out (by simp; omega)) (by simp; omega)) (by simp; omega)
      · exact (HBF.out.setCell (p := ⟨w.heap.size + 1 + 1, 0, none⟩) hle _).setCell (p := ⟨w.heap.size + 1 + 1, 1, none⟩) hle _
end Go.Proofs.YtbpjdfnnlmblaaaDoor
