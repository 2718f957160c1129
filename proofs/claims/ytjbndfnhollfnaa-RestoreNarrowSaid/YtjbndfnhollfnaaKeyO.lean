/- The program's Admit. -/
import Derived.Test.YtjbndfnhollfnaaKeyN
namespace Go.Proofs.Ytjbndfnhollfnaa
open Go.RowKit Go.Shelf
set_option linter.unusedSimpArgs false
set_option linter.unusedVariables false
theorem part_dg (cs : Array Value) (off : Nat) (w : World) : (part 26 cs off).run Try.prog w = .ok (.agg (cs.extract off (off + 16))) w := by
  have h1 : (isAgg 26).run Try.prog w = .ok true w := by simp [isAgg, run_underlying Try.underlying26]
  have h2 : (sizeOf 26).run Try.prog w = .ok 16 w := by
    cases hq : Try.prog.info? 26 with
    | none => have := info_d; rw [hq] at this; cases this
    | some i => have h1 := info_d; rw [hq] at h1; simp at h1; simp [sizeOf, typeInfo, hq, h1]
  simp [part, h1, h2]
theorem part_in (cs : Array Value) (off : Nat) (v : Value) (h : cs[off]? = some v) (w : World) : (part 3 cs off).run Try.prog w = .ok v w := by
  have h1 : (isAgg 3).run Try.prog w = .ok false w := by simp [isAgg, run_underlying Try.underlying3]
  simp [part, h1, h]
def pEq (p q : PK) : Bool := dEq p.dom q.dom && (dEq p.pol q.pol && ((p.fw == q.fw) && (p.num == q.num)))
theorem ex_dom (p : PK) : (pc p).extract 0 (0 + 16) = drow p.dom := rfl
theorem ex_pol (p : PK) : (pc p).extract 16 (16 + 16) = drow p.pol := rfl
theorem fields_p : (Try.prog.fieldsOf 32).toList.map (fun f => (f.name == "_", f.type, f.offset)) = [(false, 26, 0), (false, 26, 16), (false, 3, 32), (false, 3, 33)] := by kernel_rfl
theorem eqf_step (d : Nat) (xs ys : Array Value) (f : Field) (fs : List Field) (hn : f.name ≠ "_") (w : World) (a b : Value) (r : Bool) (h1 : (part f.type xs f.offset).run Try.prog w = .ok a w) (h2 : (part f.type ys f.offset).run Try.prog w = .ok b w)
    (h3 : (Op.equalIn d f.type a b).run Try.prog w = .ok r w) : (Op.eqFields d xs ys (f :: fs)).run Try.prog w = if r = true then (Op.eqFields d xs ys fs).run Try.prog w else .ok false w := by
  simp only [Op.eqFields, hn, ne_eq, not_false_eq_true, if_true, Sem.run_bind, h1, h2, h3, Result.andThen_ok]
  cases r <;> rfl
theorem neq_p (p q : PK) (w : World) : (binOp .neq 32 (.agg (pc p)) (.agg (pc q))).run Try.prog w = .ok (.bool (!pEq p q)) w := by
  rw [run_neq_struct]
  have ht : Try.prog.underlying 32 = some (.struct (Try.prog.fieldsOf 32)) := by kernel_rfl
  have hp : Try.prog.stoodInHeld 32 = false := by kernel_rfl
  rw [show (10000 : Nat) = 9999 + 1 from rfl, run_equalIn_struct w 9999 _ _ _ ht hp]
  have hf := fields_p
  generalize (Try.prog.fieldsOf 32).toList = fs at hf
  rcases fs with _ | ⟨f1, _ | ⟨f2, _ | ⟨f3, _ | ⟨f4, _ | ⟨f5, fs⟩⟩⟩⟩⟩
  · simp at hf
  · simp at hf
  · simp at hf
  · simp at hf
  · simp only [List.map_cons, List.map_nil, List.cons.injEq, Prod.mk.injEq, and_true] at hf
    obtain ⟨⟨a1, a2, a3⟩, ⟨b1, b2, b3⟩, ⟨c1, c2, c3⟩, ⟨d1, d2, d3⟩⟩ := hf
    have na : f1.name ≠ "_" := by simpa using a1
    have nb : f2.name ≠ "_" := by simpa using b1
    have nc : f3.name ≠ "_" := by simpa using c1
    have nd : f4.name ≠ "_" := by simpa using d1
    have e1 := equalIn_d 9997 p.dom q.dom w
    have e2 := equalIn_d 9997 p.pol q.pol w
    have e3 : (Op.equalIn 9999 3 (.int .i64 p.fw) (.int .i64 q.fw)).run Try.prog w = .ok (p.fw == q.fw) w := run_equalIn_int w 9998 _ _ _ _ _ Try.underlying3
    have e4 : (Op.equalIn 9999 3 (.int .i64 p.num) (.int .i64 q.num)).run Try.prog w = .ok (p.num == q.num) w := run_equalIn_int w 9998 _ _ _ _ _ Try.underlying3
    rw [eqf_step 9999 _ _ f1 _ na w (.agg (drow p.dom)) (.agg (drow q.dom)) (dEq p.dom q.dom) (by rw [a2, a3, part_dg, ex_dom]) (by rw [a2, a3, part_dg, ex_dom]) (by rw [a2]; exact e1),
      eqf_step 9999 _ _ f2 _ nb w (.agg (drow p.pol)) (.agg (drow q.pol)) (dEq p.pol q.pol) (by rw [b2, b3, part_dg, ex_pol]) (by rw [b2, b3, part_dg, ex_pol]) (by rw [b2]; exact e2),
      eqf_step 9999 _ _ f3 _ nc w (.int .i64 p.fw) (.int .i64 q.fw) (p.fw == q.fw) (by rw [c2, c3]; exact part_in _ _ _ (pc_32 p) w) (by rw [c2, c3]; exact part_in _ _ _ (pc_32 q) w) (by rw [c2]; exact e3),
      eqf_step 9999 _ _ f4 _ nd w (.int .i64 p.num) (.int .i64 q.num) (p.num == q.num) (by rw [d2, d3]; exact part_in _ _ _ (pc_33 p) w) (by rw [d2, d3]; exact part_in _ _ _ (pc_33 q) w) (by rw [d2]; exact e4)]
    unfold pEq
    cases dEq p.dom q.dom <;> cases dEq p.pol q.pol <;> cases (p.fw == q.fw) <;> cases (p.num == q.num) <;> rfl
  · simp at hf
end Go.Proofs.Ytjbndfnhollfnaa
