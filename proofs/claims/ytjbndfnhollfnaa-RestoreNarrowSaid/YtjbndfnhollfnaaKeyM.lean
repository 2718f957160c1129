/- Digests and places: loads and equality. -/
import Derived.Test.YtjbndfnhollfnaaKeyL
import Derived.Deep.MidRow
import Derived.ChangeKeysEq
namespace Go.Proofs.Ytjbndfnhollfnaa
open Go.RowKit Go.Shelf
set_option linter.unusedSimpArgs false
set_option linter.unusedVariables false
/-- where a backup is restored -/
structure PK where
  dom : List UInt8
  pol : List UInt8
  fw : Int
  num : Int
def drow (d : List UInt8) : Array Value := #[dcell d 0, dcell d 1, dcell d 2, dcell d 3, dcell d 4, dcell d 5, dcell d 6, dcell d 7, dcell d 8, dcell d 9, dcell d 10, dcell d 11, dcell d 12, dcell d 13, dcell d 14, dcell d 15]
def pc (p : PK) : Array Value := #[dcell p.dom 0, dcell p.dom 1, dcell p.dom 2, dcell p.dom 3, dcell p.dom 4, dcell p.dom 5, dcell p.dom 6, dcell p.dom 7, dcell p.dom 8, dcell p.dom 9, dcell p.dom 10, dcell p.dom 11, dcell p.dom 12, dcell p.dom 13, dcell p.dom 14, dcell p.dom 15, dcell p.pol 0, dcell p.pol 1, dcell p.pol 2, dcell p.pol 3, dcell p.pol 4, dcell p.pol 5, dcell p.pol 6, dcell p.pol 7, dcell p.pol 8, dcell p.pol 9, dcell p.pol 10, dcell p.pol 11, dcell p.pol 12, dcell p.pol 13, dcell p.pol 14, dcell p.pol 15, .int .i64 p.fw, .int .i64 p.num]
theorem pc_0 (p : PK) : (pc p)[0]? = some (dcell p.dom 0) := rfl
theorem pc_1 (p : PK) : (pc p)[1]? = some (dcell p.dom 1) := rfl
theorem pc_2 (p : PK) : (pc p)[2]? = some (dcell p.dom 2) := rfl
theorem pc_3 (p : PK) : (pc p)[3]? = some (dcell p.dom 3) := rfl
theorem pc_4 (p : PK) : (pc p)[4]? = some (dcell p.dom 4) := rfl
theorem pc_5 (p : PK) : (pc p)[5]? = some (dcell p.dom 5) := rfl
theorem pc_6 (p : PK) : (pc p)[6]? = some (dcell p.dom 6) := rfl
theorem pc_7 (p : PK) : (pc p)[7]? = some (dcell p.dom 7) := rfl
theorem pc_8 (p : PK) : (pc p)[8]? = some (dcell p.dom 8) := rfl
theorem pc_9 (p : PK) : (pc p)[9]? = some (dcell p.dom 9) := rfl
theorem pc_10 (p : PK) : (pc p)[10]? = some (dcell p.dom 10) := rfl
theorem pc_11 (p : PK) : (pc p)[11]? = some (dcell p.dom 11) := rfl
theorem pc_12 (p : PK) : (pc p)[12]? = some (dcell p.dom 12) := rfl
theorem pc_13 (p : PK) : (pc p)[13]? = some (dcell p.dom 13) := rfl
theorem pc_14 (p : PK) : (pc p)[14]? = some (dcell p.dom 14) := rfl
theorem pc_15 (p : PK) : (pc p)[15]? = some (dcell p.dom 15) := rfl
theorem pc_16 (p : PK) : (pc p)[16]? = some (dcell p.pol 0) := rfl
theorem pc_17 (p : PK) : (pc p)[17]? = some (dcell p.pol 1) := rfl
theorem pc_18 (p : PK) : (pc p)[18]? = some (dcell p.pol 2) := rfl
theorem pc_19 (p : PK) : (pc p)[19]? = some (dcell p.pol 3) := rfl
theorem pc_20 (p : PK) : (pc p)[20]? = some (dcell p.pol 4) := rfl
theorem pc_21 (p : PK) : (pc p)[21]? = some (dcell p.pol 5) := rfl
theorem pc_22 (p : PK) : (pc p)[22]? = some (dcell p.pol 6) := rfl
theorem pc_23 (p : PK) : (pc p)[23]? = some (dcell p.pol 7) := rfl
theorem pc_24 (p : PK) : (pc p)[24]? = some (dcell p.pol 8) := rfl
theorem pc_25 (p : PK) : (pc p)[25]? = some (dcell p.pol 9) := rfl
theorem pc_26 (p : PK) : (pc p)[26]? = some (dcell p.pol 10) := rfl
theorem pc_27 (p : PK) : (pc p)[27]? = some (dcell p.pol 11) := rfl
theorem pc_28 (p : PK) : (pc p)[28]? = some (dcell p.pol 12) := rfl
theorem pc_29 (p : PK) : (pc p)[29]? = some (dcell p.pol 13) := rfl
theorem pc_30 (p : PK) : (pc p)[30]? = some (dcell p.pol 14) := rfl
theorem pc_31 (p : PK) : (pc p)[31]? = some (dcell p.pol 15) := rfl
theorem pc_32 (p : PK) : (pc p)[32]? = some (.int .i64 p.fw) := rfl
theorem pc_33 (p : PK) : (pc p)[33]? = some (.int .i64 p.num) := rfl
/-- equal digests -/
def dEq (x y : List UInt8) : Bool := (List.range 16).all fun i => byteAt x i == byteAt y i
theorem part_d (d : List UInt8) (i : Nat) (hi : i < 16) (w : World) : (part 5 (drow d) (i * 1)).run Try.prog w = .ok (dcell d i) w := by
  have e : drow d = ((List.range 16).map (dcell d)).toArray := rfl
  have h : (drow d)[i]? = some (dcell d i) := by rw [e]; simp [hi]
  rw [Nat.mul_one]
  simp [part, go_sem, h]
theorem eq_d (d : Nat) (x y : List UInt8) (w : World) : ∀ (is : List Nat), (∀ i ∈ is, i < 16) → (Op.eqItems (d + 1) 5 1 (drow x) (drow y) is).run Try.prog w = .ok (is.all fun i => byteAt x i == byteAt y i) w := by
  intro is
  induction is with
  | nil => intro _; rfl
  | cons i is ih =>
    intro h
    have h1 := part_d x i (h i (by simp)) w
    have h2 := part_d y i (h i (by simp)) w
    have h3 : (Op.equalIn (d + 1) 5 (dcell x i) (dcell y i)).run Try.prog w = .ok (B8 (byteAt x i) == B8 (byteAt y i)) w := run_equalIn_int w d _ _ _ _ _ Try.underlying5
    have h4 : (B8 (byteAt x i) == B8 (byteAt y i)) = (byteAt x i == byteAt y i) := by
      by_cases e : byteAt x i = byteAt y i
      · rw [e]; simp
      · rw [beq_eq_false_iff_ne.2 e, beq_eq_false_iff_ne]
        exact fun e2 => e (u8_inj e2)
    simp only [Op.eqItems, Sem.run_bind, h1, h2, h3, Result.andThen_ok, h4, List.all_cons]
    cases byteAt x i == byteAt y i with
    | true => simpa using ih (fun j hj => h j (by simp [hj]))
    | false => rfl
theorem equalIn_d (d : Nat) (x y : List UInt8) (w : World) : (Op.equalIn (d + 2) 26 (.agg (drow x)) (.agg (drow y))).run Try.prog w = .ok (dEq x y) w := by
  obtain ⟨i0, hi⟩ : ∃ i, Try.prog.info? 5 = some i := Option.isSome_iff_exists.1 (by kernel_rfl)
  rw [show d + 2 = (d + 1) + 1 from rfl, run_equalIn_array w (d + 1) (drow x) (drow y) Try.underlying26 hi]
  have hc : Try.prog.cellsOf 5 = 1 := by kernel_rfl
  rw [hc]
  exact eq_d d x y w (List.range 16) (fun i hi => List.mem_range.1 hi)
theorem neq_d (x y : List UInt8) (w : World) : (binOp .neq 26 (.agg (drow x)) (.agg (drow y))).run Try.prog w = .ok (.bool (!dEq x y)) w := by
  rw [run_neq_struct]
  rw [show (10000 : Nat) = 9998 + 2 from rfl, equalIn_d 9998 x y]
  rfl
end Go.Proofs.Ytjbndfnhollfnaa
