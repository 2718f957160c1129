/- A stream that is hashed: its cells; Begin. -/
import Derived.Test.YtackbjbmadkkhaaDoorHashC
import Derived.Great.BuildSlice
namespace Go.Proofs.YtackbjbmadkkhaaDoor
open Go.RowKit
set_option linter.unusedSimpArgs false
set_option linter.unusedVariables false
/-- the cells of a stream: the hash value, the last block, the length -/
def stc (s : HS) (bk : List UInt8) (n : Nat) : Array Value := ((hs s).map (fun x => Value.int .u32 (W32 x)) ++ bk.map (fun x => Value.int .u8 (B8 x)) ++ [Value.int .u64 n]).toArray
theorem stc_size (s : HS) (bk : List UInt8) (n : Nat) (h : bk.length = 64) : (stc s bk n).size = 73 := by simp [stc, hs_len, h]
theorem stc_one (s : HS) (bk : List UInt8) (n : Nat) : ((stc s bk n).all fun u => u.oneCell') = true := by
  have h1 : ∀ x : UInt32, (Value.int .u32 (W32 x)).oneCell' = true := fun _ => rfl
  have h2 : ∀ x : UInt8, (Value.int .u8 (B8 x)).oneCell' = true := fun _ => rfl
  have h3 : (Value.int .u64 n).oneCell' = true := rfl
  simp [stc, h1, h2, h3]
theorem stc_s (s : HS) (bk : List UInt8) (n i : Nat) (hi : i < 8) : (stc s bk n)[i]? = some (.int .u32 (W32 (w16 (hs s) i))) := by
  have h : i < (hs s).length := by rw [hs_len]; exact hi
  simp only [stc, List.getElem?_toArray, List.append_assoc]
  rw [List.getElem?_append_left (by simpa using h), List.getElem?_map, List.getElem?_eq_getElem h, Option.map_some]
  simp [w16, h]
theorem stc_b (s : HS) (bk : List UInt8) (n i : Nat) (hi : i < bk.length) : (stc s bk n)[8 + i]? = some (.int .u8 (B8 (byteAt bk i))) := by
  simp only [stc, List.getElem?_toArray, List.append_assoc]
  rw [List.getElem?_append_right (by simp [hs_len]), List.length_map, hs_len, Nat.add_sub_cancel_left, List.getElem?_append_left (by simpa using hi), List.getElem?_map, List.getElem?_eq_getElem hi, Option.map_some]
  simp [byteAt, hi]
theorem stc_n (s : HS) (bk : List UInt8) (n : Nat) (h : bk.length = 64) : (stc s bk n)[72]? = some (.int .u64 n) := by
  simp only [stc, List.getElem?_toArray, List.append_assoc]
  rw [List.getElem?_append_right (by simp [hs_len]), List.length_map, hs_len, List.getElem?_append_right (by simp [h]), List.length_map, h]
  rfl
def zb : List UInt8 := List.replicate 64 0
def z73 : HS := ⟨0, 0, 0, 0, 0, 0, 0, 0⟩
theorem zero_st' : (Tryd.prog.info? 63).map (·.zero) = some (some (.agg (stc z73 zb 0))) := by kernel_rfl
theorem zero_st (w : World) : (zeroValue 63).run Tryd.prog w = .ok (.agg (stc z73 zb 0)) w := by
  have h := zero_st'
  generalize stc z73 zb 0 = L at h ⊢
  cases hq : Tryd.prog.info? 63 with
  | none => rw [hq] at h; cases h
  | some i =>
    rw [hq] at h
    simp at h
    simp [zeroValue, typeInfo, hq, h]
theorem info73 : (Tryd.prog.info? 63).map (·.size) = some 73 := by kernel_rfl
theorem size73 (s : HS) (bk : List UInt8) (n : Nat) (h : bk.length = 64) : (Tryd.prog.info? 63).map (·.size) = some (stc s bk n).size := by rw [stc_size _ _ _ h]; exact info73
/-- bytes are laid into a block, round and round -/
def fillB : List UInt8 → Nat → List UInt8 → List UInt8
  | bk, _, [] => bk
  | bk, n, c :: t => fillB (bk.set (n % 64) c) (n + 1) t
/-- the last block of a stream whose message is M -/
def tailB (M : List UInt8) : List UInt8 := fillB zb 0 M
/-- the value of a stream whose message is M -/
def stv (M : List UInt8) : Value := .agg (stc (blks M (M.length / 64)) (tailB M) M.length)
/-- a stream whose message is M -/
def StV (M : List UInt8) (v : Value) : Prop :=
  ∃ bk : List UInt8, v = .agg (stc (blks M (M.length / 64)) bk M.length) ∧ bk.length = 64 ∧ bk.take (M.length % 64) = M.drop (64 * (M.length / 64)) ∧ bk = tailB M
theorem StV.eq {M : List UInt8} {v : Value} (h : StV M v) : v = stv M := by
  obtain ⟨bk, rfl, _, _, rfl⟩ := h
  rfl
theorem fillB_append (x y : List UInt8) (bk : List UInt8) (n : Nat) : fillB bk n (x ++ y) = fillB (fillB bk n x) (n + x.length) y := by
  induction x generalizing bk n with
  | nil => rfl
  | cons c x ih => rw [List.cons_append, fillB, fillB, ih, List.length_cons, show n + 1 + x.length = n + (x.length + 1) by omega]
theorem fillB_len (x : List UInt8) (bk : List UInt8) (n : Nat) : (fillB bk n x).length = bk.length := by
  induction x generalizing bk n with
  | nil => rfl
  | cons c x ih => rw [fillB, ih, List.length_set]
theorem tailB_len (M : List UInt8) : (tailB M).length = 64 := fillB_len _ _ _
theorem StV.nil : StV [] (.agg (stc iv zb 0)) := ⟨zb, rfl, rfl, rfl, rfl⟩
theorem res_st {fn : Func} {p : Tmp} (h : fn.results = #[.cell p 63]) (tmps : Array Value) (w : World) (g : Nat) (s : HS) (bk : List UInt8) (n : Nat) (hb : bk.length = 64)
    (hp : tmps.getD p undef = .pointer (some ⟨g, 0, none⟩)) (hg : w.heap[g]? = some (.cells (stc s bk n) 63 (0, 0))) : (results fn tmps).run Tryd.prog w = .ok (.agg (stc s bk n)) w :=
  results_cell_row h tmps w g _ (stc s bk n) (0, 0) _ hp hg Tryd.underlying63 rfl (size73 _ _ _ hb)
/-- a struct is built of one part -/
theorem bld_1 {ops : Array Oper} {rest : List Oper} {o : Oper} {a : Act} {w : World} {Q : Exit → Act → World → Prop} (T : TypeId) (i : Nat) (v : Value) (cs : Array Value) (hb : Tryd.prog.built T [(i, v)] = some cs) (hg : o.guard = none) (x : Operand) (ho : o.op = .build T #[(i, x)])
    (hx : a.eval x = v) (h : wpList Tryd.prog ops Q rest (a.put o.dst (.agg cs)) w) : wpList Tryd.prog ops Q (o :: rest) a w := by
  have e : (Tryd.prog.built T ((#[(i, x)] : Array (Nat × Operand)).map fun (i, x) => (i, a.eval x)).toList) = some cs := by
    simp only [List.map_toArray, List.map_cons, List.map_nil, hx]
    exact hb
  refine wpList_build hg T _ ho (by rw [e]; rfl) ?_
  rw [e]
  exact h
theorem built_iv : Tryd.prog.built 63 [(0, .agg #[.int .u32 1779033703, .int .u32 3144134277, .int .u32 1013904242, .int .u32 2773480762, .int .u32 1359893119, .int .u32 2600822924, .int .u32 528734635, .int .u32 1541459225])] = some (stc iv zb 0) := by kernel_rfl
attribute [local irreducible] Calls stc blks
set_option maxRecDepth 100000 in
set_option maxHeartbeats 2000000 in
theorem begin_c (w : World) : Calls Tryd.prog 33 #[] w fun e w' => e = .returned (.agg (stc iv zb 0)) ∧ Below w.heap.size w w' := by
  have hz := zero_st
  go_enter Tryd.func33, Tryd.ntmps33
  go_wp2_with (first
    | (refine bld_1 63 0 _ _ built_iv rfl (.tmp 1) rfl rfl ?_)
    | (refine st_T (T := 63) (stc iv zb 0) (size73 _ _ _ rfl) rfl (.tmp 0) (.tmp 2) rfl w.heap.size (stc z73 zb 0) rfl rfl (stc_one _ _ _) (by rw [stc_size _ _ _ rfl, stc_size _ _ _ rfl]) (heap_alloc_new w _) ?_; intro w2 hg2 ho2 hb2))
  (try simp only [Exit.inBlock, Exit.then])
  refine bodyPost_ret (res_st rfl _ _ w.heap.size iv zb 0 rfl rfl hg2) rfl ⟨rfl, ?_⟩
  exact ((Below.refl _ w).alloc (Nat.le_refl _) _).trans (hb2 _ (Nat.le_refl _))
end Go.Proofs.YtackbjbmadkkhaaDoor
