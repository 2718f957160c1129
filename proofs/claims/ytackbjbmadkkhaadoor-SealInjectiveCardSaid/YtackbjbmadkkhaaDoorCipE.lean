/- Bytes, blocks. -/
import Derived.Test.YtackbjbmadkkhaaDoorCipC
import Derived.Test.YtackbjbmadkkhaaDoorCipD
namespace Go.Proofs.YtackbjbmadkkhaaDoor
open Go.RowKit
set_option linter.unusedSimpArgs false
set_option linter.unusedVariables false

/-- a slice of bytes of one's own -/
def bv (l : List UInt8) : List Value := l.map fun b => .int .u8 (B8 b)
def OwnB (w : World) (base : Nat) (v : Value) (l : List UInt8) : Prop := w.ownsRow base 5 1 v l.length (bv l)
theorem bv_one (l : List UInt8) : ∀ u ∈ bv l, u.oneCell' = true := by
  intro u hu
  obtain ⟨b, _, rfl⟩ := List.mem_map.1 hu
  rfl
theorem info5 : (Tryd.prog.info? 5).map (fun i => (i.zero, i.size, i.bytes)) = some (some (.int .u8 0), 1, 1) := by kernel_rfl
/-- append of bytes that lie somewhere to a slice of one's own -/
theorem app_b {w : World} {ops : Array Oper} {rest : List Oper} {o : Oper} {a : Act} {Q : Exit → Act → World → Prop} (hgd : o.guard = none) (s x : Operand)
    (ho : o.op = .call { callee := .builtin .append, args := #[s, x], argTypes := #[35, 35] })
    (base : Nat) (v : Value) (l : List UInt8) (hs : a.eval s = v) (hown : OwnB w base v l) (ad : Addr) (m c : Nat) (news : List UInt8) (hx : a.eval x = .slice (some ad) m c) (hl : news.length = m)
    (hnews : ∀ j u, (bv news)[j]? = some u → w.cell? (ad.add j) = some u) (hsz : l.length + m ≤ 1000000000) (hbase : base ≤ w.heap.size)
    (h : ∀ v' w', OwnB w' base v' (l ++ news) → Below base w w' → wpList Tryd.prog ops Q rest (a.put o.dst v') w') : wpList Tryd.prog ops Q (o :: rest) a w := by
  obtain ⟨i0, hi, hz0, hz1, hz2⟩ := info_parts info5
  refine wpList_append_own w hgd s x 35 ho base 5 i0 (.int .u8 0) 1 1 Tryd.underlying35 hi hz0 hz1 hz2 rfl (by decide) v l.length (bv l) hs hown ad m c (bv news) hx (by simp [bv, hl]) hnews (bv_one news)
    (by unfold maxLen; omega) (by omega) hbase ?_
  intro v' w' h1 h2 _
  refine h v' w' ?_ ((Below.refl base w).grown h2 hbase (fun k hk => (hown.lt k hk).1))
  unfold OwnB
  rw [List.length_append, hl]
  have : bv (l ++ news) = bv l ++ bv news := by simp [bv]
  rw [this]
  exact h1

theorem cell_new (w : World) (cs : Array Value) (T : TypeId) (j : Nat) (u : Value) (h : cs.toList[j]? = some u) : (w.alloc (.cells cs T)).cell? ((⟨w.heap.size, 0, none⟩ : Addr).add j) = some u := by
  have hadd : (⟨w.heap.size, 0, none⟩ : Addr).add j = ⟨w.heap.size, j, none⟩ := by unfold Addr.add; split <;> simp_all
  rw [hadd, cell_of_row _ _ j cs T (0, 0) (heap_alloc_new w _), ← Array.getElem?_toList]
  exact h
theorem OwnB.below {w w' : World} {base : Nat} {v : Value} {l : List UInt8} (h : OwnB w base v l) (hb : Below w.heap.size w w') : OwnB w' base v l := by
  refine ⟨h.1, ?_⟩
  rcases h.2 with hn | ⟨g, cap, cur, rfl, hg, hgg, r⟩
  · exact .inl hn
  · exact .inr ⟨g, cap, cur, rfl, hg, by rw [hb.block _ (Array.getElem?_eq_some_iff.1 hgg).1]; exact hgg, r⟩
theorem OwnB.nil (w : World) (base : Nat) : OwnB w base (.slice none 0 0) [] := World.ownsRow_nil w base _ 1
theorem strOf_u8 (l : List UInt8) : strOfNums (l.map B8) = ⟨l.toArray⟩ := by
  unfold strOfNums
  rw [List.map_map]
  congr 2
  have : ((fun n : Int => UInt8.ofNat n.toNat) ∘ B8) = id := by
    funext x
    simp [B8]
  rw [this, List.map_id]
theorem conv_own {w : World} {base : Nat} {v : Value} {l : List UInt8} (h : OwnB w base v l) : (convert 35 9 v).run Tryd.prog w = .ok (.string ⟨l.toArray⟩) w := by
  rcases h.2 with ⟨rfl, hn⟩ | ⟨g, cap, cur, rfl, _, hgg, h1, _, h2, h3⟩
  · have hl : l = [] := List.length_eq_zero_iff.1 hn
    subst hl
    exact run_convert_bytes_nil w _ _ Tryd.underlying35 Tryd.underlying5 _ _ _ Tryd.underlying9
  · rw [← strOf_u8 l]
    refine run_convert_bytes_arg w _ _ Tryd.underlying35 Tryd.underlying5 g 0 _ _ _ (by simp) (fun i hi => ?_) _ Tryd.underlying9
    rw [Nat.zero_add, cell_of_row _ _ _ _ _ _ hgg]
    have e : (cur.toList.take (l.length * 1))[i]? = (bv l)[i]? := by rw [h3]
    rw [List.getElem?_take, if_pos (by omega), Array.getElem?_toList] at e
    rw [e]
    simp [bv, List.getD_eq_getElem?_getD, List.getElem?_eq_getElem hi]

set_option maxHeartbeats 1000000 in
theorem put_c (w : World) (base : Nat) (v : Value) (l : List UInt8) (x : UInt32) (hown : OwnB w base v l) (hsz : l.length ≤ 999999990) (hbase : base ≤ w.heap.size) :
    Calls Tryd.prog 57 #[v, .int .u32 (W32 x)] w fun e w' => ∃ v', e = .returned v' ∧ OwnB w' base v' (l ++ C3.bytes x) ∧ Below base w w' := by
  go_enter Tryd.func57, Tryd.ntmps57
  go_wp2_with (at_builtin; refine app_b rfl (.tmp 5) (.tmp 17) rfl base v l rfl (World.ownsRow.alloc hown _) ⟨w.heap.size, 0, none⟩ 4 4 (C3.bytes x) rfl rfl ?h1 ?h2 ?h3 ?h4)
  case h4 =>
    intro v' w' ho hb
    go_wp2
    go_ret
    exact ⟨v', rfl, ho, ((Below.refl _ _).alloc hbase _).trans hb⟩
  case h1 =>
    intro j u hj
    exact cell_new _ _ _ _ _ hj
  case h2 => omega
  case h3 => simp; omega

theorem mk_b {w : World} {ops : Array Oper} {rest : List Oper} {o : Oper} {a : Act} {Q : Exit → Act → World → Prop} (hgd : o.guard = none) (l c : Operand) (hop : o.op = Op.makeSlice 35 l c)
    (base : Nat) (n : Nat) (hl : a.eval l = .int .i64 0) (hc : a.eval c = .int .i64 (n : Int)) (hn : n ≤ 1000000000) (hbase : base ≤ w.heap.size)
    (h : ∀ v w', OwnB w' base v [] → Below base w w' → wpList Tryd.prog ops Q rest (a.put o.dst v) w') : wpList Tryd.prog ops Q (o :: rest) a w := by
  obtain ⟨i0, hi, hz0, hz1, hz2⟩ := info_parts info5
  refine wpList_make_own w hgd l c 35 hop base 5 i0 (.int .u8 0) 1 Tryd.underlying35 hi hz0 hz1 .i64 .i64 n n hl hc rfl (by rw [hz2]; omega) (by unfold maxLen; omega) hbase ?_
  intro w' h1 h2
  exact h _ w' h1 ((Below.refl base w).grown h2 hbase (fun k hk => by cases hk))

theorem size22e : (Tryd.prog.info? 39).map (·.size) = some 1 := by kernel_rfl
theorem idx_row (s : List UInt32) (hs : s.length = 16) (k : Nat) (hk : k < 16) (w : World) : (Instr.index 71 (.agg (row s)) (.int .i64 k)).run Tryd.prog w = .ok (.int .u32 (W32 (w16 s k))) w := by
  have hz : (sizeOf 39).run Tryd.prog w = .ok 1 w := by
    cases hq : Tryd.prog.info? 39 with
    | none => have := size22e; rw [hq] at this; cases this
    | some i => have h1 := size22e; rw [hq] at h1; simp at h1; simp [sizeOf, typeInfo, hq, h1]
  have h1 : (k : Int) < 16 := by omega
  have h2 : k < s.length := by omega
  simp [Instr.index, go_sem, hz, h1, h2]
  intro h3; omega
theorem block_def (key nonce : List UInt8) (ctr : UInt32) : C3.block key ctr nonce = C3.blockTo (C3.state key ctr nonce) (C3.rounds (C3.state key ctr nonce) 10) 16 := rfl
theorem blockTo_succ (s t : List UInt32) (k : Nat) : C3.blockTo s t (k + 1) = C3.blockTo s t k ++ C3.bytes (w16 t k + w16 s k) := rfl
theorem blockTo_zero (s t : List UInt32) : C3.blockTo s t 0 = [] := rfl
attribute [local irreducible] C3.rounds C3.state C3.blockTo C3.bytes
set_option maxRecDepth 100000 in
set_option maxHeartbeats 1000000 in
theorem block_c (key nonce : List UInt8) (ctr : UInt32) (hk : key.length = 32) (hn : nonce.length = 12) (w : World) :
    Calls Tryd.prog 42 #[.string ⟨key.toArray⟩, .int .u32 (W32 ctr), .string ⟨nonce.toArray⟩] w fun e w' => e = .returned (.tuple #[.string ⟨(C3.block key ctr nonce).toArray⟩, .int .i64 0]) ∧ Below w.heap.size w w' := by
  have hs := C3.length_state key ctr nonce
  have hr : (C3.rounds (C3.state key ctr nonce) 10).length = 16 := by rw [C3.length_rounds, hs]
  rw [block_def]
  go_enter Tryd.func42, Tryd.ntmps42
  go_wp2_with (first
    | (go_at_call 41; refine (state_c key nonce ctr hk hn _).mono ?_; rintro e w1 ⟨rfl, hb1⟩)
    | (refine st_row rfl (.tmp 8) (.tmp 18) rfl _ _ rfl rfl 71 _ (heap_alloc_new _ _) rfl hs ?_)
    | (refine ld_row rfl (.tmp 8) rfl _ rfl _ 71 ?hld hs ?_)
    | (go_at_call 56; refine (rounds_c _ hs _).mono ?_; rintro e w3 ⟨rfl, hb3⟩)
    | (at_make; refine mk_b rfl _ _ rfl (w1.heap.size + 1) 64 rfl rfl ?hm1 ?hm2 ?hm3))
  case hm1 => omega
  case hm2 => simp
  case hm3 =>
    intro v w2 hown hb2
    have hrow : w2.heap[w1.heap.size]? = some (.cells (row (C3.state key ctr nonce)) 71 (0, 0)) := by rw [hb2.block _ (by omega)]; exact heap_alloc_new _ _
    have hz2 : w1.heap.size + 1 ≤ w2.heap.size := by have := hb2.size; simpa using this
    go_wp2_with (first
      | (refine ld_row rfl (.tmp 8) rfl _ rfl _ 71 hrow hs ?_)
      | (go_at_call 56; refine (rounds_c _ hs _).mono ?_; rintro e w3 ⟨rfl, hb3⟩))
    have hown3 := hown.below hb3
    have hb4 := hb2.trans (hb3.mono hz2)
    have hz3 : w1.heap.size + 1 ≤ w3.heap.size := by have := hb3.size; omega
    have hbw : Below w.heap.size w (w1.alloc (.cells (row (C3.state key ctr nonce)) 71)) := hb1.alloc hb1.size _
    have hsz1 : w.heap.size ≤ w1.heap.size + 1 := by have := hb1.size; omega
    clear hrow hown hb2 hb3 hz2
    go_loopw [26, 10] (fun i v wr => ∃ k : Nat, k ≤ 16 ∧ i = .int .i64 k ∧ OwnB wr (w1.heap.size + 1) v (C3.blockTo (C3.state key ctr nonce) (C3.rounds (C3.state key ctr nonce) 10) k) ∧ Below (w1.heap.size + 1) (w1.alloc (.cells (row (C3.state key ctr nonce)) 71)) wr) (fun i _ _ => 16 - (intOf i).toNat)
    case atStart => exact ⟨0, by omega, rfl, by rw [blockTo_zero]; exact hown3, hb4⟩
    case round =>
      clear hown3 hb4 hz3
      obtain ⟨k, hk16, rfl, ho, hb⟩ := hrel
      by_cases hlt : k < 16
      · have hz : w1.heap.size + 1 ≤ wr.heap.size := by have := hb.size; simpa using this
        have hrow : wr.cell? ⟨w1.heap.size, k, none⟩ = some (.int .u32 (W32 (w16 (C3.state key ctr nonce) k))) := by
          rw [hb.cell (p := ⟨w1.heap.size, k, none⟩) (by show w1.heap.size < _; omega), cell_of_row _ _ _ _ _ _ (heap_alloc_new _ _), row_get _ _ (by rw [hs]; omega)]
        have hl4 := C3.length_blockTo (C3.state key ctr nonce) (C3.rounds (C3.state key ctr nonce) 10) k
        have hix := idx_row (C3.rounds (C3.state key ctr nonce) 10) hr k hlt
        have HL := Lib.hid hl4
        clear hl4
        go_wp2_with (go_at_call 57; refine (put_c _ _ _ _ _ ho (by rw [HL.out]; omega) hz).mono ?_; rintro e w4 ⟨v', rfl, ho', hb'⟩)
        go_roundw
        case rel => exact ⟨k + 1, by omega, by go_num, by rw [blockTo_succ]; exact ho', hb.trans hb'⟩
        case measure => simp [intOf]; omega
      · have he : k = 16 := by omega
        have HE := Lib.hid he
        clear he
        have hcv := conv_own ho
        go_wp2
        go_ret2
        exact ⟨by rw [HE.out]; rfl, hbw.trans (hb.mono hsz1)⟩

set_option maxHeartbeats 1000000 in
theorem block_no (key nonce : List UInt8) (ctr : UInt32) (h : C3.okArgs key nonce = false) (w : World) :
    Calls Tryd.prog 42 #[.string ⟨key.toArray⟩, .int .u32 (W32 ctr), .string ⟨nonce.toArray⟩] w fun e w' => e = .returned (.tuple #[.string ⟨#[]⟩, .int .i64 1]) ∧ Below w.heap.size w w' := by
  go_enter Tryd.func42, Tryd.ntmps42
  go_wp2_with (first
    | (go_at_call 41; refine (state_no key nonce ctr h _).mono ?_; rintro e w1 ⟨rfl, hb1⟩)
    | (refine st_row rfl (.tmp 8) (.tmp 18) rfl _ _ rfl rfl 71 _ (heap_alloc_new _ _) rfl rfl ?_))
  go_ret2
  exact ⟨rfl, hb1.alloc hb1.size _⟩
end Go.Proofs.YtackbjbmadkkhaaDoor
