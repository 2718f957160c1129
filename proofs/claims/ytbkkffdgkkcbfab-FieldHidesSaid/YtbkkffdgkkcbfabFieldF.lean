/- Different elements. -/
import Derived.Test.YtbkkffdgkkcbfabFieldE
namespace Go.Proofs.Ytbkkffdgkkcbfab
open Go.RowKit F6
set_option linter.unusedSimpArgs false
set_option linter.unusedVariables false
/-- 1 to 255 different elements -/
def okX (l : List UInt8) : Bool := decide (1 ≤ l.length) && decide (l.length ≤ 255) && decide l.Nodup
/-- a row of truths in memory -/
def trow (s : List Bool) : Array Value := (s.map Value.bool).toArray
@[go_sem] theorem trow_size (s : List Bool) : (trow s).size = s.length := by simp [trow]
/-- the truth at a place -/
def tAt (s : List Bool) (i : Nat) : Bool := s.getD i false
@[go_sem] theorem trow_get (s : List Bool) (i : Nat) (h : i < s.length) : (trow s)[i]? = some (.bool (tAt s i)) := by
  simp [trow, tAt, List.getElem?_eq_getElem h]
@[go_sem] theorem trow_get' (s : List Bool) (i : Nat) (h : i < (trow s).size) : (trow s)[i] = .bool (tAt s i) := by
  have h' : i < s.length := by rwa [trow_size] at h
  have := trow_get s i h'
  rw [Array.getElem?_eq_getElem h] at this
  exact Option.some.inj this
@[go_sem] theorem trow_set (s : List Bool) (i : Nat) (x : Bool) : (trow s).setIfInBounds i (.bool x) = trow (s.set i x) := by
  simp [trow, List.map_set]
/-- which bytes are among the first k -/
def seenB (l : List UInt8) : List Bool := (List.range 256).map fun j => decide (UInt8.ofNat j ∈ l)
theorem seen_len (l : List UInt8) : (seenB l).length = 256 := by simp [seenB]
theorem seen_nil : seenB [] = List.replicate 256 false := by decide +kernel
theorem seen_at (l : List UInt8) (x : UInt8) : tAt (seenB l) x.toNat = decide (x ∈ l) := by
  have h := x.toNat_lt
  have h2 : x.toNat < 256 := h
  simp [tAt, seenB, List.getD_eq_getElem?_getD, List.getElem?_range h2]
theorem seen_set (l : List UInt8) (x : UInt8) : (seenB l).set x.toNat true = seenB (l ++ [x]) := by
  apply List.ext_getElem (by simp [seenB])
  intro i h1 h2
  have hi : i < 256 := by simpa [seenB] using h2
  rw [List.getElem_set]
  simp only [seenB, List.getElem_map, List.getElem_range]
  by_cases e : x.toNat = i
  · subst e; simp
  · rw [if_neg e]
    have hne : UInt8.ofNat i ≠ x := by
      intro h; apply e; rw [← h, UInt8.toNat_ofNat_of_lt' hi]
    simp [hne]
theorem take_snoc (l : List UInt8) (k : Nat) (h : k < l.length) : l.take (k + 1) = l.take k ++ [byteAt l k] := by
  rw [List.take_succ_eq_append_getElem h, byteAt, List.getD_eq_getElem?_getD, List.getElem?_eq_getElem h]; rfl
theorem zero_seen' : (Try.prog.info? 46).map (·.zero) = some (some (.agg (trow (List.replicate 256 false)))) := by kernel_rfl
theorem zero_seen (w : World) : (zeroValue 46).run Try.prog w = .ok (.agg (trow (seenB []))) w := by
  have h := zero_seen'
  rw [← seen_nil] at h
  generalize trow (seenB []) = L at h ⊢
  cases hq : Try.prog.info? 46 with
  | none => rw [hq] at h; cases h
  | some i =>
    rw [hq] at h
    simp at h
    simp [zeroValue, typeInfo, hq, h]
set_option maxRecDepth 100000 in
set_option maxHeartbeats 1000000 in
theorem distinct_c (v : Value) (l : List UInt8) (w : World) (hv : RdB w v l) :
    Calls Try.prog 27 #[v] w fun e w' => e = .returned (.bool (okX l)) ∧ Below w.heap.size w w' := by
  obtain ⟨a, cap, rfl, hl, hcap, hcells⟩ := hv
  unfold maxLen at hcap
  have hz := zero_seen
  go_enter Try.func27, Try.ntmps27
  go_wp2
  go_loopw [8] (fun i wr => ∃ k : Nat, k ≤ l.length ∧ i = .int .i64 k ∧ (l.take k).Nodup ∧ wr = w.alloc (.cells (trow (seenB (l.take k))) 46)) (fun i _ => l.length - (intOf i).toNat)
  case atStart => exact ⟨0, Nat.zero_le _, rfl, List.nodup_nil, rfl⟩
  case round =>
    clear hz
    obtain ⟨k, hk, rfl, hnd, rfl⟩ := hrel
    by_cases hlt : k < l.length
    · obtain ⟨b, off, rfl, hbl, hc⟩ := hcells (by omega)
      have hcj := hc k hlt
      have hki : (k : Int) < l.length := by omega
      have hsn := take_snoc l k hlt
      have hsl := seen_len (l.take k)
      have hsa := seen_at (l.take k) (byteAt l k)
      have hss := seen_set (l.take k) (byteAt l k)
      rw [← hsn] at hss
      have hx0 := u8_lo (byteAt l k)
      have hx1 := u8_hi (byteAt l k)
      have hxn : (B8 (byteAt l k)).toNat = (byteAt l k).toNat := by simp [B8]
      have hxl : (byteAt l k).toNat < 256 := (byteAt l k).toNat_lt
      have hl0 : (0 : Int) < l.length := by omega
      have HK := Lib.hid hlt
      have HSN := Lib.hid hsn
      clear hsn
      by_cases hm : byteAt l k ∈ l.take k
      · have hno : okX l = false := by
          have : ¬ l.Nodup := by
            intro hn
            have h2 : (l.take (k + 1)).Nodup := (List.take_sublist _ _).nodup hn
            rw [HSN.out, List.nodup_append] at h2
            exact h2.2.2 _ hm _ (by simp) rfl
          simp [okX, this]
        rw [show decide (byteAt l k ∈ l.take k) = true by simpa using hm] at hsa
        have HNO := Lib.hid hno
        clear hno hm hnd
        go_wp2
        go_ret
        exact ⟨by rw [HNO.out]; rfl, (Below.refl _ _).alloc (Nat.le_refl _) _⟩
      · have hnd2 : (l.take (k + 1)).Nodup := by
          rw [HSN.out, List.nodup_append]
          refine ⟨hnd, by simp, ?_⟩
          intro x hx y hy e
          rw [List.mem_singleton] at hy
          rw [e, hy] at hx
          exact hm hx
        have HND := Lib.hid hnd2
        rw [show decide (byteAt l k ∈ l.take k) = false by simpa using hm] at hsa
        have hst := seen_set (l.take k) (byteAt l k)
        rw [← HSN.out] at hst
        clear hnd hnd2 hm hss
        go_wp2
        go_roundw
        case rel => exact ⟨k + 1, HK.out, by go_num, HND.out, rfl⟩
        case measure => have := HK.out; simp [intOf]; omega
    · have he : k = l.length := by omega
      have hnd' : l.Nodup := by rw [he, List.take_length] at hnd; exact hnd
      have hok : okX l = (decide (1 ≤ l.length) && decide (l.length ≤ 255)) := by simp [okX, hnd']
      have HO := Lib.hid hok
      clear hok hnd hnd' hcells
      by_cases h1 : 1 ≤ l.length
      · have h1' : (1 : Int) ≤ l.length := by omega
        by_cases h2 : l.length ≤ 255
        · have h2' : (l.length : Int) ≤ 255 := by omega
          have hres : okX l = true := by rw [HO.out]; simp; omega
          have HR := Lib.hid hres
          clear hres he
          go_wp2
          go_ret
          exact ⟨by rw [HR.out]; rfl, (Below.refl _ _).alloc (Nat.le_refl _) _⟩
        · have h2' : ¬ (l.length : Int) ≤ 255 := by omega
          have hres : okX l = false := by rw [HO.out]; simp; omega
          have HR := Lib.hid hres
          clear hres he
          go_wp2
          go_ret
          exact ⟨by rw [HR.out]; rfl, (Below.refl _ _).alloc (Nat.le_refl _) _⟩
      · have h1' : ¬ (1 : Int) ≤ l.length := by omega
        have hres : okX l = false := by rw [HO.out]; simp; omega
        have HR := Lib.hid hres
        clear hres he
        go_wp2
        go_ret
        exact ⟨by rw [HR.out]; rfl, (Below.refl _ _).alloc (Nat.le_refl _) _⟩
end Go.Proofs.Ytbkkffdgkkcbfab
