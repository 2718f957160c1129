/- Different elements, as specified. -/
import Derived.Test.YtbkkffdgkkcbfabFieldF
namespace Go.Proofs.Ytbkkffdgkkcbfab
open Go.RowKit F6
set_option linter.unusedSimpArgs false
set_option linter.unusedVariables false
theorem mem_take (l : List UInt8) (k : Nat) (x : UInt8) (hk : k ≤ l.length) (h : ∀ j, j < k → byteAt l j ≠ x) : x ∉ l.take k := by
  intro hm
  obtain ⟨j, hj, e⟩ := List.getElem_of_mem hm
  have hj' : j < k := by rw [List.length_take] at hj; omega
  refine h j hj' ?_
  rw [List.getElem_take] at e
  rw [byteAt, List.getD_eq_getElem?_getD, List.getElem?_eq_getElem (by omega), ← e]; rfl
theorem nodup_step (l : List UInt8) (k : Nat) (h : k < l.length) (hn : (l.take k).Nodup) (hm : byteAt l k ∉ l.take k) : (l.take (k + 1)).Nodup := by
  rw [take_snoc l k h, List.nodup_append]
  refine ⟨hn, by simp, ?_⟩
  intro x hx y hy e
  rw [List.mem_singleton] at hy
  rw [e, hy] at hx
  exact hm hx
theorem not_nodup (l : List UInt8) (i k : Nat) (hi : i < l.length) (hk : k < i) (h : byteAt l i = byteAt l k) : ¬ l.Nodup := by
  intro hn
  have := List.pairwise_iff_getElem.1 hn k i (by omega) hi hk
  apply this
  rw [byteAt, byteAt, List.getD_eq_getElem?_getD, List.getD_eq_getElem?_getD, List.getElem?_eq_getElem hi, List.getElem?_eq_getElem (by omega)] at h
  exact h.symm
set_option maxHeartbeats 1000000 in
theorem distinct_r (v : Value) (l : List UInt8) (w : World) (hv : RdB w v l) :
    Calls Try.prog 29 #[v] w fun e w' => e = .returned (.bool (okX l)) ∧ ∃ n, w' = w.drewN n := by
  obtain ⟨a, cap, rfl, hl, hcap, hcells⟩ := hv
  unfold maxLen at hcap
  by_cases h0 : l.length = 0
  · have hno : okX l = false := by simp [okX, h0]
    have HN := Lib.hid hno
    have hz : ((l.length : Int) == 0) = true := by rw [beq_iff_eq]; omega
    clear hno
    go_enter Try.func29, Try.ntmps29
    go_wp2
    go_ret
    exact ⟨by rw [HN.out]; rfl, 0, rfl⟩
  have hz : ((l.length : Int) == 0) = false := by rw [beq_eq_false_iff_ne]; omega
  by_cases h255 : 255 < l.length
  · have hno : okX l = false := by simp [okX]; omega
    have HN := Lib.hid hno
    have h2 : (255 : Int) < l.length := by omega
    clear hno
    go_enter Try.func29, Try.ntmps29
    go_wp2
    go_ret
    exact ⟨by rw [HN.out]; rfl, 0, rfl⟩
  have h2 : ¬ (255 : Int) < l.length := by omega
  obtain ⟨b, off, rfl, hbl, hc⟩ := hcells (by omega)
  have hok : okX l = decide l.Nodup := by simp [okX]; omega
  have HO := Lib.hid hok
  clear hok hcells
  go_enter Try.func29, Try.ntmps29
  go_wp2
  go_loopw [3] (fun i wr => ∃ k : Nat, k ≤ l.length ∧ i = .int .i64 k ∧ (l.take k).Nodup ∧ ∃ n, wr = w.drewN n) (fun i _ => l.length - (intOf i).toNat)
  case atStart => exact ⟨0, Nat.zero_le _, rfl, List.nodup_nil, 0, rfl⟩
  case round =>
    obtain ⟨i, hi, rfl, hnd, n, rfl⟩ := hrel
    by_cases hlt : i < l.length
    · have hii : (i : Int) < l.length := by omega
      have HND := Lib.hid hnd
      have HI := Lib.hid hlt
      clear hnd
      go_wp2
      go_loopw [4] (fun j wr => ∃ k : Nat, k ≤ i ∧ j = .int .i64 k ∧ (∀ m, m < k → byteAt l m ≠ byteAt l i) ∧ ∃ n, wr = w.drewN n) (fun j _ => i - (intOf j).toNat)
      case atStart => exact ⟨0, Nat.zero_le _, rfl, fun m h => absurd h (Nat.not_lt_zero m), n, rfl⟩
      case round =>
        obtain ⟨k, hk, rfl, hne, n, rfl⟩ := hrel
        have hi := HI.out
        by_cases hki : k < i
        · have c1 := hc i hi
          have c2 := hc k (by omega)
          have i1 : (i : Int) < l.length := by omega
          have i2 : (k : Int) < l.length := by omega
          have i3 : (k : Int) < i := by omega
          have HK := Lib.hid hki
          have HNE := Lib.hid hne
          clear hne
          by_cases he : byteAt l i = byteAt l k
          · have hno : okX l = false := by rw [HO.out]; simpa using not_nodup l i k hi hki he
            have HN := Lib.hid hno
            clear hno
            have heq : (B8 (byteAt l i) == B8 (byteAt l k)) = true := by rw [he]; simp
            clear he
            go_wp2
            first | refine allD (by kernel_rfl) (by kernel_rfl) ?_ | refine all0 (by kernel_rfl) (by kernel_rfl) ?_
            repeat (go_big_quiet_step (fail))
            refine wpQuiet_nil ?_
            rintro _ ⟨nq, rfl⟩
            go_wp2
            go_ret
            exact ⟨by rw [HN.out]; rfl, _, rfl⟩
          · have heq : (B8 (byteAt l i) == B8 (byteAt l k)) = false := by rw [beq_eq_false_iff_ne]; intro h; exact he (u8_inj h)
            have HE := Lib.hid he
            clear he
            go_wp2
            first | refine allD (by kernel_rfl) (by kernel_rfl) ?_ | refine all0 (by kernel_rfl) (by kernel_rfl) ?_
            repeat (go_big_quiet_step (fail))
            refine wpQuiet_nil ?_
            rintro _ ⟨nq, rfl⟩
            go_wp2
            go_roundw
            case rel =>
              refine ⟨k + 1, HK.out, by go_num, ?_, _, rfl⟩
              intro m hm
              by_cases hmk : m = k
              · rw [hmk]; exact fun h => HE.out h.symm
              · exact HNE.out m (by omega)
            case measure => have := HK.out; simp [intOf]; omega
        · have he : k = i := by omega
          have hn2 := nodup_step l i hi HND.out (mem_take l i (byteAt l i) (by omega) (fun m hm => hne m (by omega)))
          have HN2 := Lib.hid hn2
          have i3 : (i : Int) ≤ k := by omega
          clear he hne hn2
          go_wp2
          go_roundw
          case rel => exact ⟨i + 1, HI.out, by go_num, HN2.out, n, rfl⟩
          case measure => have := HI.out; simp [intOf]; omega
    · have he : i = l.length := by omega
      have hnd' : l.Nodup := by rw [he, List.take_length] at hnd; exact hnd
      have hyes : okX l = true := by rw [HO.out]; simpa using hnd'
      have HY := Lib.hid hyes
      clear hyes hnd hnd'
      go_wp2
      go_ret
      exact ⟨by rw [HY.out]; rfl, n, rfl⟩
end Go.Proofs.Ytbkkffdgkkcbfab
