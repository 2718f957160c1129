/- Both Plans, whatever the backup and the time. -/
import Derived.Test.YtjbndfnhollfnaaPlanF
namespace Go.Proofs.Ytjbndfnhollfnaa
open Go.RowKit Go.Shelf
set_option linter.unusedSimpArgs false
set_option linter.unusedVariables false
theorem plan_r (nx now : Int) (v u : Value) (tl bl : List K) (b : BK) (w : World) (hv : RdK w v tl) (hu : RdK w u bl) (htl : tl.length ≤ 1000) (hbl : bl.length ≤ 40) (htab : validTab nx tl = true) :
    Calls Try.prog 11 #[.agg #[.int .i64 nx, v], .agg (bc b u), .int .i64 now] w (PlanR w (planK nx tl b bl now)) := by
  rcases planK_four nx tl b bl now with ⟨h1, hr⟩ | ⟨h1, h2, hr⟩ | ⟨h1, h2, h3, hr⟩ | ⟨h1, h2, h3, hr⟩
  · rw [hr]; exact (plan_rn nx now v u tl bl b w hu (.inl h1)).mono fun e w' h => planR_no rfl h.1 h.2
  · rw [hr]; exact (plan_rn nx now v u tl bl b w hu (.inr (.inl h2))).mono fun e w' h => planR_no rfl h.1 h.2
  · rw [hr]; exact (plan_rn nx now v u tl bl b w hu (.inr (.inr h3))).mono fun e w' h => planR_no rfl h.1 h.2
  · rw [hr]; exact plan_ry nx now v u tl bl b w hv hu htl hbl htab h1 h2 h3
theorem plan_c (nx now : Int) (v u : Value) (tl bl : List K) (b : BK) (w : World) (hv : RdK w v tl) (hu : RdK w u bl) (hwf : ∀ i, i < bl.length → (keyAt bl i).wf) (hmo : b.mo.length ≤ maxLen) (htl : tl.length ≤ 1000) (hbl : bl.length ≤ 40) (htab : validTab nx tl = true) :
    Calls Try.prog 10 #[.agg #[.int .i64 nx, v], .agg (bc b u), .int .i64 now] w (PlanT w (planK nx tl b bl now)) := by
  rcases planK_four nx tl b bl now with ⟨h1, hr⟩ | ⟨h1, h2, hr⟩ | ⟨h1, h2, h3, hr⟩ | ⟨h1, h2, h3, hr⟩
  · rw [hr]; exact (plan_cn nx now v u tl bl b w hu hwf hmo (.inl h1)).mono fun e w' h => planT_no rfl h.1 h.2
  · rw [hr]; exact (plan_cn nx now v u tl bl b w hu hwf hmo (.inr (.inl h2))).mono fun e w' h => planT_no rfl h.1 h.2
  · rw [hr]; exact (plan_cn nx now v u tl bl b w hu hwf hmo (.inr (.inr h3))).mono fun e w' h => planT_no rfl h.1 h.2
  · rw [hr]; exact plan_cy nx now v u tl bl b w hv hu hwf hmo htl hbl htab h1 h2 h3
end Go.Proofs.Ytjbndfnhollfnaa
