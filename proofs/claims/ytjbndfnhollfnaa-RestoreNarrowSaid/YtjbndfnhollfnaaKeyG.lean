/- Backups as the walk's values. -/
import Derived.Test.YtjbndfnhollfnaaKeyF
namespace Go.Proofs.Ytjbndfnhollfnaa
open Go.RowKit Go.Shelf
set_option linter.unusedSimpArgs false
set_option linter.unusedVariables false
/-- a backup but for its keys -/
structure BK where
  dom : List UInt8
  ep : Int
  num : Int
  fw : Int
  tm : Int
  pol : List UInt8
  mo : List UInt8
def dcell (d : List UInt8) (i : Nat) : Value := .int .u8 (B8 (byteAt d i))
/-- its cells, v the slice of its keys -/
def bc (b : BK) (v : Value) : Array Value := #[dcell b.dom 0, dcell b.dom 1, dcell b.dom 2, dcell b.dom 3, dcell b.dom 4, dcell b.dom 5, dcell b.dom 6, dcell b.dom 7, dcell b.dom 8, dcell b.dom 9, dcell b.dom 10, dcell b.dom 11, dcell b.dom 12, dcell b.dom 13, dcell b.dom 14, dcell b.dom 15, .int .i64 b.ep, .int .i64 b.num, .int .i64 b.fw, .int .i64 b.tm, dcell b.pol 0, dcell b.pol 1, dcell b.pol 2, dcell b.pol 3, dcell b.pol 4, dcell b.pol 5, dcell b.pol 6, dcell b.pol 7, dcell b.pol 8, dcell b.pol 9, dcell b.pol 10, dcell b.pol 11, dcell b.pol 12, dcell b.pol 13, dcell b.pol 14, dcell b.pol 15, .string ⟨b.mo.toArray⟩, v]
@[go_sem] theorem bc_size (b : BK) (v : Value) : (bc b v).size = 38 := rfl
@[go_sem] theorem bc_0 (b : BK) (v : Value) : (bc b v)[0]? = some (dcell b.dom 0) := rfl
@[go_sem] theorem bc_1 (b : BK) (v : Value) : (bc b v)[1]? = some (dcell b.dom 1) := rfl
@[go_sem] theorem bc_2 (b : BK) (v : Value) : (bc b v)[2]? = some (dcell b.dom 2) := rfl
@[go_sem] theorem bc_3 (b : BK) (v : Value) : (bc b v)[3]? = some (dcell b.dom 3) := rfl
@[go_sem] theorem bc_4 (b : BK) (v : Value) : (bc b v)[4]? = some (dcell b.dom 4) := rfl
@[go_sem] theorem bc_5 (b : BK) (v : Value) : (bc b v)[5]? = some (dcell b.dom 5) := rfl
@[go_sem] theorem bc_6 (b : BK) (v : Value) : (bc b v)[6]? = some (dcell b.dom 6) := rfl
@[go_sem] theorem bc_7 (b : BK) (v : Value) : (bc b v)[7]? = some (dcell b.dom 7) := rfl
@[go_sem] theorem bc_8 (b : BK) (v : Value) : (bc b v)[8]? = some (dcell b.dom 8) := rfl
@[go_sem] theorem bc_9 (b : BK) (v : Value) : (bc b v)[9]? = some (dcell b.dom 9) := rfl
@[go_sem] theorem bc_10 (b : BK) (v : Value) : (bc b v)[10]? = some (dcell b.dom 10) := rfl
@[go_sem] theorem bc_11 (b : BK) (v : Value) : (bc b v)[11]? = some (dcell b.dom 11) := rfl
@[go_sem] theorem bc_12 (b : BK) (v : Value) : (bc b v)[12]? = some (dcell b.dom 12) := rfl
@[go_sem] theorem bc_13 (b : BK) (v : Value) : (bc b v)[13]? = some (dcell b.dom 13) := rfl
@[go_sem] theorem bc_14 (b : BK) (v : Value) : (bc b v)[14]? = some (dcell b.dom 14) := rfl
@[go_sem] theorem bc_15 (b : BK) (v : Value) : (bc b v)[15]? = some (dcell b.dom 15) := rfl
@[go_sem] theorem bc_16 (b : BK) (v : Value) : (bc b v)[16]? = some (.int .i64 b.ep) := rfl
@[go_sem] theorem bc_17 (b : BK) (v : Value) : (bc b v)[17]? = some (.int .i64 b.num) := rfl
@[go_sem] theorem bc_18 (b : BK) (v : Value) : (bc b v)[18]? = some (.int .i64 b.fw) := rfl
@[go_sem] theorem bc_19 (b : BK) (v : Value) : (bc b v)[19]? = some (.int .i64 b.tm) := rfl
@[go_sem] theorem bc_20 (b : BK) (v : Value) : (bc b v)[20]? = some (dcell b.pol 0) := rfl
@[go_sem] theorem bc_21 (b : BK) (v : Value) : (bc b v)[21]? = some (dcell b.pol 1) := rfl
@[go_sem] theorem bc_22 (b : BK) (v : Value) : (bc b v)[22]? = some (dcell b.pol 2) := rfl
@[go_sem] theorem bc_23 (b : BK) (v : Value) : (bc b v)[23]? = some (dcell b.pol 3) := rfl
@[go_sem] theorem bc_24 (b : BK) (v : Value) : (bc b v)[24]? = some (dcell b.pol 4) := rfl
@[go_sem] theorem bc_25 (b : BK) (v : Value) : (bc b v)[25]? = some (dcell b.pol 5) := rfl
@[go_sem] theorem bc_26 (b : BK) (v : Value) : (bc b v)[26]? = some (dcell b.pol 6) := rfl
@[go_sem] theorem bc_27 (b : BK) (v : Value) : (bc b v)[27]? = some (dcell b.pol 7) := rfl
@[go_sem] theorem bc_28 (b : BK) (v : Value) : (bc b v)[28]? = some (dcell b.pol 8) := rfl
@[go_sem] theorem bc_29 (b : BK) (v : Value) : (bc b v)[29]? = some (dcell b.pol 9) := rfl
@[go_sem] theorem bc_30 (b : BK) (v : Value) : (bc b v)[30]? = some (dcell b.pol 10) := rfl
@[go_sem] theorem bc_31 (b : BK) (v : Value) : (bc b v)[31]? = some (dcell b.pol 11) := rfl
@[go_sem] theorem bc_32 (b : BK) (v : Value) : (bc b v)[32]? = some (dcell b.pol 12) := rfl
@[go_sem] theorem bc_33 (b : BK) (v : Value) : (bc b v)[33]? = some (dcell b.pol 13) := rfl
@[go_sem] theorem bc_34 (b : BK) (v : Value) : (bc b v)[34]? = some (dcell b.pol 14) := rfl
@[go_sem] theorem bc_35 (b : BK) (v : Value) : (bc b v)[35]? = some (dcell b.pol 15) := rfl
@[go_sem] theorem bc_36 (b : BK) (v : Value) : (bc b v)[36]? = some (.string ⟨b.mo.toArray⟩) := rfl
@[go_sem] theorem bc_37 (b : BK) (v : Value) : (bc b v)[37]? = some v := rfl
attribute [irreducible] bc
theorem heap3_0 (w : World) (A B C : Obj) : (((w.alloc A).alloc B).alloc C).heap[w.heap.size]? = some A := by
  have h := ((Below.refl (w.alloc A).heap.size (w.alloc A)).alloc (Nat.le_refl _) B).alloc (by simp) C
  rw [h.block _ (by simp)]
  exact heap_alloc_new _ _
theorem heap3_2 (w : World) (A B C : Obj) : (((w.alloc A).alloc B).alloc C).heap[w.heap.size + 2]? = some C := by
  have h := heap_alloc_new ((w.alloc A).alloc B) C
  rw [World.size_alloc, World.size_alloc] at h
  exact h
theorem below3 (w : World) (A B C : Obj) {w1 : World} (h : Below (((w.alloc A).alloc B).alloc C).heap.size (((w.alloc A).alloc B).alloc C) w1) : Below w.heap.size w w1 :=
  (((Below.refl _ _).alloc (Nat.le_refl _) A).alloc (by simp) B).trans ((below1 _ _ h).mono (by simp; omega))
attribute [local irreducible] Calls alikeK twinId twinIs
/-- every key of the backup that is not over has a twin -/
def holdsK (tl bl : List K) (now : Int) : Bool := !(bl.any (lacks tl now))
set_option maxHeartbeats 2000000 in
theorem holds_c (nx now : Int) (v u : Value) (tl bl : List K) (b : BK) (w : World) (hv : RdK w v tl) (hu : RdK w u bl) :
    Calls Try.prog 16 #[.agg #[.int .i64 nx, v], .agg (bc b u), .int .i64 now] w fun e w' => e = .returned (.bool (holdsK tl bl now)) ∧ Below w.heap.size w w' := by
  have hmf : ∀ (fn : Fn) (first cap : Array Value) (w : World), (Instr.makeFunc fn first cap).run Try.prog w = .ok (.func fn first cap) w := fun _ _ _ _ => rfl
  have hc := containsFunc_k u bl 32 #[.pointer (some ⟨w.heap.size, 0, none⟩), .pointer (some ⟨w.heap.size + 2, 0, none⟩)] (lacks tl now)
    (((w.alloc (.cells #[.int .i64 nx, v] 24)).alloc (.cells (bc b u) 28)).alloc (.cells #[.int .i64 now] 3)) eg32 (((hu.alloc _).alloc _).alloc _)
    (holds_pred nx now v tl _ _ _ (((hv.alloc _).alloc _).alloc _) (heap3_0 _ _ _ _) (heap3_2 _ _ _ _))
  have HC := Lib.hid hc
  have hkd : holdsK tl bl now = !(bl.any (lacks tl now)) := rfl
  rw [hkd]
  generalize bl.any (lacks tl now) = r at HC ⊢
  obtain ⟨a, cap, rfl, _, _, _⟩ := hu
  clear hc hkd
  go_enter Try.func16, Try.ntmps16
  go_wp2_with (go_at_call 31; refine HC.out.mono ?_; rintro e w1 ⟨rfl, hb⟩)
  go_ret
  exact ⟨rfl, below3 _ _ _ _ hb⟩
end Go.Proofs.Ytjbndfnhollfnaa
