/- Contracts and lemmas. No condition. -/
import Derived.Test.YtmfiaadjdbemnaaGreatDoorSB03
import Derived.Test.YtmfiaadjdbemnaaGreatDoorSB04
import Derived.Laws.AppendOwn
import Derived.Lib.AppendStr
set_option maxRecDepth 100000
set_option maxHeartbeats 8000000
namespace Go.Proofs.YtmfiaadjdbemnaaGreatDoor
section
open Go.RowKit
theorem DK (n:Nat):∀M:List UInt8,M.length=n→(lx M).take (M.length % 64)=M.drop (64*(M.length / 64)):=by
 induction n with
 | zero =>
   intro M hM;have : M=[]:=List.length_eq_zero_iff.1 hM;subst this
   rfl
 | succ n ih =>
   intro M hM
   have hne:M≠[]:=by intro e;rw[e] at hM;simp at hM
   have hd:M.dropLast.length=n:=by rw[List.length_dropLast];omega
   rw[←List.dropLast_concat_getLast hne];generalize M.getLast hne=c;generalize M.dropLast=N at hd ⊢;have h:=ih N hd;have hlt:N.length % 64<64:=Nat.mod_lt _ (by decide);rw[yo _ _ (by simp only[List.length_singleton];omega)]
   by_cases h64:N.length % 64+1=64
   ·obtain⟨p1,p2,p3,p4⟩:=Fx N [c] (lx N) (om N) h (by simpa using h64)
    rw[p1,p2,p4,List.take_zero]
   ·obtain⟨p1,p2,p3,p4⟩:=Fy N [c] (lx N) (om N) h (by simp only[List.length_singleton];omega)
    rw[p1,p2,p4]
theorem Mb (M:List UInt8):StV M (stv M):=⟨lx M,rfl,om M,DK _ M rfl,rfl⟩
theorem te (w:World):Calls Tryz.prog 66 #[] w fun e w'=>e = .returned (stv [])∧Below w.heap.size w w':=Ny w
theorem ue (M text:List UInt8) (w:World) (hk:KAt w) (hlen:M.length+text.length≤1000000000000) :
  Calls Tryz.prog 67 #[stv M,.string ⟨text.toArray⟩] w fun e w'=>e = .returned (stv (M++text))∧Below w.heap.size w w':=by
 refine(Qv M text _ w (Mb M) hk hlen).mono ?_;rintro e w' ⟨v',rfl,hv,hb⟩;exact⟨by rw[hv.eq],hb⟩
theorem FE (M:List UInt8) (w:World) (hk:KAt w) (hlen:M.length≤100000000000) :
  Calls Tryz.prog 69 #[stv M] w fun e w'=>e = .returned (.agg (brow (sha M)))∧Below w.heap.size w w':=WV M _ w (Mb M) hk hlen
theorem KAt.on {w w':World} (h:KAt w) (hb:Below w.heap.size w w'):KAt w':=by
 have hlt:=h.lt;unfold KAt;rw[hb.block _ hlt];exact h
theorem KAt.alloc {w:World} (h:KAt w) (X:Obj):KAt (w.alloc X):=h.on ((Oo _ _).alloc (Nat.le_refl _) X)
theorem KAt.later {w:World} (h:KAt w) (u:dj w):KAt u.now:=h.on u.below
attribute [local irreducible] Calls stc eJ yK row brow stv sha
theorem Sq (v:Value) (m:List UInt8) (w:World) (hv:RdE eB w v m) (hk:KAt w) (hlen:m.length≤100000000000) :
  Calls Tryz.prog 150 #[v] w fun e w'=>e = .returned (.agg (brow (sha m)))∧Below w.heap.size w w':=by
 have hz:=oy;have hcv:∀u:dj (w.alloc (.cells (brow z32) 139)),(convert 80 9 v).run Tryz.prog u.now = .ok (.string ⟨m.toArray⟩) u.now:=fun u=>b6 ((hv.alloc _).on u.below);have HK:Hid (KAt (w.alloc (.cells (brow z32) 139))):=O (hk.alloc _);have HB:Hid (Below w.heap.size w (w.alloc (.cells (brow z32) 139))):=O ((Oo _ _).alloc (Nat.le_refl _) _);have HG:Hid ((w.alloc (.cells (brow z32) 139)).heap[w.heap.size]?=some (.cells (brow z32) 139 (0,0))):=O (al _ _ _ rfl)
 have h32:(brow (sha m)).size=32:=by rw[bV,ew]
 have HL:=O hlen;clear hk hlen
 go_enter Tryz.func150,Tryz.ntmps150
 go_wp2;generalize w.alloc (.cells (brow z32) 139)=wa at hcv HK HB HG ⊢;refine Rm 5 (by kernel_rfl) (by kernel_rfl) ?_;simp only[List.take_succ_cons,List.take_zero,List.drop_succ_cons,List.drop_zero]
 repeat (first
  | go_big_quiet_step ((go_at_call 66;exact dj.call _ (te _)))
  | go_big_quiet_step ((go_at_call 67;exact dj.call _ (ue [] m _ (HK.out.later _) (by have := HL.out;simp;omega))))
  | go_big_quiet_step ((go_at_call 69;exact dj.call _ (FE m _ (HK.out.later _) HL.out))))
 refine wpQuiet_nil ?_;rintro _ ⟨u,rfl⟩;have HG2:Hid (u.now.heap[w.heap.size]?=some (.cells (brow z32) 139 (0,0))):=O (by rw[u.below.block _ (Array.getElem?_eq_some_iff.1 HG.out).1];exact HG.out)
 go_wp2_with (refine aM (T:=139) (brow (sha m)) (ir _ (ew m)) rfl (.tmp 2) (.tmp 7) rfl w.heap.size (brow z32) rfl rfl (iW _) (by rw[bV,bV,ew];rfl) HG2.out ?_;intro we hge hoe hbe)
 (try simp only[Exit.inBlock,Exit.then])
 refine bodyPost_ret (results_cell_row rfl _ _ w.heap.size _ (brow (sha m)) (0,0) _ rfl hge Tryz.underlying139 rfl (ir _ (ew m))) rfl ?_;exact⟨rfl,HB.out.trans ((u.below.mono HB.out.size).trans (hbe _ (Nat.le_refl _)))⟩
end
section
open Go.RowKit
theorem Ij:(Tryz.prog.info? 132).map (·.zero)=some (some (.agg (brow zb))):=by kernel_rfl
theorem MZ (w:World):(zeroValue 132).run Tryz.prog w = .ok (.agg (brow zb)) w:=by
 have h:=Ij;generalize brow zb=L at h ⊢
 cases hq:Tryz.prog.info? 132 with
 | none=>rw[hq] at h;cases h
 | some i =>
   rw[hq] at h
   simp at h
   simp[zeroValue,typeInfo,hq,h]
def pki (k:List UInt8) (c:UInt8) (i:Nat):List UInt8:=(eC k c).take i++(lay zb 0 k).drop i
theorem cl (k:List UInt8) (c:UInt8):(eC k c).length=64:=by unfold eC;rw[List.length_map,List.length_range]
theorem vm (k:List UInt8) (hk:k.length≤64):(lay zb 0 k).length=64:=zc _ _ _ rfl (by omega)
theorem OC (k:List UInt8) (i:Nat) (hk:k.length≤64) (hi:i<64):(lay zb 0 k)[i]?=some (byteAt k i):=by
 unfold lay byteAt;rw[List.take_zero,List.nil_append,Nat.zero_add]
 by_cases h:i<k.length
 ·rw[List.getElem?_append_left h,List.getElem?_eq_getElem h,List.getD_eq_getElem?_getD,List.getElem?_eq_getElem h]
  rfl
 ·rw[List.getElem?_append_right (by omega),List.getElem?_drop,List.getD_eq_getElem?_getD,List.getElem?_eq_none (Nat.le_of_not_lt h)]
  have : zb[k.length+(i-k.length)]?=some 0:=by
   unfold zb;rw[List.getElem?_replicate,if_pos (by omega)]
  rw[this]
  rfl
theorem Pb (k:List UInt8) (c:UInt8) (i:Nat) (hk:k.length≤64) (hi:i≤64):(pki k c i).length=64:=by
 unfold pki;rw[List.length_append,List.length_take,List.length_drop,cl,vm k hk]
 omega
theorem Tg (k:List UInt8) (c:UInt8) (i:Nat) (hk:k.length≤64) (hi:i<64):(pki k c i)[i]?=some (byteAt k i):=by
 unfold pki
 have hl:((eC k c).take i).length=i:=by rw[List.length_take,cl];omega
 rw[List.getElem?_append_right (by omega),hl,Nat.sub_self,List.getElem?_drop,Nat.add_zero,OC k i hk hi]
theorem Pc (k:List UInt8) (c:UInt8) (i:Nat) (hk:k.length≤64) (hi:i<64):(brow (pki k c i)).setIfInBounds i (.int .u8 (B8 (byteAt k i ^^^ c)))=brow (pki k c (i+1)):=by
 unfold brow
 apply Array.ext'
 rw[Array.toList_setIfInBounds]
 show (bcs (pki k c i)).set i (.int .u8 (B8 _))=bcs (pki k c (i+1))
 unfold bcs;rw[←List.map_set (f:=fun x=>Value.int .u8 (B8 x))]
 congr 1
 unfold pki
 have hl:((eC k c).take i).length=i:=by rw[List.length_take,cl];omega
 have hd:i<(lay zb 0 k).length:=by rw[vm k hk];exact hi
 have hp:(eC k c)[i]?=some (byteAt k i ^^^ c):=by
  unfold eC;rw[List.getElem?_map,List.getElem?_range hi]
  rfl
 rw[List.set_append_right _ _ (by omega),hl,Nat.sub_self,List.drop_eq_getElem_cons hd,List.set_cons_zero,List.take_add_one,hp]
 simp
theorem Pa (k:List UInt8) (c:UInt8) (hk:k.length≤64):pki k c 64=eC k c:=by
 unfold pki;rw[List.take_of_length_le (Nat.le_of_eq (cl k c)),List.drop_eq_nil_of_le (Nat.le_of_eq (vm k hk)),List.append_nil]
theorem zy {w:World} {g:Nat} {l:List UInt8} {T:TypeId} (hg:w.heap[g]?=some (.cells (brow l) T (0,0))) (hl:l.length≤1000):RdE eB w (.slice (some ⟨g,0,none⟩) l.length l.length) l:=by
 refine⟨_,l.length,rfl,Nat.le_refl _,by unfold maxLen;omega,fun _=>⟨g,0,rfl,(Array.getElem?_eq_some_iff.1 hg).1,fun j u hu => ?_⟩⟩;rw[mU] at hu;rw[Nat.zero_add,cell_of_row _ _ _ _ _ _ hg,←hu]
 simp[brow,bcs]
structure PW (w:World) (k:List UInt8) (c:UInt8) (i:Nat) (wr:World):Prop where
 b:wr.heap[w.heap.size]?=some (.cells (brow (pki k c i)) 132 (0,0))
 below:Below w.heap.size w wr
theorem PW.next {w wr:World} {k:List UInt8} {c:UInt8} {i:Nat} (h:PW w k c i wr) (hk:k.length≤64) (hi:i<64):PW w k c (i+1) (wr.setCell ⟨w.heap.size,i,none⟩ (.int .u8 (B8 (byteAt k i ^^^ c)))):=by
 rw[au _ _ _ _ _ _ _ h.b,Pc k c i hk hi];exact⟨setRow_heap _ _ _ _ _ _ h.b,h.below.trans (aK (Nat.le_refl _))⟩
theorem K6 (k:List UInt8) (c:UInt8):pki k c 0=lay zb 0 k:=by simp[pki]
theorem FU (k:List UInt8) (hk:k.length≤64):((brow zb).toList.take 0++bcs (k.take k.length)++(brow zb).toList.drop (0+k.length)).toArray=brow (lay zb 0 k):=by
 unfold brow lay bcs
 simp[zb]
attribute [local irreducible] Calls brow
theorem BI (k:List UInt8) (c:UInt8) (g:Nat) (w:World) (hg:w.cell? ⟨g,0,none⟩=some (.string ⟨k.toArray⟩)) (hk:k.length≤64) :
  Calls Tryz.prog 151 #[.int .u8 (B8 c),.pointer (some ⟨g,0,none⟩)] w fun e w'=>e = .returned (.string ⟨(eC k c).toArray⟩)∧Below w.heap.size w w':=by
 have hz:=MZ
 have hlt:g<w.heap.size:=by
  unfold World.cell? at hg
  cases hb:w.heap[g]? with
  | none=>simp[hb] at hg
  | some o=>exact(Array.getElem?_eq_some_iff.1 hb).1
 have hK:=O hk;have HB:Hid (Below w.heap.size w (w.alloc (.cells (brow zb) 132))):=O ((Oo _ _).alloc (Nat.le_refl _) _);have HG:Hid ((w.alloc (.cells (brow zb) 132)).heap[w.heap.size]?=some (.cells (brow zb) 132 (0,0))):=O (al _ _ _ rfl)
 have hg2:(w.alloc (.cells (brow zb) 132)).cell? ⟨g,0,none⟩=some (.string ⟨k.toArray⟩):=by rw[HB.out.cell (p:=⟨g,0,none⟩) hlt];exact hg
 have hmin:Nat.min k.length 64=k.length:=Nat.min_eq_left hk;have HM:=O hmin;clear hk hmin hg
 go_enter Tryz.func151,Tryz.ntmps151
 go_wp2;generalize w.alloc (.cells (brow zb) 132)=wa at hg2 HB HG ⊢;refine dD 2 (by kernel_rfl) (by kernel_rfl) ?_;simp only[List.take_succ_cons,List.take_zero,List.drop_succ_cons,List.drop_zero]
 repeat (go_big_quiet_step (fail))
 refine wpQuiet_nil ?_;rintro _ ⟨n,rfl⟩
 go_wp2_with (refine Jj rfl (.tmp 6) (.tmp 7) rfl k w.heap.size 0 64 64 k.length rfl rfl (brow zb) 132 HG.out HM.out (by rw[bV];have := hK.out;simp[zb];omega) ?_;intro wb hgb hob hbb;have H1:Hid (PW w k c 0 wb):=O ⟨by rw[K6,←FU k hK.out];exact hgb,HB.out.trans ((ak n (Oo _ _)).trans (hbb _ (Nat.le_refl _)))⟩;clear hgb hob hbb)
 go_loopw [9] (fun o wr=>∃i:Nat,i≤64∧o = .int .i64 i∧Hid (PW w k c i wr)) (fun o _=>64-(intOf o).toNat)
 case atStart=>exact⟨0,by omega,rfl,H1⟩
 case round =>
  obtain⟨i,hi,rfl,hpw⟩:=hrel
  by_cases h64:i<64
  ·have hfz:=frozen_of_row _ _ i _ _ hpw.out.b
   have hcell:wr.cell? ⟨w.heap.size,i,none⟩=some (.int .u8 (B8 (byteAt k i))):=by
    rw[cell_of_row _ _ _ _ _ _ hpw.out.b];have h:=Tg k c i hK.out h64;rw[nH _ _ (by rw[Pb k c i hK.out hi];exact h64)];unfold byteAt at h ⊢;rw[List.getD_eq_getElem?_getD,h]
    rfl
   go_wp2;go_roundw
   case rel=>exact⟨i+1,h64,by go_num,O (hpw.out.next hK.out h64)⟩
   case measure=>simp[intOf];omega
  ·have h64':i=64:=by omega
   subst h64';have hb:Hid (wr.heap[w.heap.size]?=some (.cells (brow (eC k c)) 132 (0,0))):=O (by rw[←Pa k c hK.out];exact hpw.out.b)
   have hcv:(convert 80 9 (.slice (some ⟨w.heap.size,0,none⟩) 64 64)).run Tryz.prog wr = .ok (.string ⟨(eC k c).toArray⟩) wr:=by
    have h:=b6 (zy hb.out (by rw[cl];omega));rw[cl] at h;exact h
   clear h64 hi;go_wp2;go_ret;exact⟨rfl,hpw.out.below⟩
end
section
open Go.RowKit
theorem cw (w:World) (l:List UInt8):(convert 9 80 (.string ⟨l.toArray⟩)).run Tryz.prog w = .ok (.slice (some ⟨w.heap.size,0,none⟩) l.length (grownCap w l.length 0 5)) (Lib.bytesWorld w 5 ⟨l.toArray⟩) :=
 Lib.run_convert_string_bytes w _ _ _ _ Tryz.underlying9 Tryz.underlying80 Tryz.underlying5
theorem bU (w:World) (l:List UInt8):Below w.heap.size w (Lib.bytesWorld w 5 ⟨l.toArray⟩) :=
 ⟨rfl,rfl,rfl,by rw[Lib.bytesWorld_size];omega,fun k hk=>Lib.bytesWorld_at_old _ _ _ _ hk⟩
theorem fo (w:World) (l:List UInt8) (hl:l.length≤maxLen):RdE eB (Lib.bytesWorld w 5 ⟨l.toArray⟩) (.slice (some ⟨w.heap.size,0,none⟩) l.length (grownCap w l.length 0 5)) l:=by
 refine⟨_,_,rfl,grownCap_ge _ _ _ _,grownCap_le_maxLen _ _ _ _ hl,fun _=>⟨w.heap.size,0,rfl,by rw[Lib.bytesWorld_size];omega,fun j u hu => ?_⟩⟩;rw[mU] at hu
 have hj:j<l.length:=by have := (List.getElem?_eq_some_iff.1 hu).1;rwa [iP] at this
 rw[Nat.zero_add,Lib.bytesWorld_cell _ _ _ _ hj,←hu]
 simp[bcs,B8,hj]
structure MW (w:World) (k:List UInt8) (wr:World):Prop where
 c:wr.cell? ⟨w.heap.size,0,none⟩=some (.string ⟨(bK k).toArray⟩)
 k:KAt wr
 below:Below w.heap.size w wr
theorem MW.later {w wr:World} {k:List UInt8} (h:MW w k wr) (hl:w.heap.size<wr.heap.size) (u:dj wr):MW w k u.now :=
 ⟨by rw[u.below.cell (p:=⟨w.heap.size,0,none⟩) hl];exact h.c,h.k.later u,h.below.trans (u.below.mono h.below.size)⟩
theorem MW.lt {w wr:World} {k:List UInt8} (h:MW w k wr):w.heap.size<wr.heap.size:=by
 have hc:=h.c;unfold World.cell? at hc
 cases hb:wr.heap[w.heap.size]? with
 | none=>simp[hb] at hc
 | some o=>exact(Array.getElem?_eq_some_iff.1 hb).1
theorem MW.on {w wr w':World} {k:List UInt8} (h:MW w k wr) (hb:Below wr.heap.size wr w'):MW w k w':=h.later h.lt ⟨w',hb⟩
theorem SR {w we:World} {k l:List UInt8} {x:Value} (hs:bK k=l) (he:we.heap[w.heap.size]?=some (.cells #[x] 9 (0,0))) (hk:KAt we) (hb:Below w.heap.size w we):MW w k (we.setCell ⟨w.heap.size,0,none⟩ (.string ⟨l.toArray⟩)):=by
 have h1:(0:Nat)≠w.heap.size:=by
  intro e;have h:=hk;unfold KAt at h;obtain⟨t,h⟩:=h;rw[e,he] at h;simp only[Option.some.injEq,Obj.cells.injEq] at h;have hsz:=congrArg Array.size h.1;rw[co,lB] at hsz
  simp at hsz
 rw[au _ _ _ _ _ _ _ he];exact⟨by rw[cell_of_row _ _ _ _ _ _ (setRow_heap _ _ _ _ _ _ he),hs];rfl,by unfold KAt;rw[aj _ _ _ _ h1];exact hk,hb.trans (aK (Nat.le_refl _))⟩
attribute [local irreducible] Calls brow stv sha
theorem E8 (k t:List UInt8) (w:World) (hk:KAt w) (hl:k.length≤1000000000) (ht:t.length≤1000000000) :
  Calls Tryz.prog 106 #[.string ⟨k.toArray⟩,.string ⟨t.toArray⟩] w fun e w'=>e = .returned (.string ⟨(mac k t).toArray⟩)∧Below w.heap.size w w':=by
 have hz:=oy;have hmf:∀(fn:Fn) (first cap:Array Value) (w:World),(Instr.makeFunc fn first cap).run Tryz.prog w = .ok (.func fn first cap) w:=fun _ _ _ _=>rfl;have HL:=O hl;have HT:=O ht;have HA:Hid ((w.alloc (.cells #[.string ⟨k.toArray⟩] 9)).heap[w.heap.size]?=some (.cells #[.string ⟨k.toArray⟩] 9 (0,0))):=O (al _ _ _ rfl);have hca:(w.alloc (.cells #[.string ⟨k.toArray⟩] 9)).cell? ⟨w.heap.size,0,none⟩=some (.string ⟨k.toArray⟩):=cell_of_row _ _ _ _ _ _ HA.out;have HKA:Hid (KAt (w.alloc (.cells #[.string ⟨k.toArray⟩] 9))):=O (hk.alloc _);have HBA:Hid (Below w.heap.size w (w.alloc (.cells #[.string ⟨k.toArray⟩] 9))):=O ((Oo _ _).alloc (Nat.le_refl _) _);clear hl ht hk
 go_enter Tryz.func106,Tryz.ntmps106
 go_upto_region 1 with fail
 generalize w.alloc (.cells #[.string ⟨k.toArray⟩] 9)=wa at HA hca HKA HBA ⊢
 go_upto_if 11 with fail
 go_cut [5,11] from 12 to 16 (fun _ _ wc=>Hid (MW w k wc))
 case first =>
  by_cases h64:k.length≤64
  ·have i1:¬(64:Int)<k.length:=by omega
   have hs:bK k=k:=by unfold bK;rw[if_pos h64]
   go_wp2
   all_goals go_meet
   case rel=>exact O ⟨by rw[hs];exact hca,HKA.out,HBA.out⟩
  ·have i1:(64:Int)<k.length:=by omega
   have HS:Hid (bK k=sha k):=O (by unfold bK;rw[if_neg h64]);have hcv:=cw wa k;have HSB:=O (bU wa k);have HRD:=O (fo wa k (by have := HL.out;unfold maxLen;omega));generalize Lib.bytesWorld wa 5 ⟨k.toArray⟩=ws at hcv HSB HRD
   go_wp2_with (first
    |(go_at_call 150;refine(Sq _ k _ HRD.out (HKA.out.on HSB.out) (by have := HL.out;omega)).mono ?_;rintro e w1 ⟨rfl,hb1⟩;have HB1:=O ((HSB.out).trans (hb1.mono HSB.out.size));clear hb1)
    |(refine aM (T:=139) (brow (sha k)) (ir _ (ew k)) rfl (.tmp 5) (.tmp 14) rfl w1.heap.size (brow z32) rfl rfl (iW _) (by rw[bV,bV,ew];rfl) (al _ _ _ rfl) ?_;intro we hge hoe hbe;have HB2:Hid (Below wa.heap.size wa we):=(O (HB1.out.trans ((((Oo _ _).alloc (Nat.le_refl _) _).trans (hbe _ (Nat.le_refl _))).mono HB1.out.size)));have hcv2:=b6 (zy hge (by rw[ew];omega));rw[ew] at hcv2;have HE:Hid (we.heap[w.heap.size]?=some (.cells #[.string ⟨k.toArray⟩] 9 (0,0))):=(O (by rw[HB2.out.block _ (Array.getElem?_eq_some_iff.1 HA.out).1];exact HA.out));have hce:=cell_of_row _ _ 0 _ _ _ HE.out;have hfe:=frozen_of_row _ _ 0 _ _ HE.out;clear hge hoe hbe))
   go_meet
   case rel=>exact O (SR HS.out HE.out (HKA.out.on HB2.out) (HBA.out.trans (HB2.out.mono HBA.out.size)))
 case rest =>
  have hcc:=hcut.out.c;have HPL:Hid ((bK k).length≤64):=O (by unfold bK;split;assumption;rw[ew];omega);have HPI:Hid (eC (bK k) 54++t=eC (bK k) 54++t):=O rfl;clear hca
  go_upto_region 6 with (first
   |(go_at_call 66;refine(te _).mono ?_;rintro e w1 ⟨rfl,hb1⟩;have H1:=O (hcut.out.on hb1);clear hb1)
   |(go_at_call 151;refine(BI (bK k) 54 w.heap.size _ H1.out.c HPL.out).mono ?_;rintro e w2 ⟨rfl,hb2⟩;have H2:=O (H1.out.on hb2);clear hb2)
   |(go_at_call 67;refine(ue [] (eC (bK k) 54) _ H2.out.k (by rw[cl];decide)).mono ?_;rintro e w3 ⟨rfl,hb3⟩;have H3:=O (H2.out.on hb3);clear hb3;rw[List.nil_append])
   |(go_at_call 67;refine(ue (eC (bK k) 54) t _ H3.out.k (by rw[cl];have := HT.out;omega)).mono ?_;rintro e w4 ⟨rfl,hb4⟩;have H4:=O (H3.out.on hb4);clear hb4)
   |(go_at_call 69;refine(FE (eC (bK k) 54++t) _ H4.out.k (by rw[List.length_append,cl];have := HT.out;omega)).mono ?_;rintro e w5 ⟨rfl,hb5⟩;have H5:=O (H4.out.on hb5);clear hb5;generalize hinn:sha (eC (bK k) 54++t)=inn;have HIN:=O hinn;have HIL:Hid (inn.length=32):=(O (by rw[←hinn];exact ew _));clear hinn)
   |(refine aM (T:=139) (brow inn) (ir _ HIL.out) rfl (.tmp 7) (.tmp 24) rfl w5.heap.size (brow z32) rfl rfl (iW _) (by rw[bV,bV,HIL.out];rfl) (al _ _ _ rfl) ?_;intro w6 hg6 ho6 hb6;have H6:=O (H5.out.on (((Oo _ _).alloc (Nat.le_refl _) _).trans (hb6 _ (Nat.le_refl _))));have HG6:=O hg6;clear hg6 ho6 hb6))
  have HPL2:Hid ((eC (bK k) 92).length=64):=O (cl _ _)
  try dsimp only[Act.put]
  refine aY 9 [[],[],[0,1],[0,2],[],[4],[3,5],[6],[]] (SP.of [.eq (stv []),.eq (.func (.func 151) #[] #[.pointer (some ⟨w.heap.size,0,none⟩)]),.eq (.string ⟨(eC (bK k) 92).toArray⟩),.eq (stv (eC (bK k) 92)),.eq (.slice (some ⟨w5.heap.size,0,none⟩) 32 32),.eq (.string ⟨inn.toArray⟩),.eq (stv (eC (bK k) 92++inn)),.eq (.agg (brow (sha (eC (bK k) 92++inn)))),.fresh w.heap.size (brow z32) 139]) (fun _=>undef) ?h1 ?h2 ?h3 ?h4 ?h5 ?h6
  case h1=>kernel_rfl
  case h2=>kernel_rfl
  case h3=>kernel_rfl
  case h4 =>
   simp only[List.take_succ_cons,List.take_zero]
   repeat (first |exact trivial|refine⟨fun vals v=>by kernel_rfl,?_⟩)
  case h5 =>
   simp only[List.take_succ_cons,List.take_zero];refine⟨?_,?_,?_,?_,?_,?_,?_,?_,?_,trivial⟩
   all_goals (intro wq hbq vals;simp only[given,SP.of,Nat.reduceAdd,Nat.zero_add,List.getD_cons_succ,List.getD_cons_zero];intro Q hQ;simp only[ay,upd,Act.put,List.setIfInBounds_toArray,List.set_cons_zero,List.set_cons_succ,Nat.reduceAdd,Nat.zero_add,Nat.reduceEqDiff,if_true,if_false,reduceIte];have HM:=O (H6.out.on hbq);have HBQ:=O hbq;clear hbq)
   ·go_wp2_with (go_at_call 66;refine(te _).mono ?_;rintro e x1 ⟨rfl,hx1⟩)
    exact ab hQ _ (by kernel_rfl) hx1 rfl
   ·go_wp2
    exact ab hQ _ (by kernel_rfl) (Oo _ _) rfl
   ·go_wp2_with (go_at_call 151;refine(BI (bK k) 92 w.heap.size _ HM.out.c HPL.out).mono ?_;rintro e x1 ⟨rfl,hx1⟩)
    exact ab hQ _ (by kernel_rfl) hx1 rfl
   ·go_wp2_with (go_at_call 67;refine(ue [] (eC (bK k) 92) _ HM.out.k (by rw[cl];decide)).mono ?_;rintro e x1 ⟨rfl,hx1⟩)
    exact ab hQ _ (by kernel_rfl) hx1 rfl
   ·go_wp2
    exact ab hQ _ (by kernel_rfl) (Oo _ _) rfl
   ·have hcv:=b6 (zy (w:=wq) (g:=w5.heap.size) (l:=inn) (T:=139) (by rw[HBQ.out.block _ (Array.getElem?_eq_some_iff.1 HG6.out).1];exact HG6.out) (by rw[HIL.out];omega))
    rw[HIL.out] at hcv;go_wp2;exact ab hQ _ (by kernel_rfl) (Oo _ _) rfl
   ·go_wp2_with (go_at_call 67;refine(ue (eC (bK k) 92) inn _ HM.out.k (by rw[cl,HIL.out];decide)).mono ?_;rintro e x1 ⟨rfl,hx1⟩)
    exact ab hQ _ (by kernel_rfl) hx1 rfl
   ·go_wp2_with (go_at_call 69;refine(FE (eC (bK k) 92++inn) _ HM.out.k (by rw[List.length_append,cl,HIL.out];decide)).mono ?_;rintro e x1 ⟨rfl,hx1⟩)
    exact ab hQ _ (by kernel_rfl) hx1 rfl
   ·go_wp2
    exact ab hQ _ (by kernel_rfl) ((Oo _ _).alloc (Nat.le_refl _) _) ⟨wq.heap.size,rfl,HM.out.below.size,al _ _ _ rfl⟩
  case h6 =>
   intro wq hbq vals
   show given _ _ _ [0,1,2,3,4,5,6,7,8] _
   simp only[given,SP.of,SP.fresh,List.getD_cons_succ,List.getD_cons_zero];rintro _ ⟨g,rfl,hg1,hg2⟩;simp only[List.take_succ_cons,List.take_zero,List.drop_succ_cons,List.drop_zero];simp only[ay,upd,Act.put,List.setIfInBounds_toArray,List.set_cons_zero,List.set_cons_succ,Nat.reduceAdd,Nat.zero_add,Nat.reduceEqDiff,if_true,if_false,reduceIte];have HM:=O (H6.out.on hbq);have HG1:=O hg1;have HG2:=O hg2;clear hbq hg1 hg2;have HMC:Hid (sha (eC (bK k) 92++inn)=mac k t):=O (by rw[←HIN.out];rfl);rw[HMC.out];have HML:Hid ((mac k t).length=32):=O (ju k t);generalize mac k t=mk at HMC HML ⊢;have HME:Hid (mac k t=mk):=O (by rw[←HMC.out,←HIN.out];rfl)
   go_wp2_with (refine aM (T:=139) (brow mk) (ir _ HML.out) rfl (.tmp 8) (.tmp 32) rfl g (brow z32) rfl rfl (iW _) (by rw[bV,bV,HML.out];rfl) HG2.out ?_;intro w9 hg9 ho9 hb9;have hcv:=b6 (zy hg9 (by rw[HML.out];omega));rw[HML.out] at hcv;have HB9:=O (HM.out.below.trans (hb9 _ HG1.out));clear hg9 ho9 hb9)
   go_ret;exact⟨by rw[HME.out];rfl,HB9.out⟩
end
section
open Go.RowKit
theorem zQ (l:List UInt8):Lib.strCells ⟨l.toArray⟩=eB.flat l:=by rw[mU];rfl
theorem D8 {w:World} {ops:Array Oper} {rest:List Oper} {o:Oper} {a:Act} {Q:Exit→Act→World→Prop} (hgd:o.guard=none) (s x:Operand)
  (ho:o.op = .call { callee := .builtin .append,args := #[s,x],argTypes := #[80,9] })
  (ai:Nat) (v:Value) (l:List UInt8) (hs:a.eval s=v) (hown:ap eB w ai v l) (t:List UInt8) (hx:a.eval x = .string ⟨t.toArray⟩)
  (hsz:l.length+t.length≤1000000000) (hbase:ai≤w.heap.size)
  (h:∀v' w',ap eB w' ai v' (l++t)→w.grownBy w' v.ownBlock→wpList Tryz.prog ops Q rest (a.put o.dst v') w'):wpList Tryz.prog ops Q (o::rest) a w:=by
 obtain⟨i0,z0,hi,hz,hs9,hz9,hb0,hb1⟩:=aN.info'
 have hz2:(Tryz.prog.info? 5).map (fun i=>(i.zero,i.bytes))=some (some (.int .u8 0),1):=by kernel_rfl
 have hi':Tryz.prog.info? 5=some i0:=hi;rw[hi'] at hz2;simp only[Option.map_some,Option.some.injEq,Prod.mk.injEq] at hz2
 obtain⟨v',w',hrun,h1,h2,_⟩:=Lib.run_append_own_string (P:=Tryz.prog) w ai 80 9 o.type 5 i0 Tryz.underlying80 Tryz.underlying9 hi' hz2.1 hs9 hz2.2 v l.length (eB.flat l) hown ⟨t.toArray⟩
  (by show l.length+t.length≤maxLen;unfold maxLen;omega) (by show l.length+t.length≤_;omega) hbase
 refine wpList_plain hgd fun K hK => ?_;unfold Oper.wp execOp;simp only[ho,resolve,invoke,builtin,Sem.run_bind,Sem.run_pure,Result.andThen_ok,List.map_toArray,List.map_cons,List.map_nil,hs,hx,hrun];refine hK _ _ (h _ _ ?_ h2);have h3:w'.ownsRow ai 5 1 v' (l.length+t.length) (eB.flat l++Lib.strCells ⟨t.toArray⟩):=h1;rw[zQ,←El.flat_append] at h3;unfold ap;rw[List.length_append];exact h3
open Go.RowKit
def nb (m:Nat):Nat :=
 if m=0 then 0 else if m<256 then 1 else if m<65536 then 2 else if m<16777216 then 3 else if m<4294967296 then 4 else if m<1099511627776 then 5 else if m<281474976710656 then 6 else if m<72057594037927936 then 7 else 8
theorem lh (m:Nat):nb m≤8:=by unfold nb;repeat' split <;> try omega
theorem nh (m k:Nat) (hk:k≤8) (h1:m<256 ^ k) (h2:k=0∨256 ^ (k-1)≤m):nb m=k:=by
 unfold nb
 rcases (by omega:k=0∨k=1∨k=2∨k=3∨k=4∨k=5∨k=6∨k=7∨k=8) with rfl|rfl|rfl|rfl|rfl|rfl|rfl|rfl|rfl <;> simp at h1 h2 <;> (repeat' split) <;> omega
theorem QS (m:Nat) (hm:m<18446744073709551616):m<256 ^ nb m:=by
 unfold nb
 (repeat' split) <;> simp <;> omega
theorem Wj (m:Nat):nb m=0∨256 ^ (nb m-1)≤m:=by
 unfold nb
 (repeat' split) <;> simp <;> omega
def beN (m k:Nat):List UInt8:=(List.range k).map fun i=>UInt8.ofNat (m / 256 ^ (k-1-i))
def jg (m:Nat) (f:UInt8):List UInt8:=(UInt8.ofNat (128+nb m) ^^^ f)::(beN m (nb m)).map (· ^^^ f)
def bF (n:Int):List UInt8:=if 0≤n then jg n.toNat 0 else jg (-1-n).toNat 255
def aV (s:List UInt8):List UInt8:=bF s.length++s
theorem td (m k:Nat):(beN m k).length=k:=by unfold beN;rw[List.length_map,List.length_range]
theorem bZ (m:Nat) (f:UInt8):(jg m f).length=1+nb m:=by unfold jg;rw[List.length_cons,List.length_map,td];omega
theorem N5 (m:Nat) (f:UInt8):(jg m f).length≤9:=by rw[bZ];have := lh m;omega
theorem cg (n:Int):(bF n).length≤9:=by unfold bF;split <;> exact N5 _ _
theorem uP (m:Nat) (f:UInt8):(jg m f).take 1=[UInt8.ofNat (128+nb m) ^^^ f]:=rfl
theorem fT (m:Nat) (f:UInt8) (r:Nat) (h1:1≤r) (h2:r≤nb m):(jg m f).take (1+(nb m-(r-1)))=(jg m f).take (1+(nb m-r))++[UInt8.ofNat (m / 256 ^ (r-1)) ^^^ f]:=by
 have e:1+(nb m-(r-1))=(1+(nb m-r))+1:=by omega
 rw[e,List.take_add_one]
 congr 1
 unfold jg;rw[show 1+(nb m-r)=(nb m-r)+1 by omega,List.getElem?_cons_succ];unfold beN;rw[List.getElem?_map,List.getElem?_map,List.getElem?_range (by omega)];simp only[Option.map_some];rw[show nb m-1-(nb m-r)=r-1 by omega]
 rfl
theorem xk (m:Nat) (f:UInt8):(jg m f).take (1+(nb m-0))=jg m f:=List.take_of_length_le (by rw[bZ];omega)
open Go.RowKit
def bH (h:UInt8):UInt8:=if h.toNat<128 then 255 else 0
def dB (l:List UInt8):Nat:=l.foldl (fun m c=>256*m+c.toNat) 0
theorem jI (l:List UInt8) (c:UInt8):dB (l++[c])=256*dB l+c.toNat:=by
 unfold dB;rw[List.foldl_append]
 rfl
theorem vT {P:List UInt8→Prop} (h0:P []) (h1:∀l c,P l→P (l++[c])):∀l,P l:=by
 intro l
 have h:∀n,∀l:List UInt8,l.length=n→P l:=by
  intro n
  induction n with
  | zero=>intro l hl;rw[List.length_eq_zero_iff.1 hl];exact h0
  | succ n ih =>
    intro l hl
    have hne:l≠[]:=by intro e;rw[e] at hl;simp at hl
    rw[←List.dropLast_concat_getLast hne];exact h1 _ _ (ih _ (by rw[List.length_dropLast];omega))
 exact h _ l rfl
theorem mN (l:List UInt8):dB l<256 ^ l.length:=by
 induction l using vT with
 | h0=>simp[dB]
 | h1 l c ih =>
   rw[jI,List.length_append,List.length_singleton,Nat.pow_succ];have := c.toNat_lt
   omega
theorem Ao (m k:Nat):beN m (k+1)=beN (m / 256) k++[UInt8.ofNat m]:=by
 unfold beN;rw[List.range_succ,List.map_append]
 congr 1
 ·apply List.map_congr_left
  intro i hi;have hi:=List.mem_range.1 hi;rw[show k+1-1-i=(k-1-i)+1 by omega,Nat.pow_succ,Nat.mul_comm,←Nat.div_div_eq_div_mul]
 ·simp
theorem wR (k:Nat):∀m,m<256 ^ k→dB (beN m k)=m:=by
 induction k with
 | zero=>intro m h;simp at h;subst h;rfl
 | succ k ih =>
   intro m h;rw[Ao,jI,ih _ (by rw[Nat.pow_succ] at h;omega)];rw[UInt8.toNat_ofNat']
   omega
theorem FT (l:List UInt8):beN (dB l) l.length=l:=by
 induction l using vT with
 | h0=>rfl
 | h1 l c ih =>
   rw[List.length_append,List.length_singleton,Ao,jI];have hc:=c.toNat_lt;rw[show (256*dB l+c.toNat) / 256=dB l by omega,ih]
   congr 2
   apply UInt8.toNat_inj.1
   rw[UInt8.toNat_ofNat']
   omega
theorem wD (c:UInt8) (l:List UInt8) (hc:c≠0):256 ^ l.length≤dB (c::l):=by
 induction l using vT with
 | h0 =>
   have h:c.toNat≠0:=fun e=>hc (UInt8.toNat_inj.1 e)
   show 1≤256*0+c.toNat
   omega
 | h1 l d ih =>
   rw[←List.cons_append,jI,List.length_append,List.length_singleton,Nat.pow_succ]
   omega
theorem KE (l:List UInt8) (hl:l.length≤8) (h:l=[]∨byteAt l 0≠0):nb (dB l)=l.length:=by
 refine nh _ _ hl (mN l) ?_
 cases l with
 | nil=>exact .inl rfl
 | cons c t =>
   refine .inr ?_
   have hc:c≠0:=by
    rcases h with h|h
    ·cases h
    ·exact h
   exact wD c t hc
def aZ (b:List UInt8):Int × Nat × Int :=
 match b with
 | []=>(0,0,5)
 | h :: r =>
   if 8<(h ^^^ bH h).toNat-128 then (0,0,6)
   else if r.length<(h ^^^ bH h).toNat-128 then (0,0,5)
   else if 0<(h ^^^ bH h).toNat-128∧byteAt r 0 ^^^ bH h=0 then (0,0,6)
   else if 9223372036854775808≤dB ((r.take ((h ^^^ bH h).toNat-128)).map (· ^^^ bH h)) then (0,0,6)
   else (if h.toNat<128 then -1-(dB ((r.take ((h ^^^ bH h).toNat-128)).map (· ^^^ bH h)):Int) else (dB ((r.take ((h ^^^ bH h).toNat-128)).map (· ^^^ bH h)):Int),(h ^^^ bH h).toNat-128+1,0)
theorem ro (a f:UInt8):a ^^^ f ^^^ f=a:=by
 rw[UInt8.xor_assoc,UInt8.xor_self,UInt8.xor_zero]
theorem Kw (l:List UInt8) (f:UInt8):(l.map (· ^^^ f)).map (· ^^^ f)=l:=by
 rw[List.map_map]
 conv=>rhs;rw[←List.map_id l]
 apply List.map_congr_left
 intro a _;exact ro a f
theorem Dc (k:Nat) (hk:k≤8) (f:UInt8) (hf:f=0∨f=255):bH (UInt8.ofNat (128+k) ^^^ f)=f∧((UInt8.ofNat (128+k) ^^^ f) ^^^ f).toNat-128=k∧((UInt8.ofNat (128+k) ^^^ f).toNat<128↔f=255):=by
 rcases hf with rfl|rfl <;> rcases (by omega:k=0∨k=1∨k=2∨k=3∨k=4∨k=5∨k=6∨k=7∨k=8) with rfl|rfl|rfl|rfl|rfl|rfl|rfl|rfl|rfl <;> decide
theorem IL (m:Nat) (h:0<nb m) (hm:m<18446744073709551616):byteAt (beN m (nb m)) 0≠0:=by
 intro e;have h1:=wR (nb m) m (QS m hm);have h2:=(Wj m).resolve_left (by omega);have hl:=td m (nb m)
 cases hb:beN m (nb m) with
 | nil=>rw[hb] at hl;simp at hl;omega
 | cons c t =>
   rw[hb] at e h1 hl;have hc:c=0:=e;subst hc;have : dB ((0:UInt8)::t)=dB t:=rfl;rw[this] at h1;have h3:=mN t;rw[List.length_cons] at hl;rw[show nb m-1=t.length by omega] at h2
   omega
theorem AG (m:Nat) (f:UInt8) (hf:f=0∨f=255) (hm:m<9223372036854775808) (r:List UInt8):aZ (jg m f++r)=(if f=255 then -1-(m:Int) else (m:Int),(jg m f).length,0):=by
 have hk:=lh m;obtain⟨h1,h2,h3⟩:=Dc (nb m) hk f hf;have hlen:=bZ m f;unfold jg at hlen ⊢;rw[List.cons_append,aZ,h1,h2]
 have hl:((beN m (nb m)).map (· ^^^ f)).length=nb m:=by rw[List.length_map,td]
 have ht:(((beN m (nb m)).map (· ^^^ f)++r).take (nb m)).map (· ^^^ f)=beN m (nb m):=by
  rw[List.take_append_of_le_length (by omega),List.take_of_length_le (by omega),Kw]
 have hv:=wR (nb m) m (QS m (by omega));rw[ht,hv,hlen,if_neg (by omega),if_neg (by rw[List.length_append];omega),if_neg,if_neg (by omega)]
 ·by_cases hff:f=255
  ·rw[if_pos (h3.2 hff),if_pos hff,Nat.add_comm]
  ·rw[if_neg (fun e=>hff (h3.1 e)),if_neg hff,Nat.add_comm]
 ·rintro⟨hp,he⟩
  have hb:byteAt ((beN m (nb m)).map (· ^^^ f)++r) 0=byteAt (beN m (nb m)) 0 ^^^ f:=by
   cases hbe:beN m (nb m) with
   | nil=>have := td m (nb m);rw[hbe] at this;simp at this;omega
   | cons c t=>rfl
  rw[hb,ro] at he;exact IL m hp (by omega) he
theorem uF (n:Int) (hlo : -9223372036854775808≤n) (hhi:n<9223372036854775808) (r:List UInt8):aZ (bF n++r)=(n,(bF n).length,0):=by
 unfold bF
 by_cases h:0≤n
 ·rw[if_pos h,AG _ _ (.inl rfl) (by omega)]
  have : ¬(0:UInt8)=255:=by decide
  rw[if_neg this,Int.toNat_of_nonneg h]
 ·rw[if_neg h,AG _ _ (.inr rfl) (by omega),if_pos rfl]
  congr 1
  omega
theorem lL (h:UInt8):(h.toNat<128∧bH h=255)∨(¬h.toNat<128∧bH h=0):=by
 unfold bH
 by_cases hh:h.toNat<128
 ·exact .inl ⟨hh,if_pos hh⟩
 ·exact .inr ⟨hh,if_neg hh⟩
theorem EH (h:UInt8):128≤(h ^^^ bH h).toNat:=by
 have : ∀x:Fin 256,128≤(UInt8.ofNat x.val ^^^ bH (UInt8.ofNat x.val)).toNat:=by decide +kernel
 have := this ⟨h.toNat,h.toNat_lt⟩
 simpa using this
theorem kp (b : List UInt8) (n : Int) (u : Nat) (h : aZ b = (n, u, 0)) : b = bF n ++ b.drop u ∧ u = (bF n).length ∧ -9223372036854775808 ≤ n ∧ n < 9223372036854775808 := by
 cases b with
 | nil=>simp[aZ] at h
 | cons c r =>
   rw[aZ] at h;have hge:=EH c;have hcx:(c ^^^ bH c) ^^^ bH c=c:=ro _ _;generalize hk:(c ^^^ bH c).toNat-128=k at h
   split at h
   ·simp at h
   ·rename_i h1
    split at h
    ·simp at h
    ·rename_i h2
     split at h
     ·simp at h
     ·rename_i h3
      split at h
      ·simp at h
      ·rename_i h4
       simp only[Prod.mk.injEq,and_true] at h;obtain⟨hn,hu⟩:=h
       have hl:((r.take k).map (· ^^^ bH c)).length=k:=by rw[List.length_map,List.length_take];omega
       have hnb:nb (dB ((r.take k).map (· ^^^ bH c)))=k:=by
        rw[KE _ (by omega),hl]
        rcases Nat.eq_zero_or_pos k with h0|h0
        ·exact .inl (List.length_eq_zero_iff.1 (by rw[hl,h0]))
        ·refine .inr fun e=>h3 ⟨h0,?_⟩
         cases r with
         | nil=>simp at h2;omega
         | cons d t =>
           obtain⟨k',rfl⟩:∃k',k=k'+1:=⟨k-1,by omega⟩;exact e
       have hbe:=FT ((r.take k).map (· ^^^ bH c));rw[hl] at hbe
       have hhead:UInt8.ofNat (128+k)=c ^^^ bH c:=by
        apply UInt8.toNat_inj.1
        rw[UInt8.toNat_ofNat'];have := (c ^^^ bH c).toNat_lt
        omega
       have henc:jg (dB ((r.take k).map (· ^^^ bH c))) (bH c)=c::r.take k:=by
        unfold jg;rw[hnb,hbe,Kw,hhead,hcx]
       have hb:c::r=(c::r.take k)++(c::r).drop (k+1):=by
        rw[List.drop_succ_cons,List.cons_append,List.take_append_drop]
       have hvl:=mN ((r.take k).map (· ^^^ bH c));generalize dB ((r.take k).map (· ^^^ bH c))=v at h4 hn henc;clear hnb hbe hhead hvl
       rcases lL c with⟨hc1,hc2⟩|⟨hc1,hc2⟩
       ·rw[if_pos hc1] at hn
        have he:bF n=c::r.take k:=by
         unfold bF;rw[if_neg (by omega),←henc,hc2,show (-1-n).toNat=v by omega]
        refine⟨by rw[he,←hu];exact hb,by rw[he,←hu,List.length_cons,List.length_take];omega,by omega,by omega⟩
       ·rw[if_neg hc1] at hn
        have he:bF n=c::r.take k:=by
         unfold bF;rw[if_pos (by omega),←henc,hc2,show n.toNat=v by omega]
        refine⟨by rw[he,←hu];exact hb,by rw[he,←hu,List.length_cons,List.length_take];omega,by omega,by omega⟩
end
end Go.Proofs.YtmfiaadjdbemnaaGreatDoor
