/- Contracts and lemmas. No condition. -/
import Derived.Test.YtmfiaadjdbemnaaGreatDoorLAny07
import Derived.Test.YtmfiaadjdbemnaaGreatDoorSB34
import Derived.Test.YtmfiaadjdbemnaaGreatDoorLAny08
namespace Go.Proofs.YtmfiaadjdbemnaaGreatDoor
section
open Go.RowKit
theorem FW:Tryz.prog.built 47 []=some (bc zB ah):=by kernel_rfl
theorem lD {ops:Array Oper} {rest:List Oper} {o:Oper} {a:Act} {w:World} {Q:Exit→Act→World→Prop} (hgd:Region.wanted o (yielded ops a.tmps)=true) (ho:o.op = .build 47 #[])
  (h:wpList Tryz.prog ops Q rest (a.put o.dst (.agg (bc zB ah))) w):wpList Tryz.prog ops Q (o::rest) a w :=
 wpList_step fun K hK=>by
  rw[if_pos hgd];have hr:=run_build (P:=Tryz.prog) w 47 #[] _ FW;unfold Oper.wp execOp;simp only[ho,List.map_toArray,List.map_nil,hr,Sem.run_bind,Sem.run_pure,Result.andThen_ok];exact hK _ _ h
theorem Iy (s:List UInt8) (m n:Nat) (hn:0<n) (ps:List UInt8):((gG n ps).map fun k=>(fdP s m (List.range n)).getD k zSH)=fdP s m (gG n ps):=by
 unfold fdP d9
 apply List.map_congr_left
 intro k hk;have h:=(ti n hn ps).2 k hk
 simp[List.getD_eq_getElem?_getD,h]
theorem RD (s:List UInt8) (q p:Nat) (ps:List UInt8) (hp:p<16) (hq:q≤p) (hl:ps.length≤40) (h:(gG (p+1) ps).length<q+1):ci (fdP s q (gG (p+1) ps))≠0:=by
 have h1:=ti (p+1) (by omega) ps;have h2:=qe (p+1) ps
 rcases Nat.eq_zero_or_pos (gG (p+1) ps).length with h0|h0
 ·rw[List.length_eq_zero_iff.1 h0,show fdP s q []=[] from rfl,NR]
  decide
 ·rw[JO s q _ h1.1 (fun k hk=>by have := h1.2 k hk;omega) (by omega) (by omega) h0 h]
  decide
theorem Ix (s:List UInt8) (q p:Nat) (ps:List UInt8) (hp:p<16) (hq:q≤p) (hl:ps.length≤40) (h:q+1≤(gG (p+1) ps).length):ci (fdP s q (gG (p+1) ps))=0∧eU (fdP s q (gG (p+1) ps))=nxV s:=by
 have h1:=ti (p+1) (by omega) ps;have h2:=qe (p+1) ps;exact xl s q _ h1.1 (fun k hk=>by have := h1.2 k hk;omega) (by omega) (by omega) h
def bE (s:List UInt8):DO:=⟨ofP 12 [iz,nxV s],nxV (nxS s),0,0⟩
theorem D6 (s:List UInt8) (q p:Nat) (hp:p<16) (hq:q≤p):cP s (1+(q:Int)) (1+(p:Int))=⟨bE s,fdP (nxS s) q (List.range (p+1)),nxS (nxS (nxS s)),0⟩:=by
 have h:kO (1+(q:Int)) (1+(p:Int))=true:=by
  unfold kO;simp only[Bool.and_eq_true,decide_eq_true_eq]
  omega
 rw[tB _ _ _ h,show (1+(q:Int)-1).toNat=q by omega,show (1+(p:Int)).toNat=p+1 by omega]
 rfl
theorem FO (s:List UInt8):(bE s).mach:=⟨tE _ _,by show okI 0;unfold okI;decide,by show okI 0;unfold okI;decide⟩
theorem lC (s:List UInt8):bD (bE s)=true:=by unfold bE bD;simp[cL]
theorem Cu (s:List UInt8) {nx:Int} {l:List K} (h:aP nx l=true):ch (bE s).key (cG (bE s) sb) l=true∧dbE (bE s) sb l=0∧dbX (bE s) sb l=bX (bE s).key (cG (bE s) sb) l∧dbD (bE s) sb l={ bE s with bk:=0+1 } :=
 Ee (lC s) (by show (0:Int)≠2147483647;decide) (yD h).1 (yD h).2 (zR h)
theorem kT (s:List UInt8):(cG (bE s) sb).mach:=⟨tE _ _,rfl,by intro x hx;simp[cG,bE,sb,zB] at hx;rcases hx with rfl|rfl|rfl|rfl;all_goals (unfold okI;decide),by show 1≤maxLen;unfold maxLen;decide⟩
theorem Iw (s:List UInt8) (q p:Nat) (hp:p<16) (hq:q≤p) (hs:s.length≤100) (w:World) (hk:KAt w) :
  Calls Tryz.prog 10 #[.agg (ag s),.int .i64 (1+(q:Int)),.int .i64 (1+(p:Int))] w fun e w'=>∃a c,e = .returned (.tuple #[.agg (doA (bE s)),.slice a (p+1:Nat) c,.agg (ag (nxS (nxS (nxS s)))),.int .i64 0])∧RdE eH w' (.slice a (p+1:Nat) c) (fdP (nxS s) q (List.range (p+1)))∧Below w.heap.size w w':=by
 have h:=xN s (1+(q:Int)) (1+(p:Int)) w hk (by omega);rw[D6 s q p hp hq] at h;refine h.mono fun e w' ⟨v,he,ho,hb⟩ => ?_;have hr:=ho.rd;obtain⟨a,c,hv,_⟩:=id hr;rw[jq,List.length_range] at hv;subst hv;exact⟨a,c,he,hr,hb⟩
theorem Np (s:List UInt8) (nx:Int) (l:List K) (h:aP nx l=true) (v:Value) (w:World) (hk:KAt w) (hv:RdK w v l) (hn:cQ l) :
  Calls Tryz.prog 19 #[.agg (doA (bE s)),.agg (tbA nx v),.agg (bc sb ah)] w fun e w'=>e = .returned (.tuple #[.agg (doA { bE s with bk:=0+1 }),.string ⟨(bX (bE s).key (cG (bE s) sb) l).toArray⟩,.int .i64 0])∧Below w.heap.size w w':=by
 have h2:=pV (bE s) sb nx v none 0 0 l w hk hv (FO s) mg hn;obtain⟨_,e1,e2,e3⟩:=Cu s h;rw[e1,e2,e3] at h2;exact h2
theorem Nq (s:List UInt8) (q p:Nat) (hp:p<16) (ps:List UInt8) (hl:ps.length≤40) (v va:Value) (w:World) (hv:RdE eH w v (fdP s q (List.range (p+1)))) (hp2:RdE eB w va ps) :
  Calls Tryz.prog 30 #[v,va] w fun e w'=>∃a c,e = .returned (.slice a (gG (p+1) ps).length c)∧RdE eH w' (.slice a (gG (p+1) ps).length c) (fdP s q (gG (p+1) ps))∧Below w.heap.size w w':=by
 have hlen:(fdP s q (List.range (p+1))).length=p+1:=by rw[jq,List.length_range]
 have h:=Je _ ps v va w hv hp2 (by rw[hlen];omega) (by rw[hlen];omega) (by omega);rw[hlen,Iy s q (p+1) (by omega) ps] at h;refine h.mono fun e w' ⟨v',he,ho,hb⟩ => ?_;have hr:=ho.rd;obtain⟨a,c,hv2,_⟩:=id hr;rw[jq] at hv2;subst hv2;exact⟨a,c,he,hr,hb⟩
theorem IA (s:List UInt8) (nx:Int) (l:List K) (h:aP nx l=true) (P:List SH) (hc:ci P≠0) (v:Value) (w:World) (hk:KAt w) (hv:RdE eH w v P) :
  Calls Tryz.prog 21 #[.string ⟨(bX (bE s).key (cG (bE s) sb) l).toArray⟩,v] w fun e w'=>∃b a c g,e = .returned (.tuple #[.agg (bc b (.slice a 0 c)),.int .i64 g])∧(g != 0)=true∧RdK w' (.slice a 0 c) []∧Below w.heap.size w w':=by
 obtain⟨o1,_⟩:=Cu s h;have h2:=j6 _ P v w hk hv (Nat.le_trans (lf _ _ _ (kT s) o1) (by decide));obtain⟨e1,e2⟩:=Rp (kT s) o1 hc;rw[e1,e2] at h2;refine h2.mono fun e w' ⟨va,vn,vc,he,hr,hb⟩ => ?_;obtain⟨a,c,hv2,_⟩:=id hr
 cases hv2
 exact⟨_,_,_,_,he,by rw[bne_iff_ne];exact hc,hr,hb⟩
theorem IB (s:List UInt8) (nx:Int) (l:List K) (h:aP nx l=true) (hn:cQ l) (P:List SH) (hc:ci P=0) (hp:eU P=(bE s).key) (v:Value) (w:World) (hk:KAt w) (hv:RdE eH w v P) :
  Calls Tryz.prog 21 #[.string ⟨(bX (bE s).key (cG (bE s) sb) l).toArray⟩,v] w fun e w'=>∃a c,e = .returned (.tuple #[.agg (bc (cG (bE s) sb) (.slice a l.length c)),.int .i64 0])∧RdK w' (.slice a l.length c) l∧Below w.heap.size w w':=by
 obtain⟨o1,_⟩:=Cu s h;have h2:=j6 _ P v w hk hv (Nat.le_trans (lf _ _ _ (kT s) o1) (by decide));obtain⟨e1,e2,e3⟩:=qZ (kT s) hn o1 hc hp;rw[e1,e2,e3] at h2;refine h2.mono fun e w' ⟨va,vn,vc,he,hr,hb⟩ => ?_;obtain⟨a,c,hv2,_⟩:=id hr
 cases hv2
 exact⟨_,_,he,hr,hb⟩
theorem Iz (nx:Int) (v u:Value) (l:List K) (w:World) (hv:RdK w v l) (hu:RdK w u l) :
  Calls Tryz.prog 26 #[.agg (tbA nx v),.agg (tbA nx u)] w fun e w'=>e = .returned (.bool true)∧Below w.heap.size w w':=by
 have h:=Rh nx nx v u l l w hv hu;rw[show decide (nx=nx∧l=l)=true by simp] at h;exact h
theorem uU {nx:Int} {l:List K} {b:BK} {m:List K} (h:oC nx l b m=true):aP nx l=true:=by
 unfold oC at h;simp only[Bool.and_eq_true] at h;exact h.2.2.2.2
theorem D5 (nx:Int) (v:Value) (l:List K) (w:World) (hv:RdK w v l):Calls Tryz.prog 17 #[.agg (tbA nx v),.agg (bc zB ah)] w fun e w'=>e = .returned (.bool (oC nx l zB []))∧Below w.heap.size w w' :=
 EG nx v l zB ah [] w hv (RdK.nil w)
theorem Nt (s:List UInt8) (q p:Nat) (ps:List UInt8) (hp:p<16) (hq:q≤p) (hl:ps.length≤40) (h:q+1≤(gG (p+1) ps).length):eU (fdP (nxS s) q (gG (p+1) ps))=(bE s).key:=(Ix (nxS s) q p ps hp hq hl h).2
theorem RC (s:List UInt8):(bE s).id=(cG (bE s) sb).dom:=rfl
theorem Ns (s:List UInt8):(cG (bE s) sb).num=1:=rfl
theorem DL (n:Int) (v:Value) : #[.int .i64 n,v]=tbA n v:=rfl
theorem WY (n:Int) (v:Value):(tbA n v)[0]?=some (.int .i64 n):=rfl
end
end Go.Proofs.YtmfiaadjdbemnaaGreatDoor
