/- Contracts and lemmas. No condition. -/
import Derived.Test.YtmfiaadjdbemnaaGreatDoorSB26
set_option maxRecDepth 100000
set_option maxHeartbeats 8000000
set_option linter.unusedSimpArgs false
set_option linter.unusedVariables false
namespace Go.Proofs.YtmfiaadjdbemnaaGreatDoor
open Tryz
section
open Go.RowKit Go.Shelf
attribute [local irreducible] Calls shc shA
theorem Od (l:List SH) (v:Value) (w:World) (hv:RdE eH w v l) (hok:qu l=false) :
  Calls prog 140 #[v] w fun e w'=>e = .returned (.bool false)∧Below w.heap.size w w':=by
 obtain⟨a,cap,rfl,_,_,_⟩:=id hv
 by_cases h0:l.length=0
 ·have i0:(l.length:Int)=0:=by omega
  have i1:((l.length:Int) == 0)=true:=by rw[i0];rfl
  clear hv hok
  go_enter func140,ntmps140
  go_wp2;go_ret;exact⟨rfl,O_ _ _⟩
 ·obtain⟨b,off,rfl,hb,hc⟩:=dA hv (by omega)
  have c16:=(hc 0 (by omega)).2.1;have c18:=(hc 0 (by omega)).2.2.2;rw[Nat.zero_mul,Nat.add_zero] at c16 c18
  have hs:l.headD zS0=l[0]'(by omega):=by cases l with |nil=>simp at h0|cons s r=>rfl
  unfold qu at hok;rw[hs] at hok;generalize l[0]=s0 at c16 c18 hok
  have i0:((l.length:Int) == 0)=false:=by rw[U_];omega
  have hcs:(255:Int)<l.length∨(¬(255:Int)<l.length∧(s0.need<1∨(¬s0.need<1∧(16<s0.need∨(¬16<s0.need∧¬((1:Int)≤s0.data.length∧(s0.data.length:Int)≤64)))))):=by
   simp only[Bool.and_eq_false_iff,decide_eq_false_iff_not] at hok
   omega
  have his:∀y:World,Calls prog 107 #[.int .i64 (s0.data.length:Int)] y fun e w'=>e = .returned (.bool (decide ((1:Int)≤s0.data.length∧(s0.data.length:Int)≤64)))∧w'=y:=fun y=>by
   have h:=lR (s0.data.length:Int) y
   rwa [←Bool.decide_and] at h
  have HIS:=O his;have hp:0<l.length:=Nat.pos_of_ne_zero h0;have hp1:(1:Int)≤l.length:=Int.ofNat_le.2 hp;clear hv hok hc hs his h0 hb
  go_enter func140,ntmps140
  rcases hcs with h1|⟨h1,h2|⟨h2,h3|⟨h3,h4⟩⟩⟩
  all_goals
   try rw[V_ h4] at HIS
   go_wp2_with (go_at_call 107;refine(HIS.out _).mono ?_;rintro e x1 ⟨rfl,rfl⟩)
   go_ret;exact⟨rfl,O_ _ _⟩
end
section
open Go.RowKit Go.Shelf
theorem dy {ops:Array Oper} {C:World→Prop} {Q:Act→Prop} {a:Act} {o:Oper} {rest:List Oper} (d:List UInt8) (g off:Nat) (x:Operand) (hC:∀w',C w'→w'.rangeAt g off (am d).toList) (ho:o.op = .load 23 x)
  (hx:a.eval x = .pointer (some ⟨g,off,none⟩)) (hw:Region.wanted o (yielded ops a.tmps)=true)
  (h:wpQuiet prog ops C Q rest (a.put o.dst (.agg (am d)))):wpQuiet prog ops C Q (o::rest) a:=by
 unfold wpQuiet;rw[G_ hw];refine⟨.agg (am d),fun w' hw' => ?_,h⟩;have hl:(loadVar 23 ⟨g,off,none⟩).run prog w' = .ok (.agg (am d)) w':=run_loadVar_mid w' g off _ (am d).toList _ (hC w' hw') underlying23 rfl cC;unfold Oper.quietAt execOp;simp only[ho,hx,Instr.loadAt,Instr.sureAddr,Sem.run_bind,Sem.run_pure,Result.andThen_ok,hl];exact⟨rfl,rfl⟩
theorem zH (s:SH):∀(i:Nat) (x:Value),(am s.set).toList[i]?=some x→(shc s)[i]?=some x:=by
 intro i x h;unfold shc;rw[List.getElem?_append_left (d_.1 h).1];exact h
theorem x9 {w:World} {b off:Nat} {s:SH} (h:w.rangeAt b off (shc s)):w.rangeAt b off (am s.set).toList:=fun i x hx=>h i x (zH s i x hx)
theorem uV (a:SH) (p:List UInt8) (s:SH):(dEq s.set a.set=false∧kf a p s=false)∨(dEq s.set a.set=true∧s.need≠a.need∧kf a p s=false)∨(dEq s.set a.set=true∧s.need=a.need∧s.data.length≠a.data.length∧kf a p s=false) ∨
  (dEq s.set a.set=true∧s.need=a.need∧s.data.length=a.data.length∧s.idx<1∧kf a p s=false)∨(dEq s.set a.set=true∧s.need=a.need∧s.data.length=a.data.length∧¬s.idx<1∧255<s.idx∧kf a p s=false) ∨
  (dEq s.set a.set=true∧s.need=a.need∧s.data.length=a.data.length∧¬s.idx<1∧¬255<s.idx∧xb s∈p∧kf a p s=false) ∨
  (dEq s.set a.set=true∧s.need=a.need∧s.data.length=a.data.length∧¬s.idx<1∧¬255<s.idx∧xb s ∉ p∧kf a p s=true):=by
 unfold kf
 cases h1:dEq s.set a.set
 ·simp
 by_cases h2:s.need=a.need
 ·by_cases h3:s.data.length=a.data.length
  ·by_cases h4:s.idx<1
   ·have : ¬1≤s.idx:=by omega
    simp[h2,h3,h4,this]
   ·have g4:1≤s.idx:=by omega
    by_cases h5:255<s.idx
    ·have : ¬s.idx≤255:=by omega
     simp[h2,h3,h4,h5,this]
    ·have g5:s.idx≤255:=by omega
     by_cases h6:xb s∈p
     ·simp[h2,h3,h4,h5,h6]
     ·simp[h2,h3,h4,h5,h6,g4,g5]
  ·simp[h2,h3]
 ·simp[h2]
open Go.RowKit Go.Shelf
theorem oV {l:List SH} (h:qu l=true):1≤l.length∧l.length≤255∧1≤(l.headD zS0).need∧(l.headD zS0).need≤16∧1≤(l.headD zS0).data.length∧(l.headD zS0).data.length≤64:=by
 simp only[qu,T_,decide_eq_true_eq] at h;obtain⟨⟨⟨⟨⟨h1,h2⟩,h3⟩,h4⟩,h5⟩,h6⟩:=h;exact⟨h1,h2,h3,h4,h5,h6⟩
theorem wA (l:List SH) (k:Nat) (h:k<l.length):xsP (l.take (k+1))=xsP (l.take k)++[xb l[k]]:=by
 unfold xsP;rw[List.take_succ_eq_append_getElem h,List.map_append]
 rfl
theorem Ag (s:SH) (n:Nat) (h:s.idx=n) (h2:n≤255):(xb s).toNat=n:=by
 unfold xb;rw[h,Int.toNat_natCast,UInt8.toNat_ofNat']
 omega
attribute [local irreducible] Calls shc shA
theorem Oe (l:List SH) (v:Value) (w:World) (hv:RdE eH w v l) (hok:qu l=true) :
  Calls prog 140 #[v] w fun e w'=>e = .returned (.bool (kd (l.headD zS0) [] l))∧Below w.heap.size w w':=by
 obtain⟨h1,h2,h3,h4,h5,h6⟩:=oV hok;obtain⟨a,cap,rfl,_,_,_⟩:=id hv;obtain⟨b,off,rfl,hb,hc⟩:=dA hv h1;have c16:=(hc 0 h1).2.1;have c18:=(hc 0 h1).2.2.2;have hr0:=(hc 0 h1).1;rw[Nat.zero_mul,Nat.add_zero] at c16 c18 hr0
 have hs:l.headD zS0=l[0]:=by cases l with |nil=>simp at h1|cons s r=>rfl
 rw[hs] at h3 h4 h5 h6 ⊢;generalize l[0]=s0 at c16 c18 hr0 h3 h4 h5 h6 ⊢;have HC:Hid (∀y,Below w.heap.size w y→y.cell? ⟨b,off+16,none⟩=some (.int .i64 s0.need)∧y.cell? ⟨b,off+18,none⟩=some (.string ⟨s0.data.toArray⟩)∧y.rangeAt b off (am s0.set).toList∧∀j (hj:j<l.length),y.rangeAt b (off+j*19) (shc l[j])):=O (fun y hy=>⟨aQ hy c16,aQ hy c18,x9 (fun i x hx=>aQ hy (hr0 i x hx)),fun j hj i x hx=>aQ hy ((hc j hj).1 i x hx)⟩);have hz:=Fld.zero_seen;have hzs:=oA
 have i0:((l.length:Int) == 0)=false:=by rw[U_];omega
 have i1:(l.length:Int)≤255:=by omega
 have i2:(1:Int)≤l.length:=by omega
 have i3:(1:Int)≤s0.data.length:=by omega
 have i4:(s0.data.length:Int)≤64:=by omega
 have HL:=O h1;clear hv hok hc hs hb hr0
 go_enter func140,ntmps140
 have HIS:=O (fun (n:Int) (y:World)=>lR n y)
 go_upto_region 4 with (go_at_call 107;refine(HIS.out _ _).mono ?_;rintro e x1 ⟨rfl,hx⟩;replace hx:=hx.symm;subst hx)
 have HSN:Hid ((w.alloc (.cells (Fld.trow (Fld.seenB [])) 233)).heap[w.heap.size]?=some (.cells (Fld.trow (Fld.seenB (xsP (l.take 0)))) 233 (0,0))∧Below w.heap.size w (w.alloc (.cells (Fld.trow (Fld.seenB [])) 233))):=O ⟨heap_alloc_new _ _,(O_ _ _).alloc (A_ _) _⟩;go_wp2
 go_loopw [39] (fun i wr=>∃k:Nat,k≤l.length∧i = .int .i64 k∧Hid (kd s0 (xsP (l.take k)) (l.drop k)=kd s0 [] l)∧Hid (wr.heap[w.heap.size]?=some (.cells (Fld.trow (Fld.seenB (xsP (l.take k)))) 233 (0,0)))∧Hid (Below w.heap.size w wr)) (fun i _=>l.length-(intOf i).toNat)
 case atStart=>exact⟨0,N_ _,rfl,O rfl,O HSN.out.1,O HSN.out.2⟩
 case round =>
  obtain⟨k,hk,rfl,hfit,hsn,hb⟩:=hrel;have HQ:=O (HC.out _ hb.out)
  by_cases hlt:k<l.length
  ·have k1:(k:Int)<l.length:=by omega
   have HKL:=O hlt;have HR:=O (HQ.out.2.2.2 k hlt);have HXT:=O (wA l k hlt);have HDR:Hid (kd s0 [] l=(kf s0 (xsP (l.take k)) l[k] && kd s0 (xsP (l.take k)++[xb l[k]]) (l.drop (k+1)))):=O (by rw[←hfit.out,List.drop_eq_getElem_cons hlt];rfl);generalize l[k]=s at HR HXT HDR;generalize xsP (l.take k)=pr at HDR HXT hsn;clear hlt hk hfit
   go_upto_region 7 with (first
    |(refine vq s b (off+k*19) (.tmp 41) rfl HR.out rfl rfl ?_)
    |(refine aH (shA s) 103 rfl (.tmp 5) (.tmp 42) rfl _ rfl rfl rfl (by rw[cX];exact js) (by rw[cX,cX]) (nZ _) ?_))
   have HA9:Hid (Below wr.heap.size wr (wr.alloc (.cells (shA s) 103))∧(wr.alloc (.cells (shA s) 103)).heap[wr.heap.size]?=some (.cells (shA s) 103 (0,0))):=O ⟨(O_ _ _).alloc (A_ _) _,heap_alloc_new _ _⟩;simp only[Act.put];generalize wr.alloc (.cells (shA s) 103)=w9 at HA9 ⊢;have HB9:Hid (Below w.heap.size w w9):=O (hb.out.trans (HA9.out.1.mono hb.out.size));have HSN9:Hid (w9.heap[w.heap.size]?=some (.cells (Fld.trow (Fld.seenB pr)) 233 (0,0))):=O (by rw[HA9.out.1.block _ (Q_.1 hsn.out).1];exact hsn.out);have HQ9:=O (HC.out _ HB9.out);have HG9:=O HA9.out.2;generalize wr.heap.size=g9 at HG9 ⊢
   have d16:w9.cell? ⟨g9,1+15,none⟩=some (.int .i64 s.need):=by rw[e_ _ _ 16 _ _ _ HG9.out,cU];exact vQ s
   have e16:w9.cell? ⟨g9,16,none⟩=some (.int .i64 s.need):=d16
   have e18:w9.cell? ⟨g9,18,none⟩=some (.string ⟨s.data.toArray⟩):=by rw[e_ _ _ 18 _ _ _ HG9.out,cU];exact pG s
   have HRS:Hid (w9.rangeAt g9 0 (am s.set).toList):=O (fun i x hx=>by rw[e_ _ _ _ _ _ _ HG9.out,cU,a_];exact zH s i x hx);have f16:=HQ9.out.1;have f18:=HQ9.out.2.1;have hneq:=fun w=>sO s.set s0.set w;clear d16 HA9 hsn hb HQ HR c16 c18
   rcases uV s0 pr s with⟨hd,hft⟩|⟨hd,h2,hft⟩|⟨hd,h2,h3,hft⟩|⟨hd,h2,h3,h4,hft⟩|⟨hd,h2,h3,h4,h5,hft⟩|⟨hd,h2,h3,h4,h5,h6,hft⟩|⟨hd,h2,h3,h4,h5,h6,hft⟩
   ·rw[hd] at hneq
    have e17:w9.cell? ⟨g9,17,none⟩=some (.int .i64 s.idx):=by rw[e_ _ _ 17 _ _ _ HG9.out,cU];exact jU s
    first |refine fR (by kernel_rfl) (by kernel_rfl) ?_|refine fG (by kernel_rfl) (by kernel_rfl) ?_
    go_big_quiet_step (fail)
    (refine dy s.set g9 0 (.tmp 43) (fun w' ⟨u,e⟩=>by rw[e];exact HRS.out) ?_ ?_ ?_ ?_;exact rfl;exact rfl;exact rfl;simp only[Act.put,B_,C_,D_])
    go_big_quiet_step (fail)
    go_big_quiet_step (fail)
    go_big_quiet_step (fail)
    (refine dy s0.set b off (.tmp 47) (fun w' ⟨u,e⟩=>by rw[e];exact HQ9.out.2.2.1) ?_ ?_ ?_ ?_;exact rfl;exact rfl;exact rfl;simp only[Act.put,B_,C_,D_])
    repeat (go_big_quiet_step (fail))
    refine h_ ?_;rintro _ ⟨nq,rfl⟩;go_wp2;go_ret;exact⟨by rw[HDR.out,hft];rfl,ak nq HB9.out⟩
   ·rw[hd] at hneq
    have g2:(s.need != s0.need)=true:=by rw[bne_iff_ne];exact h2
    have e17:w9.cell? ⟨g9,17,none⟩=some (.int .i64 s.idx):=by rw[e_ _ _ 17 _ _ _ HG9.out,cU];exact jU s
    first |refine fR (by kernel_rfl) (by kernel_rfl) ?_|refine fG (by kernel_rfl) (by kernel_rfl) ?_
    go_big_quiet_step (fail)
    (refine dy s.set g9 0 (.tmp 43) (fun w' ⟨u,e⟩=>by rw[e];exact HRS.out) ?_ ?_ ?_ ?_;exact rfl;exact rfl;exact rfl;simp only[Act.put,B_,C_,D_])
    go_big_quiet_step (fail)
    go_big_quiet_step (fail)
    go_big_quiet_step (fail)
    (refine dy s0.set b off (.tmp 47) (fun w' ⟨u,e⟩=>by rw[e];exact HQ9.out.2.2.1) ?_ ?_ ?_ ?_;exact rfl;exact rfl;exact rfl;simp only[Act.put,B_,C_,D_])
    repeat (go_big_quiet_step (fail))
    refine h_ ?_;rintro _ ⟨nq,rfl⟩;go_wp2;go_ret;exact⟨by rw[HDR.out,hft];rfl,ak nq HB9.out⟩
   ·rw[hd] at hneq
    have g2:(s.need != s0.need)=false:=by rw[h2];simp
    have g3:((s.data.length:Int) != (s0.data.length:Int))=true:=by rw[bne_iff_ne];omega
    have e17:w9.cell? ⟨g9,17,none⟩=some (.int .i64 s.idx):=by rw[e_ _ _ 17 _ _ _ HG9.out,cU];exact jU s
    first |refine fR (by kernel_rfl) (by kernel_rfl) ?_|refine fG (by kernel_rfl) (by kernel_rfl) ?_
    go_big_quiet_step (fail)
    (refine dy s.set g9 0 (.tmp 43) (fun w' ⟨u,e⟩=>by rw[e];exact HRS.out) ?_ ?_ ?_ ?_;exact rfl;exact rfl;exact rfl;simp only[Act.put,B_,C_,D_])
    go_big_quiet_step (fail)
    go_big_quiet_step (fail)
    go_big_quiet_step (fail)
    (refine dy s0.set b off (.tmp 47) (fun w' ⟨u,e⟩=>by rw[e];exact HQ9.out.2.2.1) ?_ ?_ ?_ ?_;exact rfl;exact rfl;exact rfl;simp only[Act.put,B_,C_,D_])
    repeat (go_big_quiet_step (fail))
    refine h_ ?_;rintro _ ⟨nq,rfl⟩;go_wp2;go_ret;exact⟨by rw[HDR.out,hft];rfl,ak nq HB9.out⟩
   ·rw[hd] at hneq
    have g2:(s.need != s0.need)=false:=by rw[h2];simp
    have g3:((s.data.length:Int) != (s0.data.length:Int))=false:=by rw[h3];simp
    have e17:w9.cell? ⟨g9,17,none⟩=some (.int .i64 s.idx):=by rw[e_ _ _ 17 _ _ _ HG9.out,cU];exact jU s
    first |refine fR (by kernel_rfl) (by kernel_rfl) ?_|refine fG (by kernel_rfl) (by kernel_rfl) ?_
    go_big_quiet_step (fail)
    (refine dy s.set g9 0 (.tmp 43) (fun w' ⟨u,e⟩=>by rw[e];exact HRS.out) ?_ ?_ ?_ ?_;exact rfl;exact rfl;exact rfl;simp only[Act.put,B_,C_,D_])
    go_big_quiet_step (fail)
    go_big_quiet_step (fail)
    go_big_quiet_step (fail)
    (refine dy s0.set b off (.tmp 47) (fun w' ⟨u,e⟩=>by rw[e];exact HQ9.out.2.2.1) ?_ ?_ ?_ ?_;exact rfl;exact rfl;exact rfl;simp only[Act.put,B_,C_,D_])
    repeat (go_big_quiet_step (fail))
    refine h_ ?_;rintro _ ⟨nq,rfl⟩;go_wp2;go_ret;exact⟨by rw[HDR.out,hft];rfl,ak nq HB9.out⟩
   ·rw[hd] at hneq
    have g2:(s.need != s0.need)=false:=by rw[h2];simp
    have g3:((s.data.length:Int) != (s0.data.length:Int))=false:=by rw[h3];simp
    have e17:w9.cell? ⟨g9,17,none⟩=some (.int .i64 s.idx):=by rw[e_ _ _ 17 _ _ _ HG9.out,cU];exact jU s
    first |refine fR (by kernel_rfl) (by kernel_rfl) ?_|refine fG (by kernel_rfl) (by kernel_rfl) ?_
    go_big_quiet_step (fail)
    (refine dy s.set g9 0 (.tmp 43) (fun w' ⟨u,e⟩=>by rw[e];exact HRS.out) ?_ ?_ ?_ ?_;exact rfl;exact rfl;exact rfl;simp only[Act.put,B_,C_,D_])
    go_big_quiet_step (fail)
    go_big_quiet_step (fail)
    go_big_quiet_step (fail)
    (refine dy s0.set b off (.tmp 47) (fun w' ⟨u,e⟩=>by rw[e];exact HQ9.out.2.2.1) ?_ ?_ ?_ ?_;exact rfl;exact rfl;exact rfl;simp only[Act.put,B_,C_,D_])
    repeat (go_big_quiet_step (fail))
    refine h_ ?_;rintro _ ⟨nq,rfl⟩;go_wp2;go_ret;exact⟨by rw[HDR.out,hft];rfl,ak nq HB9.out⟩
   ·rw[hd] at hneq
    have g2:(s.need != s0.need)=false:=by rw[h2];simp
    have g3:((s.data.length:Int) != (s0.data.length:Int))=false:=by rw[h3];simp
    obtain⟨ix,hix⟩:∃ix:Nat,s.idx=(ix:Int):=⟨s.idx.toNat,by omega⟩;have hxn:(xb s).toNat=ix:=Ag s ix hix (by omega);have HXN:=O hxn
    have c17:w9.cell? ⟨w.heap.size,ix,none⟩=some (.bool (decide (xb s∈pr))):=by
     rw[e_ _ _ _ _ _ _ HSN9.out,←hxn,Fld.trow_get _ _ (by rw[Fld.seen_len];exact(xb s).toNat_lt),Fld.seen_at]
    have x1:(1:Int)≤ix:=by omega
    have x2:(ix:Int)≤255:=by omega
    have x3:ix<256:=by omega
    rw[decide_eq_true h6] at c17
    have e17:w9.cell? ⟨g9,17,none⟩=some (.int .i64 s.idx):=by rw[e_ _ _ 17 _ _ _ HG9.out,cU];exact jU s
    rw[hix] at e17 h4 h5;clear hxn
    first |refine fR (by kernel_rfl) (by kernel_rfl) ?_|refine fG (by kernel_rfl) (by kernel_rfl) ?_
    go_big_quiet_step (fail)
    (refine dy s.set g9 0 (.tmp 43) (fun w' ⟨u,e⟩=>by rw[e];exact HRS.out) ?_ ?_ ?_ ?_;exact rfl;exact rfl;exact rfl;simp only[Act.put,B_,C_,D_])
    go_big_quiet_step (fail)
    go_big_quiet_step (fail)
    go_big_quiet_step (fail)
    (refine dy s0.set b off (.tmp 47) (fun w' ⟨u,e⟩=>by rw[e];exact HQ9.out.2.2.1) ?_ ?_ ?_ ?_;exact rfl;exact rfl;exact rfl;simp only[Act.put,B_,C_,D_])
    repeat (go_big_quiet_step (fail))
    refine h_ ?_;rintro _ ⟨nq,rfl⟩;go_wp2;go_ret;exact⟨by rw[HDR.out,hft];rfl,ak nq HB9.out⟩
   ·rw[hd] at hneq
    have g2:(s.need != s0.need)=false:=by rw[h2];simp
    have g3:((s.data.length:Int) != (s0.data.length:Int))=false:=by rw[h3];simp
    obtain⟨ix,hix⟩:∃ix:Nat,s.idx=(ix:Int):=⟨s.idx.toNat,by omega⟩;have hxn:(xb s).toNat=ix:=Ag s ix hix (by omega);have HXN:=O hxn
    have c17:w9.cell? ⟨w.heap.size,ix,none⟩=some (.bool (decide (xb s∈pr))):=by
     rw[e_ _ _ _ _ _ _ HSN9.out,←hxn,Fld.trow_get _ _ (by rw[Fld.seen_len];exact(xb s).toNat_lt),Fld.seen_at]
    have x1:(1:Int)≤ix:=by omega
    have x2:(ix:Int)≤255:=by omega
    have x3:ix<256:=by omega
    rw[V_ h6] at c17
    have e17:w9.cell? ⟨g9,17,none⟩=some (.int .i64 s.idx):=by rw[e_ _ _ 17 _ _ _ HG9.out,cU];exact jU s
    rw[hix] at e17 h4 h5;clear hxn
    first |refine fR (by kernel_rfl) (by kernel_rfl) ?_|refine fG (by kernel_rfl) (by kernel_rfl) ?_
    go_big_quiet_step (fail)
    (refine dy s.set g9 0 (.tmp 43) (fun w' ⟨u,e⟩=>by rw[e];exact HRS.out) ?_ ?_ ?_ ?_;exact rfl;exact rfl;exact rfl;simp only[Act.put,B_,C_,D_])
    go_big_quiet_step (fail)
    go_big_quiet_step (fail)
    go_big_quiet_step (fail)
    (refine dy s0.set b off (.tmp 47) (fun w' ⟨u,e⟩=>by rw[e];exact HQ9.out.2.2.1) ?_ ?_ ?_ ?_;exact rfl;exact rfl;exact rfl;simp only[Act.put,B_,C_,D_])
    repeat (go_big_quiet_step (fail))
    refine h_ ?_;rintro _ ⟨nq,rfl⟩;have f17:=frozen_of_row _ _ ix _ _ HSN9.out;have HST:Hid (w9.setCell ⟨w.heap.size,ix,none⟩ (.bool true)=w9.setRow w.heap.size (Fld.trow (Fld.seenB (pr++[xb s])))):=O (by rw[au _ _ _ _ _ _ _ HSN9.out,Fld.trow_set,←HXN.out,Fld.seen_set]);go_wp2;simp only[HST.out];go_roundw
    case rel=>exact⟨k+1,HKL.out,by go_num,O (by rw[HXT.out,HDR.out,hft,Bool.true_and]),O (by rw[HXT.out];exact setRow_heap _ _ _ _ _ _ HSN9.out),O (ak nq (HB9.out.trans (aK (A_ _))))⟩
    case measure=>have := HKL.out;simp[intOf];omega
  ·have he:k=l.length:=by omega
   have k1:¬(k:Int)<l.length:=by omega
   have HF:Hid (kd s0 [] l=true):=O (by rw[←hfit.out,he,List.drop_length];rfl);clear he hlt hk hfit;go_wp2;go_ret;exact⟨by rw[HF.out];rfl,hb.out⟩
end
section
open Go.RowKit Go.Shelf
theorem C6 (l:List SH) (v:Value) (w:World) (hv:RdE eH w v l) :
  Calls prog 140 #[v] w fun e w'=>e = .returned (.bool (eO l))∧Below w.heap.size w w':=by
 cases h:qu l with
 | false=>rw[show eO l=false by unfold eO;rw[h];rfl];exact Od l v w hv h
 | true=>rw[show eO l=kd (l.headD zS0) [] l by unfold eO;rw[h];rfl];exact Oe l v w hv h
structure oO (l:List SH) (m d:Nat):Prop where
 h1:1≤m
 h2:m≤16
 hn:(l.headD zS0).need=m
 d1:1≤d
 d2:d≤64
 hd:Gv l=d
 len:l.length≤255
 pos:1≤l.length
 idx:∀s∈l,1≤s.idx∧s.idx≤255
 dat:∀s∈l,s.data.length=d
 nod:(xsP l).Nodup
theorem oW {l:List SH} (h:eO l=true):∃m d,oO l m d:=by
 unfold eO at h;rw[T_] at h;obtain⟨g1,g2,g3,g4,g5,g6⟩:=oV h.1;obtain⟨n1,n2⟩:=A0 _ l [] h.2 (fun _ _=>trivial) List.nodup_nil;refine⟨(l.headD zS0).need.toNat,Gv l,⟨by omega,by omega,by omega,g5,g6,rfl,g2,g1,fun s hs=>(n2 s hs).2,fun s hs=>(n2 s hs).1,by simpa using n1⟩⟩
theorem Ii (l:List SH) (m:Nat):xsP (l.take m)=(xsP l).take m:=by unfold xsP;rw[List.map_take]
theorem oO.okX {l:List SH} {m d:Nat} (h:oO l m d) (hm:m≤l.length):Fld.okX (xsP (l.take m))=true:=by
 have h1:=h.h1;have h2:=h.h2;unfold Fld.okX;simp only[T_,decide_eq_true_eq];refine⟨⟨?_,?_⟩,?_⟩
 ·rw[kL,b_];omega
 ·rw[kL,b_];omega
 ·rw[Ii];exact h.nod.sublist (List.take_sublist _ _)
theorem th {l:List SH} (h:eO l=false):ci l=1:=by unfold ci;rw[h];rfl
theorem ux {l:List SH} {m d:Nat} (h:eO l=true) (hF:oO l m d) (hlt:l.length<m):ci l=16:=by
 unfold ci;rw[G_ h,hF.hn,G_ (by omega)]
theorem uy {l:List SH} {m d:Nat} (h:eO l=true) (hF:oO l m d) (hm:m≤l.length):ci l=if (l.drop m).all (fun s=>decide (eW (l.take m) d (xb s)=s.data)) then 0 else 7:=by
 unfold ci Ia;rw[G_ h,hF.hn,H_ (by omega),Int.toNat_natCast,hF.hd]
theorem NN {l:List SH} {m d:Nat} (h:eO l=true) (hF:oO l m d) (hm:m≤l.length) (ha:∀j (hj:j<(l.drop m).length),eW (l.take m) d (xb (l.drop m)[j])=(l.drop m)[j].data):ci l=0:=by
 rw[uy h hF hm,G_];rw[List.all_eq_true];intro s hs;obtain⟨j,hj,rfl⟩:=List.mem_iff_getElem.1 hs;exact decide_eq_true (ha j hj)
theorem NP {l:List SH} {m d:Nat} (h:eO l=true) (hF:oO l m d) (hm:m≤l.length) (j:Nat) (hj:j<(l.drop m).length) (hb:eW (l.take m) d (xb (l.drop m)[j])≠(l.drop m)[j].data):ci l=7:=by
 rw[uy h hF hm,H_];rw[List.all_eq_true];intro hq;exact hb (of_decide_eq_true (hq _ (List.getElem_mem hj)))
theorem LU {α:Type} {E:El α} {w:World} {a:Option Addr} {cap:Nat} {l:List α} (hE:E.OK) (hv:RdE E w (.slice a l.length cap) l) (i:Nat) (hi:i≤l.length):RdE E w (sliced a i l.length cap E.c) (l.drop i):=by
 obtain⟨a',cap',e,h1,h2,h3⟩:=hv
 cases e
 have hl:(l.drop i).length=l.length-i:=S_;refine⟨_,cap-i,by rw[hl];rfl,by rw[hl];omega,by omega,fun h0 => ?_⟩;rw[hl] at h0;obtain⟨bb,off,rfl,hlt,hc⟩:=h3 (by omega)
 have hne:¬cap=i:=by omega
 rw[H_ hne]
 have gX:(⟨bb,off,none⟩:Addr).add (i*E.c)=⟨bb,off+i*E.c,none⟩:=by unfold Addr.add;simp
 refine⟨bb,off+i*E.c,by rw[Option.map_some,gX],hlt,fun k u hu => ?_⟩
 have hf:E.flat l=E.flat (l.take i)++E.flat (l.drop i):=by rw[←El.flat_append,List.take_append_drop]
 have hlen:(E.flat (l.take i)).length=i*E.c:=by rw[El.flat_len hE,b_,Nat.min_eq_left hi]
 have := hc (i*E.c+k) u (by rw[hf,List.getElem?_append_right (by omega),hlen,show i*E.c+k-i*E.c=k by omega];exact hu)
 rwa [←Nat.add_assoc] at this
theorem TH (w:World):(sizeOf (prog.elem 28)).run prog w = .ok 19 w:=by kernel_rfl
theorem Qb:prog.underlying 28=some (.slice (prog.elem 28)):=by kernel_rfl
theorem Fu {w:World} {a:Option Addr} {cap:Nat} {l:List SH} (hv:RdE eH w (.slice a l.length cap) l) (i:Nat) (hi:i≤l.length) :
  ∃a' cap',(∀y:World,(Instr.slice 28 (.slice a l.length cap) (some (.int .i64 i)) none none).run prog y = .ok (.slice a' (l.drop i).length cap') y)∧RdE eH w (.slice a' (l.drop i).length cap') (l.drop i):=by
 obtain⟨a0,c0,e0,h1,h2,_⟩:=id hv
 cases e0
 have h:=LU oI hv i hi;obtain⟨a',cap',e,_⟩:=id h;refine⟨a',cap',fun y => ?_,by rw[←e];exact h⟩;rw[run_slice_l y _ a _ cap Qb .i64 _ (by omega) (by omega),TH,←e]
 simp[Result.andThen]
 rfl
def Ip (lt : List SH) (d : Nat) (f : Value) (u : World) : Prop := ∃ p1 p2 : Nat, f = .func (.func 141) #[] #[.pointer (some ⟨p1, 0, none⟩), .pointer (some ⟨p2, 0, none⟩)] ∧
    ∀(x:UInt8) (y:World),Below u.heap.size u y→Calls prog 141 #[.int .u8 (B8 x),.pointer (some ⟨p1,0,none⟩),.pointer (some ⟨p2,0,none⟩)] y fun e y'=>e = .returned (.string ⟨(eW lt d x).toArray⟩)∧Below y.heap.size y y'
theorem AC {l:List SH} {m d:Nat} {f:Value} {u:World} (hF:oO l m d) (hm:m≤l.length) (hc:oH u f (l.take m)):Ip (l.take m) d f u:=by
 obtain⟨p1,p2,a,cap,vx,rfl,h1,h2,h3,h4⟩:=hc;have g1:=hF.h1;have g2:=hF.h2
 have hl:(l.take m).length=m:=by rw[b_];omega
 exact⟨p1,p2,rfl,fun x y hy=>Jl (l.take m) x d p1 p2 cap a vx y (aQ hy h1) (aQ hy h2) (h3.on hy) (h4.on hy) (hF.okX hm) (fun s hs=>hF.dat s (List.mem_of_mem_take hs)) (by omega) (by omega) hF.d2⟩
theorem RR (l:List SH) (v:Value) (w:World) (hv:RdE eH w v l) (hok:eO l=false) :
  Calls prog 86 #[v] w fun e w'=>e = .returned (.int .i64 1)∧Below w.heap.size w w':=by
 have h:=C6 l v w hv;rw[hok] at h;have HFT:=O h;clear h hv hok
 go_enter func86,ntmps86
 go_wp2
 go_step3
 go_wp2_with (go_at_call 140;refine HFT.out.mono ?_;rintro e w1 ⟨rfl,hb1⟩;have HB1:=O hb1;clear hb1)
 rw[Exit.noGoto_ret];go_ret;exact⟨rfl,HB1.out⟩
attribute [local irreducible] Calls shc shA
theorem RT (l:List SH) (m d:Nat) (v:Value) (w:World) (hv:RdE eH w v l) (hok:eO l=true) (hF:oO l m d) (hm:l.length<m) :
  Calls prog 86 #[v] w fun e w'=>e = .returned (.int .i64 16)∧Below w.heap.size w w':=by
 have h:=C6 l v w hv;rw[hok] at h;have HFT:=O h;obtain⟨a,cap,rfl,hcap,_,_⟩:=id hv;obtain⟨b,off,rfl,hb,hc⟩:=dA hv hF.pos;have c16:=(hc 0 hF.pos).2.1
 have hs:l.headD zS0=l[0]'hF.pos:=by have := hF.pos;cases l with |nil=>simp at this|cons s r=>rfl
 rw[Nat.zero_mul,Nat.add_zero,←hs,hF.hn] at c16;have HC:Hid (∀y,Below w.heap.size w y→y.cell? ⟨b,off+16,none⟩=some (.int .i64 m)):=O (fun y hy=>aQ hy c16);have hp:0<l.length:=hF.pos;have i1:(1:Int)≤l.length:=Int.ofNat_le.2 hp
 have i2:(l.length:Int)<m:=by omega
 have i3:(m:Int)≤16:=by have := hF.h2;omega
 clear h hv hok hc hs c16 hb hF hcap
 go_enter func86,ntmps86
 go_wp2
 go_step3
 go_wp2_with (go_at_call 140;refine HFT.out.mono ?_;rintro e w1 ⟨rfl,hb1⟩;have HB1:=O hb1;have c16:=HC.out _ hb1;clear hb1)
 rw[Exit.noGoto_ret];go_ret;exact⟨rfl,HB1.out⟩
theorem RU (l:List SH) (m d:Nat) (v:Value) (w:World) (hv:RdE eH w v l) (hok:eO l=true) (hF:oO l m d) (hm:m≤l.length) :
  Calls prog 86 #[v] w fun e w'=>e = .returned (.int .i64 (ci l))∧Below w.heap.size w w':=by
 have h:=C6 l v w hv;rw[hok] at h;have HFT:=O h;obtain⟨a,cap,rfl,hcap,_,_⟩:=id hv;obtain⟨a3,cap3,hsl,hv3⟩:=Fu hv m hm;obtain⟨b,off,rfl,hb,hc⟩:=dA hv hF.pos;have c16:=(hc 0 hF.pos).2.1
 have hs:l.headD zS0=l[0]'hF.pos:=by have := hF.pos;cases l with |nil=>simp at this|cons s r=>rfl
 rw[Nat.zero_mul,Nat.add_zero,←hs,hF.hn] at c16;have HC:Hid (∀y,Below w.heap.size w y→y.cell? ⟨b,off+16,none⟩=some (.int .i64 m)∧RdE eH y (.slice a3 (l.drop m).length cap3) (l.drop m)):=O (fun y hy=>⟨aQ hy c16,hv3.on hy⟩);have HCV:Hid (∀y,Below w.heap.size w y→Calls prog 87 #[.slice (some ⟨b,off,none⟩) l.length cap] y fun e w'=>∃f,e = .returned f∧oH w' f (l.take m)∧Below y.heap.size y w'):=O (fun y hy=>Es l m _ y (hv.on hy) hF.hn hF.h1 hm hF.len hF.h2 hF.idx);have HCC:Hid (∀(f:Value) (u:World),oH u f (l.take m)→Ip (l.take m) d f u):=O (fun f u hc=>AC hF hm hc);have HALL:=O (NN hok hF hm);have HBAD:=O (NP hok hF hm);have HIX:Hid (∀j (hj:j<(l.drop m).length),1≤(l.drop m)[j].idx∧(l.drop m)[j].idx≤255):=O (fun j hj=>hF.idx _ (List.mem_of_mem_drop (List.getElem_mem hj)));have hp:0<l.length:=hF.pos;have i1:(1:Int)≤l.length:=Int.ofNat_le.2 hp
 have i2:¬(l.length:Int)<m:=by omega
 have i3:(m:Int)≤16:=by have := hF.h2;omega
 have hrl:(l.drop m).length≤255:=by have := hF.len;rw[S_];omega
 have i4:((l.drop m).length:Int)≤255:=by omega
 have hzs:=oA;clear h hv hok hc hs c16 hb hF hcap hv3;generalize l.drop m=r at *;generalize ci l=res at *;generalize l.take m=lt at *
 go_enter func86,ntmps86
 go_wp2
 go_step3
 go_wp2_with (first
  |(go_at_call 140;refine HFT.out.mono ?_;rintro e w1 ⟨rfl,hb1⟩;have HB1:=O hb1;have c16:=(HC.out _ hb1).1;clear hb1)
  |(go_at_call 87;refine(HCV.out _ HB1.out).mono ?_;rintro e w2 ⟨f,rfl,hcur,hb2⟩;have HB2:=O (HB1.out.trans (hb2.mono HB1.out.size));obtain⟨p1,p2,rfl,hcc⟩:=HCC.out _ _ hcur;have HCU:=O hcc;clear hcc hcur hb2;have c16:=(HC.out _ HB2.out).1))
 go_step3
 go_wp2
 go_loopw [4,26] (fun e i wr=>e = .int .i64 0∧∃k:Nat,k≤r.length∧i = .int .i64 k∧Hid (∀j (hj:j<r.length),j<k→eW lt d (xb r[j])=r[j].data)∧Hid (Below w2.heap.size w2 wr)) (fun _ i _=>r.length-(intOf i).toNat)
 case atStart=>exact⟨rfl,0,N_ _,rfl,O (fun j _ hj=>absurd hj (by omega)),O (O_ _ _)⟩
 case round =>
  obtain⟨rfl,k,hk,rfl,hno,hb⟩:=hrel;have HBW:Hid (Below w.heap.size w wr):=O (HB2.out.trans (hb.out.mono HB2.out.size))
  by_cases hlt:k<r.length
  ·have k1:(k:Int)<r.length:=by omega
   have HKL:=O hlt;obtain⟨b3,off3,rfl,hb3,hc3⟩:=dA (HC.out wr HBW.out).2 (by omega);have HR3:=O (hc3 k hlt).1;have HIXK:=O (HIX.out k hlt);have HBD:=O (HBAD.out k hlt)
   have HNX:Hid (eW lt d (xb r[k])=r[k].data→∀j (hj:j<r.length),j<k+1→eW lt d (xb r[j])=r[j].data):=O (fun he j hj hj2=>by
    by_cases e:j=k
    ·subst e;exact he
    ·exact hno.out j hj (by omega))
   generalize r[k]=s at HR3 HIXK HBD HNX;have hw8:=tR s HIXK.out.1 HIXK.out.2
   have hm8:s.idx % 256=B8 (xb s):=by rw[←IntKind.wrap_u8];exact hw8
   clear hc3 hlt hk hb3 hno
   go_upto_region 9 with (first
    |(refine vq s b3 (off3+k*19) (.tmp 28) rfl HR3.out rfl rfl ?_)
    |(refine aH (shA s) 103 rfl (.tmp 6) (.tmp 29) rfl _ rfl rfl rfl (by rw[cX];exact js) (by rw[cX,cX]) (nZ _) ?_))
   have HA9:Hid (Below wr.heap.size wr (wr.alloc (.cells (shA s) 103))∧(wr.alloc (.cells (shA s) 103)).heap[wr.heap.size]?=some (.cells (shA s) 103 (0,0))):=O ⟨(O_ _ _).alloc (A_ _) _,heap_alloc_new _ _⟩;simp only[Act.put];generalize wr.alloc (.cells (shA s) 103)=w9 at HA9 ⊢;have HG9:=O HA9.out.2;have HB9:Hid (Below w2.heap.size w2 w9):=O (hb.out.trans (HA9.out.1.mono hb.out.size));generalize wr.heap.size=g9 at HG9 ⊢;have HX:Hid (∀y,Below w9.heap.size w9 y→y.cell? ⟨g9,17,none⟩=some (.int .i64 s.idx)∧y.cell? ⟨g9,18,none⟩=some (.string ⟨s.data.toArray⟩)∧Below w2.heap.size w2 y):=O (fun y hy=>⟨aQ hy (by rw[e_ _ _ 17 _ _ _ HG9.out,cU];exact jU s),aQ hy (by rw[e_ _ _ 18 _ _ _ HG9.out,cU];exact pG s),HB9.out.trans (hy.mono HB9.out.size)⟩);have HCK:=O (HCU.out (xb s));generalize eW lt d (xb s)=cu at HCK HBD HNX;clear HA9 HG9 HR3 hb c16;refine aY 7 [[],[],[1],[2],[0,3],[],[5]] (SP.of [.eq (.func (.func 141) #[] #[.pointer (some ⟨p1,0,none⟩),.pointer (some ⟨p2,0,none⟩)]),.eq (.pointer (some ⟨g9,17,none⟩)),.eq (.int .i64 s.idx),.eq (.int .u8 (B8 (xb s))),.eq (.string ⟨cu.toArray⟩),.eq (.pointer (some ⟨g9,18,none⟩)),.eq (.string ⟨s.data.toArray⟩)]) (fun i=>([u30,u31,u32,u33,u34,u35,u36]:List Value).getD i undef) ?h1 ?h2 ?h3 ?h4 ?h5 ?h6
   case h1=>kernel_rfl
   case h2=>kernel_rfl
   case h3=>kernel_rfl
   case h4 =>
    simp only[F_,c_]
    repeat (first |exact trivial|refine⟨fun vals v=>by kernel_rfl,?_⟩)
   case h5 =>
    simp only[F_,c_];refine⟨?_,?_,?_,?_,?_,?_,?_,trivial⟩
    all_goals (intro wq hbq vals;simp only[Nat.reduceAdd,a_,X_,W_];have HQ:=O (HX.out wq hbq);clear hbq;repeat (first |refine ar ?_|refine aw rfl ?_);intro Q hQ;simp only[ay,upd,Act.put,B_,C_,D_,Nat.reduceAdd,a_,Nat.reduceEqDiff,if_true,if_false,reduceIte])
    case refine_3 =>
     have c:=HQ.out.1;go_wp2;exact ab hQ _ (by kernel_rfl) (O_ _ _) rfl
    case refine_7 =>
     have c:=HQ.out.2.1;go_wp2;exact ab hQ _ (by kernel_rfl) (O_ _ _) rfl
    case refine_5 =>
     go_wp2_with (go_at_call 141;refine(HCK.out _ HQ.out.2.2).mono ?_;rintro e x1 ⟨rfl,hx1⟩)
     exact ab hQ _ (by kernel_rfl) hx1 rfl
    all_goals go_wp2
    all_goals exact ab hQ _ (by kernel_rfl) (O_ _ _) rfl
   case h6 =>
    intro wq hbq vals;have HQ:=O (HX.out wq hbq);clear hbq;rw[show List.range 7=[0,1,2,3,4,5,6] from by decide]
    repeat (first |refine ar ?_|refine aw rfl ?_)
    simp only[F_,c_,J_,L_];simp only[ay,upd,Act.put,B_,C_,D_,Nat.reduceAdd,a_,Nat.reduceEqDiff,if_true,if_false,reduceIte]
    by_cases hq:cu=s.data
    ·have HN:=O (HNX.out hq)
     have hs1:(cu == s.data)=true:=by rw[hq];simp
     clear hq;go_wp2;go_roundw
     case rel=>exact⟨rfl,k+1,HKL.out,by go_num,HN,O HQ.out.2.2⟩
     case measure=>have := HKL.out;simp[intOf];omega
    ·have HN:=O (HBD.out hq)
     have hs1:(cu == s.data)=false:=by rw[U_];exact hq
     clear hq;go_wp2;rw[Exit.noGoto_ret];go_ret;exact⟨by rw[HN.out];rfl,HB2.out.trans (HQ.out.2.2.mono HB2.out.size)⟩
  ·have he:k=r.length:=by omega
   have k1:¬(k:Int)<r.length:=by omega
   have HF:Hid (res=0):=O (HALL.out (fun j hj=>hno.out j hj (by omega)));clear he hlt hk hno;go_wp2
   try rw[Exit.noGoto_ret]
   go_ret;exact⟨by rw[HF.out];rfl,HBW.out⟩
end
end Go.Proofs.YtmfiaadjdbemnaaGreatDoor
