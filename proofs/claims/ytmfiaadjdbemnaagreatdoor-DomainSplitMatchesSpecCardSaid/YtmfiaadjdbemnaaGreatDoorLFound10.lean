/- Contracts and lemmas. No condition. -/
import Derived.Test.YtmfiaadjdbemnaaGreatDoorLFound08
set_option maxRecDepth 100000
set_option maxHeartbeats 8000000
set_option linter.unusedSimpArgs false
set_option linter.unusedVariables false
namespace Go.Proofs.YtmfiaadjdbemnaaGreatDoor
open Go.Proofs.Tryz
section
open Go.RowKit Go.Shelf
theorem Rf {ops:Array Oper} {C:World→Prop} {Q:Act→Prop} {a:Act} {o:Oper} {rest:List Oper} (s:SH) (g off:Nat) (x:Operand) (hC:∀w',C w'→w'.rangeAt g off (shc s)) (ho:o.op = .load 103 x)
  (hx:a.eval x = .pointer (some ⟨g,off,none⟩)) (hw:Region.wanted o (yielded ops a.tmps)=true)
  (h:wpQuiet prog ops C Q rest (a.put o.dst (.agg (shA s)))):wpQuiet prog ops C Q (o::rest) a:=by
 unfold wpQuiet;rw[G_ hw];refine⟨.agg (shA s),fun w' hw' => ?_,h⟩;have hl:(loadVar 103 ⟨g,off,none⟩).run prog w' = .ok (.agg (shA s)) w':=run_loadVar_mid w' g off _ (shc s) _ (hC w' hw') underlying103 rfl (by rw[qT];exact js);unfold Oper.quietAt execOp;simp only[ho,hx,Instr.loadAt,Instr.sureAddr,Sem.run_bind,Sem.run_pure,Result.andThen_ok,hl];exact⟨rfl,rfl⟩
theorem AD (x:List UInt8):dEq x x=true:=by unfold dEq;simp
theorem JH (s:SH):(shA s).extract 0 (0+16)=am s.set:=by
 rw[shA,shc,List.extract_toArray,List.extract_eq_take_drop,L_];rw[show (0+16-0)=(am s.set).toList.length by rw[show (am s.set).toList.length=16 by rfl],List.take_left]
theorem tG (cs:Array Value) (off:Nat) (v:Value) (h:cs[off]?=some v) (w:World):(part 9 cs off).run prog w = .ok v w:=by
 have h1:(isAgg 9).run prog w = .ok false w:=by simp[isAgg,run_underlying underlying9]
 simp[part,h1,h]
theorem GA:(prog.fieldsOf 103).toList.map (fun f=>(f.name == "_",f.type,f.offset))=[(false,23,0),(false,3,16),(false,3,17),(false,9,18)]:=by kernel_rfl
theorem SV (s:SH) (w:World):(binOp .neq 103 (.agg (shA s)) (.agg (shA s))).run prog w = .ok (.bool false) w:=by
 rw[run_neq_struct]
 have ht:prog.underlying 103=some (.struct (prog.fieldsOf 103)):=by kernel_rfl
 have hp:prog.stoodInHeld 103=false:=by kernel_rfl
 rw[show (10000:Nat)=9999+1 from rfl,run_equalIn_struct w 9999 _ _ _ ht hp];have hf:=GA;generalize (prog.fieldsOf 103).toList=fs at hf
 rcases fs with _|⟨f1,_|⟨f2,_|⟨f3,_|⟨f4,_|⟨f5,fs⟩⟩⟩⟩⟩
 ·simp at hf
 ·simp at hf
 ·simp at hf
 ·simp at hf
 ·simp only[List.map_cons,List.map_nil,List.cons.injEq,Prod.mk.injEq,and_true] at hf
  obtain⟨⟨a1,a2,a3⟩,⟨b1,b2,b3⟩,⟨c1,c2,c3⟩,⟨d1,d2,d3⟩⟩:=hf
  have na:f1.name ≠ "_" := by simpa using a1
  have nb:f2.name ≠ "_" := by simpa using b1
  have nc:f3.name ≠ "_" := by simpa using c1
  have nd:f4.name ≠ "_" := by simpa using d1
  have e1:=nL 9997 s.set s.set w;have e2:(Op.equalIn 9999 3 (.int .i64 s.need) (.int .i64 s.need)).run prog w = .ok (s.need == s.need) w:=run_equalIn_int w 9998 _ _ _ _ _ underlying3;have e3:(Op.equalIn 9999 3 (.int .i64 s.idx) (.int .i64 s.idx)).run prog w = .ok (s.idx == s.idx) w:=run_equalIn_int w 9998 _ _ _ _ _ underlying3
  have e4:(Op.equalIn 9999 9 (.string ⟨s.data.toArray⟩) (.string ⟨s.data.toArray⟩)).run prog w = .ok (s.data == s.data) w:=by rw[run_equalIn_string w 9998 _ _ _ underlying9,qY]
  have p16:(shA s)[16]?=some (.int .i64 s.need):=by rw[cU];exact vQ s
  have p17:(shA s)[17]?=some (.int .i64 s.idx):=by rw[cU];exact jU s
  have p18:(shA s)[18]?=some (.string ⟨s.data.toArray⟩):=by rw[cU];exact pG s
  rw[du 9999 _ _ f1 _ na w (.agg (am s.set)) (.agg (am s.set)) (dEq s.set s.set) (by rw[a2,a3,tF,JH]) (by rw[a2,a3,tF,JH]) (by rw[a2];exact e1),
   du 9999 _ _ f2 _ nb w (.int .i64 s.need) (.int .i64 s.need) (s.need == s.need) (by rw[b2,b3];exact kA _ _ _ p16 w) (by rw[b2,b3];exact kA _ _ _ p16 w) (by rw[b2];exact e2),
   du 9999 _ _ f3 _ nc w (.int .i64 s.idx) (.int .i64 s.idx) (s.idx == s.idx) (by rw[c2,c3];exact kA _ _ _ p17 w) (by rw[c2,c3];exact kA _ _ _ p17 w) (by rw[c2];exact e3),
   du 9999 _ _ f4 _ nd w (.string ⟨s.data.toArray⟩) (.string ⟨s.data.toArray⟩) (s.data == s.data) (by rw[d2,d3];exact tG _ _ _ p18 w) (by rw[d2,d3];exact tG _ _ _ p18 w) (by rw[d2];exact e4)]
  rw[AD,beq_self_eq_true,beq_self_eq_true,beq_self_eq_true]
  rfl
 ·simp at hf
attribute [local irreducible] Calls shc shA
theorem Rg (v u:Value) (l:List SH) (w:World) (hv:RdE eH w v l) (hu:RdE eH w u l) :
  Calls prog 14 #[v,u] w fun e w'=>e = .returned (.bool true)∧Below w.heap.size w w':=by
 have HV:=O hv;have HU:=O hu;obtain⟨a,cap,rfl,hml2,hml,_⟩:=hv;obtain⟨a2,cap2,rfl,_,_,_⟩:=hu;unfold maxLen at hml
 have i0:((l.length:Int) != l.length)=false:=by rw[bne,beq_self_eq_true];rfl
 go_enter func14,ntmps14
 go_wp2
 go_loopw [5] (fun o wr=>∃i:Nat,i≤l.length∧o = .int .i64 i∧∃n,wr=w.drewN n) (fun o _=>l.length-(intOf o).toNat)
 case atStart=>exact⟨0,N_ _,rfl,0,rfl⟩
 case round =>
  obtain⟨i,hi,rfl,n,rfl⟩:=hrel
  by_cases hlt:i<l.length
  ·obtain⟨b,off,rfl,hb,hc⟩:=dA HV.out (by omega)
   obtain⟨b2,off2,rfl,hb2,hc2⟩:=dA HU.out (by omega);have HR1:=O (hc i hlt).1;have HR2:=O (hc2 i hlt).1;have hneq:=fun w'=>SV l[i] w';generalize l[i]=s at HR1 HR2 hneq
   have i1:(i:Int)<l.length:=by omega
   have HK:=O hlt;clear hc hc2 hlt hb hb2;go_wp2
   first |refine fR (by kernel_rfl) (by kernel_rfl) ?_|refine fG (by kernel_rfl) (by kernel_rfl) ?_
   go_big_quiet_step (fail)
   go_big_quiet_step (fail)
   go_big_quiet_step (fail)
   (refine Rf s b (off+i*19) (.tmp 19) (fun w' ⟨u,e⟩=>by rw[e];exact HR1.out) ?_ ?_ ?_ ?_;exact rfl;exact rfl;exact rfl;simp only[Act.put,B_,C_,D_])
   go_big_quiet_step (fail)
   go_big_quiet_step (fail)
   go_big_quiet_step (fail)
   (refine Rf s b2 (off2+i*19) (.tmp 23) (fun w' ⟨u,e⟩=>by rw[e];exact HR2.out) ?_ ?_ ?_ ?_;exact rfl;exact rfl;exact rfl;simp only[Act.put,B_,C_,D_])
   repeat (go_big_quiet_step (fail))
   refine h_ ?_;rintro _ ⟨nq,rfl⟩;go_wp2;go_roundw
   case rel=>exact⟨i+1,HK.out,by go_num,_,rfl⟩
   case measure=>have := HK.out;simp[intOf];omega
  ·have i1:(l.length:Int)≤i:=by omega
   clear hlt;go_wp2;go_ret;exact⟨rfl,ak _ (O_ _ _)⟩
end
section
open Go.ChangeShapes Go.WideShapes Go.ChangeAt Go.RowKit Go.Deep
set_option maxRecDepth 10000
section
variable {H:Type} {enc:TypeId × Value→H} {w:World} {ai:Nat} {sp:Nat→Bool} {held:Bool}
theorem sn:prog.underlying 25=some (.struct (prog.fieldsOf 25)):=by kernel_rfl
theorem EJ:((prog.fieldsOf 25).toList.map fun f=>(f.type,f.offset))=[(23,0),(9,16),(3,17),(3,18)]:=by kernel_rfl
theorem Ks (l:List Value) (h:l.length=19):∃c0 c1 c2 c3 c4 c5 c6 c7 c8 c9 c10 c11 c12 c13 c14 c15 c16 c17 c18,l=[c0,c1,c2,c3,c4,c5,c6,c7,c8,c9,c10,c11,c12,c13,c14,c15,c16,c17,c18]:=by
 match l,h with
 | c0::c1::c2::c3::c4::c5::c6::c7::c8::c9::c10::c11::c12::c13::c14::c15::c16::c17::c18::[],_=>exact⟨c0,c1,c2,c3,c4,c5,c6,c7,c8,c9,c10,c11,c12,c13,c14,c15,c16,c17,c18,rfl⟩
theorem Ey {fuel:Nat} {cs:List Value} {x:DataW H × List MemPlace} (h:DataW.trod enc prog w ai sp held fuel 25 cs=some x):∃(d:DO),cs=(doA d).toList∧d.mach:=by
 have hl:=iR sn (c:=19) (by kernel_rfl) h;obtain⟨n0,y0,h0⟩:=fld sn h 0 0 16 (by rw[EJ];rfl) (by kernel_rfl);obtain⟨d0,f0,g0⟩:=qm h0;obtain⟨z1,e1,w1⟩:=kq sn h 1 16 (by rw[EJ];rfl);obtain⟨z2,e2,w2⟩:=bR sn h 2 17 (by rw[EJ];rfl);obtain⟨z3,e3,w3⟩:=bR sn h 3 18 (by rw[EJ];rfl);clear h h0;obtain⟨c0,c1,c2,c3,c4,c5,c6,c7,c8,c9,c10,c11,c12,c13,c14,c15,c16,c17,c18,rfl⟩:=Ks cs hl;refine⟨⟨d0,z1,z2,z3⟩,?_,⟨g0,okN w2,okN w3⟩⟩;unfold am at f0
 simp at f0 e1 e2 e3
 obtain⟨rfl,rfl,rfl,rfl,rfl,rfl,rfl,rfl,rfl,rfl,rfl,rfl,rfl,rfl,rfl,rfl⟩:=f0;subst e1 e2 e3;unfold doA dmc
 rfl
theorem Fc {r:Reach} {b0:Nat} {v:Value} {d:DataW H} {ps:List MemPlace} (hval:Value.okWide prog w r b0 25 v) (hd:DataW.Trod enc prog w ai sp held 25 v d ps):∃(a:DO),v = .agg (doA a)∧a.mach:=by
 obtain⟨cs,rfl,fuel,hf⟩:=mK sn hval hd;obtain⟨a,hcs,h1⟩:=Ey hf;exact⟨a,by rw[oN hcs],h1⟩
theorem VS {fuel:Nat} {cs:List Value} {x:DataW H × List MemPlace} (h:DataW.trod enc prog w ai sp held fuel 26 cs=some x):∃n0 n1:Int,cs=[.int .i64 n0,.int .i64 n1]∧okI n0∧okI n1:=by
 obtain⟨xs,m,_,_,hl,hxs,hh⟩:=DataW.trod_array underlying26 h
 have hc:prog.cellsOf 26=2:=by kernel_rfl
 have hu:prog.cellsOf 3=1:=by kernel_rfl
 rw[hc] at hl;rw[hu] at hh
 have key:∀i,i<2→∃z:Int,cs[i]?=some (.int .i64 z)∧okI z:=by
  intro i hi;have h1:=hh i hi;rw[K_ (by omega:i<xs.length),Nat.mul_one] at h1;obtain⟨z,hz,_,hw⟩:=DataW.trod_int underlying3 h1;exact⟨z,CN hz,okN hw⟩
 obtain⟨z0,e0,w0⟩:=key 0 (by omega);obtain⟨z1,e1,w1⟩:=key 1 (by omega);obtain⟨c0,c1,rfl⟩:=E5 cs hl
 simp at e0 e1
 subst e0 e1;exact⟨z0,z1,rfl,w0,w1⟩
theorem O0 {r:Reach} {b0:Nat} {v:Value} {d:DataW H} {ps:List MemPlace} (hval:Value.okWide prog w r b0 26 v) (hd:DataW.Trod enc prog w ai sp held 26 v d ps):∃n0 n1:Int,v = .agg #[.int .i64 n0,.int .i64 n1]∧okI n0∧okI n1:=by
 simp only[Value.okWide,underlying26] at hval;obtain⟨cs,rfl,_,_⟩:=hval;obtain⟨fuel,hf⟩:=hd;obtain⟨n0,n1,hcs,h⟩:=VS hf;have hcs':cs.toList=[.int .i64 n0,.int .i64 n1]:=hcs;exact⟨n0,n1,by rw[oN hcs'],h⟩
end
end
end Go.Proofs.YtmfiaadjdbemnaaGreatDoor
