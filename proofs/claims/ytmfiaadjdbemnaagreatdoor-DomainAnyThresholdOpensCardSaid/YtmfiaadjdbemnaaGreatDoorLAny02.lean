/- Contracts and lemmas. No condition. -/
import Derived.Test.YtmfiaadjdbemnaaGreatDoorLAny01
import Derived.Test.YtmfiaadjdbemnaaGreatDoorSB16
namespace Go.Proofs.YtmfiaadjdbemnaaGreatDoor
section
open Go.RowKit Go.Shelf
structure PK where
 dom:List UInt8
 pol:List UInt8
 fw:Int
 num:Int
def pc (p:PK):Array Value := #[aq p.dom 0,aq p.dom 1,aq p.dom 2,aq p.dom 3,aq p.dom 4,aq p.dom 5,aq p.dom 6,aq p.dom 7,aq p.dom 8,aq p.dom 9,aq p.dom 10,aq p.dom 11,aq p.dom 12,aq p.dom 13,aq p.dom 14,aq p.dom 15,aq p.pol 0,aq p.pol 1,aq p.pol 2,aq p.pol 3,aq p.pol 4,aq p.pol 5,aq p.pol 6,aq p.pol 7,aq p.pol 8,aq p.pol 9,aq p.pol 10,aq p.pol 11,aq p.pol 12,aq p.pol 13,aq p.pol 14,aq p.pol 15,.int .i64 p.fw,.int .i64 p.num]
open Go.RowKit Go.Shelf
theorem du (d:Nat) (xs ys:Array Value) (f:Field) (fs:List Field) (hn:f.name ≠ "_") (w:World) (a b:Value) (r:Bool) (h1:(part f.type xs f.offset).run Tryz.prog w = .ok a w) (h2:(part f.type ys f.offset).run Tryz.prog w = .ok b w)
  (h3:(Op.equalIn d f.type a b).run Tryz.prog w = .ok r w):(Op.eqFields d xs ys (f::fs)).run Tryz.prog w=if r=true then (Op.eqFields d xs ys fs).run Tryz.prog w else .ok false w:=by
 simp only[Op.eqFields,hn,ne_eq,not_false_eq_true,if_true,Sem.run_bind,h1,h2,h3,Result.andThen_ok]
 cases r <;> rfl
open Go.RowKit Go.Shelf
theorem JP:(Tryz.prog.fieldsOf 86).toList.map (fun f=>(f.name == "_",f.type,f.offset))=[(false,3,0),(false,3,1),(false,9,2),(false,3,3),(false,3,4),(false,3,5),(false,3,6),(false,3,7),(false,4,8)]:=by kernel_rfl
theorem pT (w:World):(isAgg 3).run Tryz.prog w = .ok false w:=by simp[isAgg,run_underlying Tryz.underlying3]
theorem U3 (w:World):(isAgg 9).run Tryz.prog w = .ok false w:=by simp[isAgg,run_underlying Tryz.underlying9]
theorem U2 (w:World):(isAgg 4).run Tryz.prog w = .ok false w:=by simp[isAgg,run_underlying Tryz.underlying4]
def kEq (a b:K):Bool:=(a.id == b.id) && ((a.ty == b.ty) && ((a.val == b.val) && ((a.uses == b.uses) && ((a.start == b.start) && ((a.fin == b.fin) && ((a.ver == b.ver) && ((a.par == b.par) && ((a.raw == b.raw)))))))))
theorem Ke (a b:K):kEq a b=decide (a=b):=by
 rw[Bool.eq_iff_iff];obtain⟨⟩:=a;obtain⟨⟩:=b
 simp[kEq]
theorem Fa (a b:K) (w:World):(binOp .neq 86 (.agg (kc a)) (.agg (kc b))).run Tryz.prog w = .ok (.bool (!kEq a b)) w:=by
 rw[run_neq_struct]
 have ht:Tryz.prog.underlying 86=some (.struct (Tryz.prog.fieldsOf 86)):=by kernel_rfl
 have hp:Tryz.prog.stoodInHeld 86=false:=by kernel_rfl
 rw[show (10000:Nat)=9999+1 from rfl,run_equalIn_struct w 9999 _ _ _ ht hp];have hf:=JP;generalize (Tryz.prog.fieldsOf 86).toList=fs at hf
 rcases fs with _|⟨f0,_|⟨f1,_|⟨f2,_|⟨f3,_|⟨f4,_|⟨f5,_|⟨f6,_|⟨f7,_|⟨f8,_|⟨f9,fs⟩⟩⟩⟩⟩⟩⟩⟩⟩⟩
 case cons.cons.cons.cons.cons.cons.cons.cons.cons.nil =>
  simp only[List.map_cons,List.map_nil,List.cons.injEq,Prod.mk.injEq,and_true] at hf;obtain⟨⟨n0,t0,o0⟩,⟨n1,t1,o1⟩,⟨n2,t2,o2⟩,⟨n3,t3,o3⟩,⟨n4,t4,o4⟩,⟨n5,t5,o5⟩,⟨n6,t6,o6⟩,⟨n7,t7,o7⟩,⟨n8,t8,o8⟩⟩:=hf
  have m0:f0.name ≠ "_" := by simpa using n0
  have m1:f1.name ≠ "_" := by simpa using n1
  have m2:f2.name ≠ "_" := by simpa using n2
  have m3:f3.name ≠ "_" := by simpa using n3
  have m4:f4.name ≠ "_" := by simpa using n4
  have m5:f5.name ≠ "_" := by simpa using n5
  have m6:f6.name ≠ "_" := by simpa using n6
  have m7:f7.name ≠ "_" := by simpa using n7
  have m8:f8.name ≠ "_" := by simpa using n8
  have e0:(Op.equalIn 9999 3 (.int .i64 a.id) (.int .i64 b.id)).run Tryz.prog w = .ok (a.id == b.id) w:=run_equalIn_int w 9998 _ _ _ _ _ Tryz.underlying3;have e1:(Op.equalIn 9999 3 (.int .i64 a.ty) (.int .i64 b.ty)).run Tryz.prog w = .ok (a.ty == b.ty) w:=run_equalIn_int w 9998 _ _ _ _ _ Tryz.underlying3
  have e2:(Op.equalIn 9999 9 (.string ⟨a.val.toArray⟩) (.string ⟨b.val.toArray⟩)).run Tryz.prog w = .ok (a.val == b.val) w:=by rw[run_equalIn_string w 9998 _ _ _ Tryz.underlying9,qY]
  have e3:(Op.equalIn 9999 3 (.int .i64 a.uses) (.int .i64 b.uses)).run Tryz.prog w = .ok (a.uses == b.uses) w:=run_equalIn_int w 9998 _ _ _ _ _ Tryz.underlying3;have e4:(Op.equalIn 9999 3 (.int .i64 a.start) (.int .i64 b.start)).run Tryz.prog w = .ok (a.start == b.start) w:=run_equalIn_int w 9998 _ _ _ _ _ Tryz.underlying3;have e5:(Op.equalIn 9999 3 (.int .i64 a.fin) (.int .i64 b.fin)).run Tryz.prog w = .ok (a.fin == b.fin) w:=run_equalIn_int w 9998 _ _ _ _ _ Tryz.underlying3;have e6:(Op.equalIn 9999 3 (.int .i64 a.ver) (.int .i64 b.ver)).run Tryz.prog w = .ok (a.ver == b.ver) w:=run_equalIn_int w 9998 _ _ _ _ _ Tryz.underlying3;have e7:(Op.equalIn 9999 3 (.int .i64 a.par) (.int .i64 b.par)).run Tryz.prog w = .ok (a.par == b.par) w:=run_equalIn_int w 9998 _ _ _ _ _ Tryz.underlying3;have e8:(Op.equalIn 9999 4 (.bool a.raw) (.bool b.raw)).run Tryz.prog w = .ok (a.raw == b.raw) w:=run_equalIn_bool w 9998 _ _ _ Tryz.underlying4
  rw[du 9999 _ _ f0 _ m0 w (.int .i64 a.id) (.int .i64 b.id) (a.id == b.id) (by rw[t0,o0];simp[part,pT,kc]) (by rw[t0,o0];simp[part,pT,kc]) (by rw[t0];exact e0),
   du 9999 _ _ f1 _ m1 w (.int .i64 a.ty) (.int .i64 b.ty) (a.ty == b.ty) (by rw[t1,o1];simp[part,pT,kc]) (by rw[t1,o1];simp[part,pT,kc]) (by rw[t1];exact e1),
   du 9999 _ _ f2 _ m2 w (.string ⟨a.val.toArray⟩) (.string ⟨b.val.toArray⟩) (a.val == b.val) (by rw[t2,o2];simp[part,U3,kc]) (by rw[t2,o2];simp[part,U3,kc]) (by rw[t2];exact e2),
   du 9999 _ _ f3 _ m3 w (.int .i64 a.uses) (.int .i64 b.uses) (a.uses == b.uses) (by rw[t3,o3];simp[part,pT,kc]) (by rw[t3,o3];simp[part,pT,kc]) (by rw[t3];exact e3),
   du 9999 _ _ f4 _ m4 w (.int .i64 a.start) (.int .i64 b.start) (a.start == b.start) (by rw[t4,o4];simp[part,pT,kc]) (by rw[t4,o4];simp[part,pT,kc]) (by rw[t4];exact e4),
   du 9999 _ _ f5 _ m5 w (.int .i64 a.fin) (.int .i64 b.fin) (a.fin == b.fin) (by rw[t5,o5];simp[part,pT,kc]) (by rw[t5,o5];simp[part,pT,kc]) (by rw[t5];exact e5),
   du 9999 _ _ f6 _ m6 w (.int .i64 a.ver) (.int .i64 b.ver) (a.ver == b.ver) (by rw[t6,o6];simp[part,pT,kc]) (by rw[t6,o6];simp[part,pT,kc]) (by rw[t6];exact e6),
   du 9999 _ _ f7 _ m7 w (.int .i64 a.par) (.int .i64 b.par) (a.par == b.par) (by rw[t7,o7];simp[part,pT,kc]) (by rw[t7,o7];simp[part,pT,kc]) (by rw[t7];exact e7),
   du 9999 _ _ f8 _ m8 w (.bool a.raw) (.bool b.raw) (a.raw == b.raw) (by rw[t8,o8];simp[part,U2,kc]) (by rw[t8,o8];simp[part,U2,kc]) (by rw[t8];exact e8)]
  unfold kEq
  cases (a.id == b.id)
  ·rfl
  cases (a.ty == b.ty)
  ·rfl
  cases (a.val == b.val)
  ·rfl
  cases (a.uses == b.uses)
  ·rfl
  cases (a.start == b.start)
  ·rfl
  cases (a.fin == b.fin)
  ·rfl
  cases (a.ver == b.ver)
  ·rfl
  cases (a.par == b.par)
  ·rfl
  cases (a.raw == b.raw)
  ·rfl
  rfl
 all_goals simp at hf
end
end Go.Proofs.YtmfiaadjdbemnaaGreatDoor
