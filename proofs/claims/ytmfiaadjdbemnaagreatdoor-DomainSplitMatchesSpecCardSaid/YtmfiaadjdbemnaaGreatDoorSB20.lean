/- Contracts and lemmas. No condition. -/
import Derived.Test.YtmfiaadjdbemnaaGreatDoorSB18
import Derived.Test.YtmfiaadjdbemnaaGreatDoorSB19
set_option maxRecDepth 100000
set_option maxHeartbeats 8000000
set_option linter.unusedSimpArgs false
set_option linter.unusedVariables false
namespace Go.Proofs.YtmfiaadjdbemnaaGreatDoor
section
open Go.RowKit Go.Shelf
theorem b7.neOld {w:World} {ai:Nat} {v:Value} {l:List K} (h:b7 w ai v l) {g:Nat} (hg:g<ai):v.ownBlock≠some g:=fun e=>by have := (World.ownsRow.lt h g e).1;omega
theorem b7.on {w w':World} {ai:Nat} {v:Value} {l:List K} (h:b7 w ai v l) (hb:Below w.heap.size w w'):b7 w' ai v l:=h.keep hb (A_ _)
theorem b7.grown {w w':World} {ai:Nat} {v:Value} {l:List K} {row:Option Nat} (h:b7 w ai v l) (hg:w.grownBy w' row) (hne:∀g,row=some g→v.ownBlock≠some g):b7 w' ai v l:=by
 refine World.ownsRow.kept h hg ?_
 cases hv:v.ownBlock with
 | none=>exact .inl rfl
 | some g=>exact .inr fun e=>hne g e.symm (by rw[hv])
theorem b7.mono {w:World} {ai base':Nat} {v:Value} {l:List K} (h:b7 w ai v l) (hb:base'≤ai):b7 w base' v l:=World.ownsRow.mono h hb
end
section
namespace Fld
open F6
def pp (xs:List UInt8) (i:Nat) (x:UInt8) (k:Nat):UInt8:=pr ((xs.take k).eraseIdx i) x
theorem zo (xs:List UInt8) (i:Nat) (x:UInt8):pp xs i x 0=1:=by simp[pp,pr]
theorem Pf (l:List UInt8) (a x:UInt8):pr (l++[a]) x=mul (pr l x) (x ^^^ a):=by simp[pr]
theorem zn (xs:List UInt8) (i:Nat) (x:UInt8) (k:Nat) (hk:k<xs.length) (h:k≠i):pp xs i x (k+1)=mul (pp xs i x k) (x ^^^ byteAt xs k):=by
 have e:(xs.take (k+1)).eraseIdx i=(xs.take k).eraseIdx i++[byteAt xs k]:=by
  rw[iM xs k hk]
  by_cases hi:i<k
  ·rw[List.eraseIdx_append_of_lt_length (by rw[b_];omega)]
  ·rw[List.eraseIdx_of_length_le (by rw[E_,b_,List.length_singleton];omega),List.eraseIdx_of_length_le (by rw[b_];omega)]
 rw[pp,e,Pf];rfl
theorem zm (xs:List UInt8) (i:Nat) (x:UInt8) (hi:i<xs.length):pp xs i x (i+1)=pp xs i x i:=by
 have e:(xs.take (i+1)).eraseIdx i=(xs.take i).eraseIdx i:=by
  rw[iM xs i hi,List.eraseIdx_of_length_le (l:=xs.take i) (by rw[b_];omega),List.eraseIdx_append_of_length_le (by rw[b_];omega)]
  have : i-(xs.take i).length=0:=by rw[b_];omega
  rw[this];simp
 rw[pp,e];rfl
theorem zl (xs:List UInt8) (i:Nat) (x:UInt8):pp xs i x xs.length=pr (xs.eraseIdx i) x:=by rw[pp,List.take_length]
theorem Rc (xs:List UInt8) (i:Nat) (hn:xs.Nodup) (hi:i<xs.length):pp xs i (byteAt xs i) xs.length≠0:=by
 rw[zl,pr_eq];exact zp (lj xs hn i hi)
theorem Rd (xs:List UInt8) (i:Nat) (x:UInt8):div (pp xs i x xs.length) (pp xs i (byteAt xs i) xs.length)=wt xs x i:=by
 rw[zl,zl];rfl
def wts (xs:List UInt8) (x:UInt8) (k:Nat):List UInt8:=(List.range k).map (wt xs x)
theorem Cq (xs:List UInt8) (x:UInt8) (k:Nat):wts xs x (k+1)=wts xs x k++[wt xs x k]:=by simp[wts,List.range_succ]
theorem rm (xs:List UInt8) (x:UInt8) (k:Nat):(wts xs x k).length=k:=by simp[wts]
theorem ME (xs:List UInt8) (x:UInt8) (n k:Nat) (h:k<n):byteAt (wts xs x n) k=wt xs x k:=by
 simp[byteAt,wts,I_,h]
theorem nQ {l:List UInt8} (h:okX l=true):l.Nodup∧1≤l.length∧l.length≤255:=by
 simp[okX] at h
 exact⟨h.2,h.1.1,h.1.2⟩
end Fld
end
section
namespace Fld
open F6
def tab (n:Nat) (f:Nat→UInt8):List UInt8:=(List.range n).map f
theorem tab_len (n:Nat) (f:Nat→UInt8):(tab n f).length=n:=by simp[tab]
theorem tab_at (n:Nat) (f:Nat→UInt8) (j:Nat):byteAt (tab n f) j=if j<n then f j else 0:=by
 by_cases h:j<n
 ·simp[byteAt,tab,I_,h]
 ·simp[byteAt,tab,I_,h]
theorem ext_at {l m:List UInt8} (h:l.length=m.length) (h2:∀j,j<l.length→byteAt l j=byteAt m j):l=m:=by
 refine List.ext_getElem h (fun i h3 h4 => ?_);have := h2 i h3
 simpa [byteAt,I_,h3,h4] using this
theorem at_set (l:List UInt8) (k j:Nat) (x:UInt8):byteAt (l.set k x) j=if k=j∧j<l.length then x else byteAt l j:=by
 simp only[byteAt,I_,List.getElem?_set]
 by_cases h:k=j
 ·subst h
  by_cases h2:k<l.length
  ·simp[h2]
  ·simp[h2]
 ·simp[h]
theorem at_rep (n j:Nat):byteAt (List.replicate n (0:UInt8)) j=0:=by
 simp only[byteAt,I_,List.getElem?_replicate]
 split <;> rfl
end Fld
end
end Go.Proofs.YtmfiaadjdbemnaaGreatDoor
section
namespace Go.Proofs
open Go.Shelf
def Tryz.lays170_ren:Go.Shelf.Ren:=⟨fun |170=>154|n=>n,fun |70=>203|3=>3|0=>0|72=>205|37=>80|5=>5|n=>n,fun |n=>n⟩
theorem Tryz.lays170:Go.Proofs.Lays.n170 Tryz.prog Tryz.lays170_ren:={
 mixed:=by kernel_rfl
 f170:=Tryz.func154.trans (congrArg some (by kernel_rfl))
 t0:=Tryz.underlying0
 a0:=Tryz.isAgg0
 z0:=Tryz.sizeOf0
 v0:=Tryz.zeroValue0
 t3:=Tryz.underlying3
 a3:=Tryz.isAgg3
 z3:=Tryz.sizeOf3
 v3:=Tryz.zeroValue3
 t37:=Tryz.underlying80
 a37:=Tryz.isAgg80
 z37:=Tryz.sizeOf80
 v37:=Tryz.zeroValue80
 t70:=Tryz.underlying203
 a70:=Tryz.isAgg203
 z70:=Tryz.sizeOf203
 v70:=Tryz.zeroValue203
 t72:=Tryz.underlying205
 a72:=Tryz.isAgg205
 z72:=Tryz.sizeOf205
 v72:=Tryz.zeroValue205 }
def Tryz.lays169_ren:Go.Shelf.Ren:=⟨fun |169=>155|n=>n,fun |70=>203|9=>9|0=>0|72=>205|37=>80|127=>238|3=>3|5=>5|n=>n,fun |n=>n⟩
theorem Tryz.lays169:Go.Proofs.Lays.n169 Tryz.prog Tryz.lays169_ren:={
 mixed:=by kernel_rfl
 f169:=Tryz.func155.trans (congrArg some (by kernel_rfl))
 t0:=Tryz.underlying0
 a0:=Tryz.isAgg0
 z0:=Tryz.sizeOf0
 v0:=Tryz.zeroValue0
 t3:=Tryz.underlying3
 a3:=Tryz.isAgg3
 z3:=Tryz.sizeOf3
 v3:=Tryz.zeroValue3
 t9:=Tryz.underlying9
 a9:=Tryz.isAgg9
 z9:=Tryz.sizeOf9
 v9:=Tryz.zeroValue9
 t37:=Tryz.underlying80
 a37:=Tryz.isAgg80
 z37:=Tryz.sizeOf80
 v37:=Tryz.zeroValue80
 t70:=Tryz.underlying203
 a70:=Tryz.isAgg203
 z70:=Tryz.sizeOf203
 v70:=Tryz.zeroValue203
 t72:=Tryz.underlying205
 a72:=Tryz.isAgg205
 z72:=Tryz.sizeOf205
 v72:=Tryz.zeroValue205
 t127:=Tryz.underlying238
 a127:=Tryz.isAgg238
 z127:=Tryz.sizeOf238
 v127:=Tryz.zeroValue238 }
theorem Tryz.Builder_Extra_169:Builder.Extra Tryz.prog Tryz.lays169_ren:={
 sizeBuilder:=by kernel_rfl
 liesBuilder:=by kernel_rfl
 t5:=Tryz.underlying5
 a5:=Tryz.isAgg5
 z5:=Tryz.sizeOf5
 v5:=Tryz.zeroValue5
 infoByte:=by kernel_rfl
 cellsByte:=by kernel_rfl
 sizeByte:=by kernel_rfl
 neB5:=by decide }
open Go.RowKit in
theorem Tryz.Builder_Len_f (B b:Nat) (bs:List Value) (w:World) (h:Lib.IsBuilderF 205 5 B b bs w) :
  Calls Tryz.prog 154 #[.pointer (some ⟨b,0,none⟩)] w fun e w'=>e = .returned (.int .i64 bs.length)∧w'=w:=Any.Builder_Len_f Tryz.lays170 B b bs w h
open Go.RowKit in
theorem Tryz.Builder_String_any_k (B b:Nat) (l:List UInt8) (w:World) (h:Lib.IsBuilderF 205 5 B b (Lib.byteCells l) w) (hBw:B≤w.heap.size) :
  Calls Tryz.prog 155 #[.pointer (some ⟨b,0,none⟩)] w fun e w'=>e = .returned (.string ⟨l.toArray⟩)∧(Lib.IsBuilderF 205 5 B b (Lib.byteCells l) w'∧Below B w w'∧Lib.OthersKept 5 (some b) w w'):=Any.Builder_String_any_k Tryz.lays169 Tryz.Builder_Extra_169 B b l w h hBw
def Tryz.lays107_ren:Go.Shelf.Ren:=⟨fun |107=>51|108=>101|n=>n,fun |28=>59|3=>3|4=>4|0=>0|n=>n,fun |n=>n⟩
theorem Tryz.lays107:Go.Proofs.Lays.n107 Tryz.prog Tryz.lays107_ren:={
 mixed:=by kernel_rfl
 f107:=Tryz.func51.trans (congrArg some (by kernel_rfl))
 f108:=Tryz.func101.trans (congrArg some (by kernel_rfl))
 t0:=Tryz.underlying0
 a0:=Tryz.isAgg0
 z0:=Tryz.sizeOf0
 v0:=Tryz.zeroValue0
 t3:=Tryz.underlying3
 a3:=Tryz.isAgg3
 z3:=Tryz.sizeOf3
 v3:=Tryz.zeroValue3
 t4:=Tryz.underlying4
 a4:=Tryz.isAgg4
 z4:=Tryz.sizeOf4
 v4:=Tryz.zeroValue4
 t28:=Tryz.underlying59
 a28:=Tryz.isAgg59
 z28:=Tryz.sizeOf59
 v28:=Tryz.zeroValue59 }
open Go.Lib in
theorem Tryz.slices_Contains_int (b off n c:Nat) (zs:List Int) (x:Int) (w:World) (hz:n≤zs.length) (hbig:n≤9223372036854775807) (hc:∀j,j<zs.length→w.cell? ⟨b,off+j,none⟩=some (.int .i64 (zs.getD j 0))) :
  Calls Tryz.prog 51 #[.slice (some ⟨b,off,none⟩) n c,.int .i64 x] w fun e w'=>e = .returned (.bool ((zs.take n).contains x))∧w'=w:=Any.slices_Contains_int Tryz.lays107 b off n c zs x w hz hbig hc
open Go.Lib in
theorem Tryz.slices_Contains_int_empty (a:Option Addr) (c:Nat) (x:Int) (w:World) :
  Calls Tryz.prog 51 #[.slice a 0 c,.int .i64 x] w fun e w'=>e = .returned (.bool false)∧w'=w:=Any.slices_Contains_int_empty Tryz.lays107 a c x w
def Tryz.laysNm215_ren:Go.Shelf.Ren:=⟨fun |15=>55|n=>n,fun |22=>59|3=>3|4=>4|n=>n,fun |n=>n⟩
theorem Tryz.laysNm215:Go.Proofs.Lays2.n15 Tryz.prog Tryz.laysNm215_ren:={
 mixed:=by kernel_rfl
 f15:=Tryz.func55.trans (congrArg some (by kernel_rfl))
 t3:=Tryz.underlying3
 a3:=Tryz.isAgg3
 z3:=Tryz.sizeOf3
 v3:=Tryz.zeroValue3
 t4:=Tryz.underlying4
 a4:=Tryz.isAgg4
 z4:=Tryz.sizeOf4
 v4:=Tryz.zeroValue4
 t22:=Tryz.underlying59
 a22:=Tryz.isAgg59
 z22:=Tryz.sizeOf59
 v22:=Tryz.zeroValue59
 i3:=by kernel_rfl }
open Go.RowKit Go.Lib in
theorem Tryz.slices_Clone_int (b off n c:Nat) (zs:List Int) (w:World) (hz:n≤zs.length) (hbig:n*8≤140737488355328) (hc:∀j,j<zs.length→w.cell? ⟨b,off+j,none⟩=some (.int .i64 (zs.getD j 0))) :
  Calls Tryz.prog 55 #[.slice (some ⟨b,off,none⟩) n c] w fun e w'=>∃v',e = .returned v'∧w'.ownsRow w.heap.size 3 1 v' n ((zs.take n).map (Value.int .i64))∧v' ≠ .slice none 0 0∧Below w.heap.size w w':=Any.slices_Clone_int Tryz.laysNm215 b off n c zs w hz hbig hc
open Go.RowKit Go.Lib in
theorem Tryz.slices_Clone_int_nil (n c:Nat) (w:World) :
  Calls Tryz.prog 55 #[.slice none n c] w fun e w'=>e = .returned (.slice none 0 0)∧w'=w:=Any.slices_Clone_int_nil Tryz.laysNm215 n c w
open Go.RowKit Go.Lib in
theorem Tryz.slices_Clone_int_zero (a:Addr) (c:Nat) (w:World) :
  Calls Tryz.prog 55 #[.slice (some a) 0 c] w fun e w'=>∃v',e = .returned v'∧w'.ownsRow w.heap.size 3 1 v' 0 []∧v' ≠ .slice none 0 0∧Below w.heap.size w w':=Any.slices_Clone_int_zero Tryz.laysNm215 a c w
end Go.Proofs
end
namespace Go.Proofs.YtmfiaadjdbemnaaGreatDoor
section
open Go.RowKit Go.Shelf
theorem OD:Go.Proofs.Lays.n166 Tryz.prog Tryz.lays156_ren:={
 mixed:=Tryz.lays156.mixed
 f166:=Tryz.lays156.f166
 f240:=Tryz.lays156.f240
 f276:=Tryz.lays156.f276
 t0:=Tryz.lays156.t0
 a0:=Tryz.lays156.a0
 z0:=Tryz.lays156.z0
 v0:=Tryz.lays156.v0
 t3:=Tryz.lays156.t3
 a3:=Tryz.lays156.a3
 z3:=Tryz.lays156.z3
 v3:=Tryz.lays156.v3
 t4:=Tryz.lays156.t4
 a4:=Tryz.lays156.a4
 z4:=Tryz.lays156.z4
 v4:=Tryz.lays156.v4
 t9:=Tryz.lays156.t9
 a9:=Tryz.lays156.a9
 z9:=Tryz.lays156.z9
 v9:=Tryz.lays156.v9
 t20:=Tryz.lays156.t20
 a20:=Tryz.lays156.a20
 z20:=Tryz.lays156.z20
 v20:=Tryz.lays156.v20
 t37:=Tryz.lays156.t37
 a37:=Tryz.lays156.a37
 z37:=Tryz.lays156.z37
 v37:=Tryz.lays156.v37
 t70:=Tryz.lays156.t70
 a70:=Tryz.lays156.a70
 z70:=Tryz.lays156.z70
 v70:=Tryz.lays156.v70
 t72:=Tryz.lays156.t72
 a72:=Tryz.lays156.a72
 z72:=Tryz.lays156.z72
 v72:=Tryz.lays156.v72
 t75:=Tryz.lays156.t75
 a75:=Tryz.lays156.a75
 z75:=Tryz.lays156.z75
 v75:=Tryz.lays156.v75
 t164:=Tryz.lays156.t164
 a164:=Tryz.lays156.a164
 z164:=Tryz.lays156.z164
 v164:=Tryz.lays156.v164 }
def jH (b:Nat) (l:List UInt8) (w:World):Prop:=Lib.IsBuilderF 205 5 b b (Lib.byteCells l) w
theorem jH.lt {b:Nat} {l:List UInt8} {w:World} (h:jH b l w):b<w.heap.size:=by
 rcases h with h|h <;> exact h.lt
theorem jH.keep {b:Nat} {l:List UInt8} {A C:World} (h:jH b l A) (hk:∀(i:Nat) (o:Obj),A.heap[i]?=some o→((∃c fr,o = .cells c 205 fr)∨(∃c fr,o = .cells c 5 fr))→C.heap[i]?=some o):jH b l C:=by
 rcases h with h|h
 all_goals
  obtain⟨hB,v,hb,hown,hne⟩:=h
  have hown2:C.ownsRowF b 5 1 v (Lib.byteCells l).length (Lib.byteCells l):=by
   refine⟨hown.1,?_⟩
   rcases hown.2 with h0|⟨g,cap,cur,fz,h1,h2,h3,h4⟩
   ·exact .inl h0
   ·exact .inr ⟨g,cap,cur,fz,h1,h2,hk g _ h3 (.inr ⟨_,_,rfl⟩),h4⟩
 ·exact .inl ⟨hB,v,hk _ _ hb (.inl ⟨_,_,rfl⟩),hown2,hne⟩
 ·exact .inr ⟨hB,v,hk _ _ hb (.inl ⟨_,_,rfl⟩),hown2,hne⟩
theorem ND (w:World):jH w.heap.size [] (w.alloc (.cells #[.pointer none,.slice none 0 0] 205)):=Lib.IsBuilderF.of (Lib.fresh_isBuilder _ _ w)
def Iq (b:Nat) (w w':World):Prop:=Below b w w'∧Lib.OthersKept 5 (some b) w w'
theorem Zy (b:Nat) (l m:List UInt8) (w:World) (h:jH b l w) (hl:l.length+m.length≤1000000) :
  Calls Tryz.prog 153 #[.pointer (some ⟨b,0,none⟩),.string ⟨m.toArray⟩] w fun e w'=>e = .returned (.tuple #[.int .i64 m.length,.nilIface])∧jH b (l++m) w'∧Iq b w w':=by
 have h1:=Any.Builder_WriteString_k OD Tryz.Builder_Extra_156 b b (Lib.byteCells l) ⟨m.toArray⟩ w h (by rw[Lib.byteCells_length];show _+m.length≤_;omega) (Nat.le_of_lt h.lt);refine h1.mono ?_;rintro e w' ⟨rfl,h2,h3,h4⟩;refine⟨rfl,?_,h3,h4⟩
 have h5:Lib.byteCells l++Lib.strCells ⟨m.toArray⟩=Lib.byteCells (l++m):=by show Lib.byteCells l++Lib.byteCells m=_;simp[Lib.byteCells]
 rw[h5] at h2;exact .inr h2
theorem QM (b:Nat) (l:List UInt8) (w:World) (h:jH b l w) :
  Calls Tryz.prog 154 #[.pointer (some ⟨b,0,none⟩)] w fun e w'=>e = .returned (.int .i64 l.length)∧w'=w:=by
 have h1:=Tryz.Builder_Len_f b b (Lib.byteCells l) w h;rw[Lib.byteCells_length] at h1;exact h1
theorem WT (b:Nat) (l:List UInt8) (w:World) (h:jH b l w) :
  Calls Tryz.prog 155 #[.pointer (some ⟨b,0,none⟩)] w fun e w'=>e = .returned (.string ⟨l.toArray⟩)∧Iq b w w':=by
 have h1:=Tryz.Builder_String_any_k b b l w h (Nat.le_of_lt h.lt);refine h1.mono ?_;rintro e w' ⟨rfl,h2,h3,h4⟩;exact⟨rfl,h3,h4⟩
structure BSt (w4:World) (g:Nat) (bs sd:List UInt8) (lp:Loop) (W:World):Prop where
 b3:Below (g+3) w4 W
 bl:jH (g+3) bs W
 af:W.heap[g+4]?=some (.cells (ag sd) 30 (0,0))
 df:W.heap[g+5]?=some (.deferred (some []))
 lp:W.heap[g+6]?=some (.loop lp)
theorem BSt.size {w4:World} {g:Nat} {bs sd:List UInt8} {lp:Loop} {W:World} (h:BSt w4 g bs sd lp W):g+7≤W.heap.size:=(Q_.1 h.lp).1
theorem BSt.on {w4:World} {g:Nat} {bs sd:List UInt8} {lp:Loop} {A C:World} (h:BSt w4 g bs sd lp A) (hb:Below A.heap.size A C):BSt w4 g bs sd lp C :=
 have k:∀i o,A.heap[i]?=some o→C.heap[i]?=some o:=fun i o ho=>by rw[hb.block _ (Q_.1 ho).1];exact ho
 ⟨h.b3.trans (hb.mono (by have := h.size;omega)),h.bl.keep (fun i o ho _=>k i o ho),k _ _ h.af,k _ _ h.df,k _ _ h.lp⟩
theorem BSt.at {w4:World} {g b0:Nat} {bs sd:List UInt8} {lp:Loop} {A C:World} (h:BSt w4 g bs sd lp A) (hg:g+7≤b0) (hc:∃c,A.heap[b0]?=some (.cells c 30 (0,0))) (ho:∀i,i≠b0→C.heap[i]? = A.heap[i]?) (hb:Below b0 A C):BSt w4 g bs sd lp C :=
 have k:∀i o,i≠b0→A.heap[i]?=some o→C.heap[i]?=some o:=fun i o hi h=>by rw[ho i hi];exact h
 ⟨h.b3.trans (hb.mono (by omega)),h.bl.keep (fun i o hi hx=>k i o (fun e=>by
  obtain⟨c,hc⟩:=hc;rw[e,hc] at hi
  cases hi
  rcases hx with⟨_,_,hx⟩|⟨_,_,hx⟩ <;> cases hx) hi),k _ _ (by omega) h.af,k _ _ (by omega) h.df,k _ _ (by omega) h.lp⟩
theorem BSt.wrote {w4:World} {g:Nat} {bs bs' sd:List UInt8} {lp:Loop} {A C:World} (h:BSt w4 g bs sd lp A) (hb:jH (g+3) bs' C) (hk:Iq (g+3) A C):BSt w4 g bs' sd lp C :=
 ⟨h.b3.trans hk.1,hb,hk.2 _ _ h.af (by simp) (by intro c fz e;cases e),hk.2 _ _ h.df (by simp) (by intro c fz e;cases e),hk.2 _ _ h.lp (by simp) (by intro c fz e;cases e)⟩
open Go.RowKit Go.Shelf
def nOf (n:Nat):Nat:=(n+31) / 32
def ez (s:List UInt8) (n:Nat):List UInt8:=(stm s (nOf n)).take n
theorem uw (s:List UInt8) (n:Nat):(ez s n).length=n:=by
 unfold ez nOf;rw[b_,kG]
 omega
theorem oo (w:World) (A B C:Obj):(((w.alloc A).alloc B).alloc C).heap[w.heap.size]?=some A:=by
 rw[((O_ ((w.alloc A).alloc B).heap.size _).alloc (A_ _) C).block _ (by simp;omega)];exact eP _ _ _
theorem oq (w:World) (A B C:Obj):(((w.alloc A).alloc B).alloc C).heap[w.heap.size+1]?=some B:=by
 rw[((O_ ((w.alloc A).alloc B).heap.size _).alloc (A_ _) C).block _ (by simp)];exact eR _ _ _
theorem ot (w:World) (A B C:Obj):(((w.alloc A).alloc B).alloc C).heap[w.heap.size+2]?=some C:=by
 have h:=heap_alloc_new ((w.alloc A).alloc B) C
 simpa using h
theorem BSt.put {w4:World} {g:Nat} {bs sd:List UInt8} {lp:Loop} {A:World} (h:BSt w4 g bs sd lp A) (lp':Loop):BSt w4 g bs sd lp' (A.putObj (g+6) (.loop lp')) :=
 have k:∀(i:Nat) (o:Obj),i≠g+6→A.heap[i]?=some o→(A.putObj (g+6) (.loop lp')).heap[i]?=some o:=fun i o hi h=>(World.putObj_heap_other hi).trans h
 ⟨h.b3.trans ⟨rfl,rfl,rfl,by simp,fun k hk=>World.putObj_heap_other (by omega)⟩,h.bl.keep (fun i o hi hx=>k i o (fun e=>by
  rw[e,h.lp] at hi
  cases hi
  rcases hx with⟨_,_,hx⟩|⟨_,_,hx⟩ <;> cases hx) hi),k _ _ (by omega) h.af,k _ _ (by omega) h.df,World.putObj_heap_same (by have := h.size;omega)⟩
theorem P8 (a v:List UInt8) (n m:Nat) (h1:a.length≤n) (h2:m=min v.length (n-a.length)):a++v.take m=(a++v).take n:=by
 rw[List.take_append,Y_ h1,h2]
 congr 1
 rw[List.take_eq_take_iff]
 omega
def KT (g:Nat) (A C:World):Prop:=A.heap.size≤C.heap.size∧∀(j:Nat) (c:Array Value),g+7≤j→A.heap[j]?=some (.cells c 30 (0,0))→C.heap[j]?=some (.cells c 30 (0,0))
theorem KT.trans {g:Nat} {A B C:World} (h:KT g A B) (k:KT g B C):KT g A C:=⟨M_ h.1 k.1,fun j c hj h1=>k.2 j c hj (h.2 j c hj h1)⟩
theorem KT.on {g:Nat} {A C:World} (hb:Below A.heap.size A C):KT g A C:=⟨hb.size,fun j c _ h=>by rw[hb.block _ (Q_.1 h).1];exact h⟩
theorem KT.put {g:Nat} (A:World) (o:Obj):KT g A (A.putObj (g+6) o):=⟨by simp,fun j c hj h=>(World.putObj_heap_other (by omega)).trans h⟩
theorem KT.wrote {g:Nat} {A C:World} (h:Iq (g+3) A C):KT g A C:=⟨h.1.size,fun j c hj h1=>h.2 _ _ h1 (by simp;omega) (by intro c fz e;cases e)⟩
theorem KT.at {g:Nat} {A C:World} (hs:A.heap.size≤C.heap.size) (ho:∀i,i≠g+4→C.heap[i]? = A.heap[i]?):KT g A C:=⟨hs,fun j c hj h=>by rw[ho j (by omega)];exact h⟩
theorem BSt.after {w4:World} {g:Nat} {bs sd sd':List UInt8} {lp:Loop} {A C:World} (h:BSt w4 g bs sd lp A) (hg:C.heap[g+4]?=some (.cells (ag sd') 30 (0,0))) (ho:∀i,i≠g+4→C.heap[i]? = A.heap[i]?) (hb:Below (g+4) A C):BSt w4 g bs sd' lp C :=
 have k:∀(i:Nat) (o:Obj),i≠g+4→A.heap[i]?=some o→C.heap[i]?=some o:=fun i o hi h=>by rw[ho i hi];exact h
 ⟨h.b3.trans (hb.mono (by omega)),h.bl.keep (fun i o hi hx=>k i o (fun e=>by
  rw[e,h.af] at hi
  cases hi
  rcases hx with⟨_,_,hx⟩|⟨_,_,hx⟩ <;> cases hx) hi),hg,k _ _ (by omega) h.df,k _ _ (by omega) h.lp⟩
def FSt (W4:World) (g:Nat) (sd:List UInt8) (x:World):Prop:=Below (g+3) W4 x∧x.heap[g+4]?=some (.cells (ag sd) 30 (0,0))∧x.heap[g+5]?=some (.deferred (some []))
theorem FSt.on {W4:World} {g:Nat} {sd:List UInt8} {x y:World} (h:FSt W4 g sd x) (hb:Below x.heap.size x y):FSt W4 g sd y :=
 have k:∀i o,x.heap[i]?=some o→y.heap[i]?=some o:=fun i o ho=>by rw[hb.block _ (Q_.1 ho).1];exact ho
 ⟨h.1.trans (hb.mono (by have := (Q_.1 h.2.2).1;omega)),k _ _ h.2.1,k _ _ h.2.2⟩
theorem FSt.wrote {W4:World} {g:Nat} {sd:List UInt8} {x y:World} (h:FSt W4 g sd x) (hk:Iq (g+3) x y):FSt W4 g sd y :=
 ⟨h.1.trans hk.1,hk.2 _ _ h.2.1 (by simp) (by intro c fz e;cases e),hk.2 _ _ h.2.2 (by simp) (by intro c fz e;cases e)⟩
theorem Po {P:Program} {n:Nat} {f:Operand} {ps:Array Tmp} {assign body:Code} {Q:Exit→Act→World→Prop} {a:Act} {w:World} (gf:FuncId) (recv:Value) (D:Nat) (hD:w.heap.size=D) (hg:a.eval f = .func (.func gf) #[recv] #[]) (eg:∀args w,(callFunc gf args).run P w = .ok (.enter gf args) w)
  (h:∀(fn:FuncId) (rec:LoopState→Option Code→Loop),(rec=fun st pe=>{ state:=st,pending:=pe,fn,tmps:=a.tmps,params:=ps,assign,body,defers:=D }) →
   CallsIn Fence.wide (n-1) P gf #[recv,.func (.yield (D+1)) #[] #[]] ((w.alloc (.deferred (some []))).alloc (.loop (rec .ready none))) (rangePost Fence.wide n P (D+1) Q { a with defers:={ target := .collected D,args := #[] }::a.defers })) :
  (Code.rangeFunc f ps assign body).wpIn Fence.wide n P Q a w:=by
 subst hD;refine wpIn_rangeFunc ?_;intro fn hfn;have h1:=h fn _ rfl;have h0:=run_enterLoop_outer (P:=P) (w:=w) fn a.tmps ps assign body;generalize hW1:(w.alloc (.deferred (some []))).alloc (.loop { state := .ready,pending:=none,fn,tmps:=a.tmps,params:=ps,assign,body,defers:=w.heap.size })=W1 at h0 h1;refine⟨w.heap.size+1,[{ target := .collected w.heap.size,args := #[] }],W1,{ target := .fn (.func gf) #[],args := #[recv,.func (.yield (w.heap.size+1)) #[] #[]] },W1,gf,#[recv,.func (.yield (w.heap.size+1)) #[] #[]],W1,h0,?_,fun _ _=>trivial,?_,(fun hh=>by cases hh),h1⟩
 ·simp only[resolve,rangeCall,hg]
  simp[go_sem]
 ·simp[invoke,go_sem,eg]
attribute [local irreducible] Calls aJ
attribute [local go_sem] Oper.semAt_some
theorem Ld (s:List UInt8) (n:Nat) (w:World) (hk:KAt w) (hs:s.length≤1000000) (h1:1≤n) (h2:n≤8000) :
  Calls Tryz.prog 108 #[.agg (ag s),.int .i64 n] w fun e w'=>e = .returned (.tuple #[.string ⟨(ez s n).toArray⟩,.agg (ag (sdN s (nOf n)))])∧Below w.heap.size w w':=by
 have hz:=fi
 have hn1:(n:Int)≤8000:=by omega
 have hn2:¬(n:Int)≤0:=by omega
 have hn3:(1:Int)≤n:=by omega
 have hzb:=Tryz.zeroValue205;obtain⟨W0,hW0⟩:∃W0,W0=((w.alloc (.cells (ag s) 30)).alloc (.cells #[.int .i64 n] 3)).alloc (.cells (ag []) 30):=⟨_,rfl⟩;have HW:=O hW0;obtain⟨W4,hW4⟩:∃W4,W4=(W0.alloc (.cells #[.pointer none,.slice none 0 0] 205)).alloc (.cells (ag s) 30):=⟨_,rfl⟩;have HW4:=O hW4
 have hsz0:W0.heap.size=w.heap.size+3:=by rw[hW0];simp
 have hb0:Below w.heap.size w W0:=by rw[hW0];exact(((O_ _ _).alloc (A_ _) _).alloc (by simp) _).alloc (by simp;omega) _
 have hb4:Below (w.heap.size+3) W0 W4:=by rw[hW4];exact((O_ _ _).alloc (by omega) _).alloc (by simp;omega) _
 have hr0:W0.heap[w.heap.size]?=some (.cells (ag s) 30 (0,0)):=by rw[hW0];exact oo _ _ _ _
 have hr1:W0.heap[w.heap.size+1]?=some (.cells #[.int .i64 n] 3 (0,0)):=by rw[hW0];exact oq _ _ _ _
 have hr2:W0.heap[w.heap.size+2]?=some (.cells (ag []) 30 (0,0)):=by rw[hW0];exact ot _ _ _ _
 have HB4:Hid (W4.heap.size=w.heap.size+5∧Below w.heap.size w W4∧jH (w.heap.size+3) [] W4∧W4.heap[w.heap.size+4]?=some (.cells (ag s) 30 (0,0))):=O (by
  refine⟨by rw[hW4];simp[hsz0],hb0.trans (hb4.mono (by omega)),?_,?_⟩
  ·have h:=ND W0
   rw[hsz0] at h;rw[hW4];exact h.keep (fun i o ho _=>by rw[((O_ (W0.alloc (.cells #[.pointer none,.slice none 0 0] 205)).heap.size _).alloc (A_ _) _).block _ (Q_.1 ho).1];exact ho)
  ·have h:=heap_alloc_new (W0.alloc (.cells #[.pointer none,.slice none 0 0] 205)) (.cells (ag s) 30)
   rw[World.size_alloc,hsz0] at h;rw[hW4]
   exact h)
 have HC:Hid (∀u,Below (w.heap.size+3) W4 u→u.heap[w.heap.size]?=some (.cells (ag s) 30 (0,0))∧u.cell? ⟨w.heap.size+1,0,none⟩=some (.int .i64 n)∧u.heap[w.heap.size+2]?=some (.cells (ag []) 30 (0,0))∧KAt u∧Below w.heap.size w u):=O (fun u hu=>by
  have h:=hb4.trans hu;have hbw:Below w.heap.size w u:=hb0.trans (h.mono (by omega));refine⟨by rw[h.block _ (by omega)];exact hr0,?_,by rw[h.block _ (by omega)];exact hr2,hk.on hbw,hbw⟩
  exact e_ u (w.heap.size+1) 0 #[.int .i64 n] 3 (0,0) (by rw[h.block _ (by omega)];exact hr1))
 have HS:=O hs;have HN:=O (show 1≤n∧n≤8000 from⟨h1,h2⟩);have HR0:=O hr0;have HZ0:=O hsz0;have cn:W0.cell? ⟨w.heap.size+1,0,none⟩=some (.int .i64 n):=e_ W0 (w.heap.size+1) 0 #[.int .i64 n] 3 (0,0) hr1;clear hW0 hW4 hk hs h1 h2 hr0 hr1 hr2 hb0 hb4;refine(callsIn_wide (n:=8)).1 (callsIn_of_wp_marks Tryz.func108 rfl trivial ?_);simp only[Tryz.ntmps108,List.size_toArray,Z_,List.length_nil,Nat.reduceAdd,Nat.reduceSub,Array.replicate_succ,Array.replicate_zero,List.push_toArray,List.append_toArray,List.nil_append,List.cons_append];refine wpIn_wide.2 ?_
 go_upto_region 1 with fail
 rw[←HW.out]
 try dsimp only[Act.put]
 go_upto_region 4 with fail
 go_upto_region 5 with (first
  |(refine wpList_load_row rfl 30 (.tmp 2) rfl w.heap.size rfl _ (ag s) (0,0) _ (by rw[((O_ W0.heap.size W0).alloc (A_ _) _).block _ (by rw[hsz0];omega)];exact HR0.out) Tryz.underlying30 rfl cS ?_)
  |(refine aH (ag s) 30 rfl (.tmp 7) (.tmp 17) rfl _ rfl (by rw[World.size_alloc,HZ0.out]) rfl cS rfl (aS _) ?_))
 rw[←HW4.out];have HC4:=O (HC.out W4 (O_ _ _))
 go_wp2_with (first
  |(refine wpList_load_row rfl 30 (.tmp 2) rfl w.heap.size rfl _ (ag s) (0,0) _ HC4.out.1 Tryz.underlying30 rfl cS ?_))
 simp only[Nat.add_assoc,Nat.reduceAdd];generalize hgg:w.heap.size=g at HB4 HC HR0 HC4 ⊢;clear HW HW4 cn HR0 HZ0 hsz0;refine(wpIn_wide (n:=8)).1 (Po 152 (.agg (ag s)) (g+5) HB4.out.1 rfl (enters_of Tryz.func152 (by kernel_rfl) rfl) ?_);intro fn rec hrec;have hB6:Below W4.heap.size W4 ((W4.alloc (.deferred (some []))).alloc (.loop (rec .ready none))):=dm _ _ _ (O_ _ _)
 have hd6:((W4.alloc (.deferred (some []))).alloc (.loop (rec .ready none))).heap[g+5]?=some (.deferred (some [])):=by rw[←HB4.out.1];exact eP _ _ _
 have hl6:((W4.alloc (.deferred (some []))).alloc (.loop (rec .ready none))).heap[g+6]?=some (.loop (rec .ready none)):=by rw[←show W4.heap.size+1=g+6 by rw[HB4.out.1]];exact eR _ _ _
 have hs6:((W4.alloc (.deferred (some []))).alloc (.loop (rec .ready none))).heap.size=g+7:=by simp[HB4.out.1]
 generalize (W4.alloc (.deferred (some []))).alloc (.loop (rec .ready none))=W6 at hB6 hd6 hl6 hs6 ⊢;have H6:Hid (BSt W4 g [] s (rec .ready none) W6):=O ⟨hB6.mono (by rw[HB4.out.1];omega),HB4.out.2.2.1.keep (fun i o ho _=>by rw[hB6.block _ (Q_.1 ho).1];exact ho),by rw[hB6.block _ (by rw[HB4.out.1];omega)];exact HB4.out.2.2.2,hd6,hl6⟩;have HZ6:=O hs6;clear hB6 hd6 hl6 hs6;have HREC:=O hrec;clear hrec;refine(Mw s (nOf n) 7 (g+6) (fun k A=>32*k<n∧BSt W4 g (stm s k) (sdN s k) (rec .ready none) A) (fun k A=>k=nOf n∧BSt W4 g (ez s n) (sdN s (nOf n)) (rec .done (some (.exit 0))) A) W6 (by omega) HS.out ?a1 ?a2 ?a3 ?a4 ?a5 ?a6 ?a7 ?a8).mono ?a9
 case a1=>exact fun k A B h hb=>⟨h.1,h.2.on hb⟩
 case a2=>exact fun k A B h hb=>⟨h.1,h.2.on hb⟩
 case a3=>exact fun k A B h hc ho hb=>⟨h.1,h.2.at (by rw[HZ6.out];omega) hc ho hb⟩
 case a4=>exact fun k A B h hc ho hb=>⟨h.1,h.2.at (by rw[HZ6.out];omega) hc ho hb⟩
 case a5=>exact fun k A h=>(HC.out A h.2.b3).2.2.2.1
 case a6=>exact⟨by have := HN.out;omega,H6.out⟩
 case a7=>have := HN.out;unfold nOf;omega
 case a8 =>
  rintro k A ⟨hk1,hst⟩ hk2 hsz;have hl:=hst.lp;rw[HREC.out] at hl;refine⟨_,_,_,_,run_yield hl rfl,roundIn_of_wpIn trivial ?_⟩;have HST:=O hst;have HK:=O (show 32*k<n∧k<nOf n from⟨hk1,hk2⟩);have HSZ:Hid (g+7<A.heap.size):=O (by rw[←HZ6.out];exact hsz);have HVL:=O (cL (sdN s k));have HSTM:Hid (stm s (k+1)=stm s k++nxV (sdN s k)):=O rfl;clear hl hst hk1 hk2 hsz;refine wpIn_seq (vE ?_ rfl ?_)
  ·rintro⟨_,_,h⟩
   exact h
  go_wp2;refine vE ?_ rfl ?_
  ·rintro⟨_,_,h⟩
   exact h
  go_wp2_with (refine aH (ag (sdN s (k+1))) 30 rfl (.tmp 9) (.tmp 21) rfl _ rfl rfl rfl cS rfl (aS _) ?_)
  have HA1:=O (HST.out.on ((O_ _ _).alloc (A_ _) (Obj.cells (ag (sdN s (k+1))) 30)));have HT1:Hid (KT g A (A.alloc (Obj.cells (ag (sdN s (k+1))) 30))):=O (KT.on ((O_ _ _).alloc (A_ _) _));have HY1:Hid ((A.alloc (Obj.cells (ag (sdN s (k+1))) 30)).heap[A.heap.size]?=some (.cells (ag (sdN s (k+1))) 30 (0,0))):=O (heap_alloc_new _ _);generalize A.alloc (Obj.cells (ag (sdN s (k+1))) 30)=A1 at HA1 HT1 HY1 ⊢;generalize hy:A.heap.size=y at HY1 HSZ ⊢;clear HST;refine⟨_,run_beginRound HA1.out.lp (by rw[HREC.out]),?_⟩;have HA2:=O (HA1.out.put { rec .ready none with state := .busy });have HT2:=O (HT1.out.trans (KT.put A1 (.loop { rec .ready none with state := .busy })));have HY2:=O ((KT.put (g:=g) A1 (.loop { rec .ready none with state := .busy })).2 _ _ (by have := HSZ.out;omega) HY1.out);generalize hrb:({ rec .ready none with state := .busy }:Loop)=rb at HA2 HT2 HY2 ⊢;have HRB:=O hrb;clear hrb;generalize A1.putObj (g+6) (.loop rb)=A2 at HA2 HT2 HY2 ⊢;clear HA1 HT1 HY1;refine wpIn_block (kK ?_ ?_)
  ·rintro⟨_,_,h⟩
   exact h
  intro K Q' hQ' HKK;simp only[Act.put];obtain⟨m,hm⟩:∃m:Nat,m=min 32 (n-32*k):=⟨_,rfl⟩;obtain⟨L,hL⟩:∃L:Nat,L=32*k:=⟨_,rfl⟩;obtain⟨d,hd⟩:∃d:Nat,d=n-32*k:=⟨_,rfl⟩
  have hnd:(n:Int)-(L:Int)=d:=by have := HK.out;omega
  have hd0:(d:Int)≤8000:=by omega
  have HM:Hid (((d:Int)<32∧m=d)∨(¬(d:Int)<32∧m=32)):=O (by omega)
  have hmin:min (32:Int) d=m:=by omega
  have HLN:Hid (L+32≤10000):=O (by have := HK.out;omega)
  have hm32:(m:Int)≤32:=by omega
  have hm0:(0:Int)≤m:=by omega
  have HBS:Hid (stm s k++(nxV (sdN s k)).take m=(stm s (k+1)).take n):=O (by
   rw[HSTM.out]
   exact P8 _ _ _ _ (by rw[kG];have := HK.out;omega) (by rw[kG,HVL.out];omega))
  have HSL:Hid ((stm s k).length=L):=O (by rw[kG,hL]);have HL:=O hL;have HML:Hid (((nxV (sdN s k)).take m).length=m):=O (by rw[b_,HVL.out];omega);generalize nxV (sdN s k)=v at HVL HSTM HBS HML ⊢;generalize stm s k=st at HSL HBS HA2 HSTM ⊢;have hvl:v.length=32:=HVL.out;clear hm hL hd;have HX:Hid (∀u,Below A2.heap.size A2 u→BSt W4 g st (sdN s k) rb u∧u.cell? ⟨g+1,0,none⟩=some (.int .i64 n)):=O (fun u hb=>⟨HA2.out.on hb,(HC.out u (HA2.out.on hb).b3).2.1⟩);refine qN 8 [[],[],[1],[],[],[3,4],[2,5],[0,6]] (SP.of [.eq (.string ⟨v.toArray⟩),.eq (.string ⟨v.toArray⟩),.eq (.int .i64 32),.eq (.int .i64 n),.eq (.int .i64 L),.eq (.int .i64 d),.eq (.int .i64 m),.eq (.string ⟨(v.take m).toArray⟩)]) (fun _=>undef) hQ' ?h0 ?h1 ?h2 ?h3 ?h4 ?h5 ?h6
  case h0=>kernel_rfl
  case h1=>kernel_rfl
  case h2=>kernel_rfl
  case h3=>kernel_rfl
  case h4 =>
   simp only[F_,c_]
   repeat (first |exact trivial|refine⟨fun vals v=>by kernel_rfl,?_⟩)
  case h5 =>
   simp only[F_,c_];refine⟨?_,?_,?_,?_,?_,?_,?_,?_,trivial⟩
   all_goals (intro wq hbq vals;simp only[Nat.reduceAdd,a_,X_,W_];have HQ:=O (HX.out wq hbq);clear hbq;repeat (first |refine ar ?_|refine aw rfl ?_);intro Q hQ;simp only[ay,upd,Act.put,B_,C_,D_,Nat.reduceAdd,a_,Nat.reduceEqDiff,if_true,if_false,reduceIte])
   case refine_5 =>
    go_wp2_with (go_at_call 154;refine(QM (g+3) st _ HQ.out.1.bl).mono ?_;rintro e x1 ⟨rfl,rfl⟩;rw[HSL.out])
    exact ab hQ _ (by kernel_rfl) (O_ _ _) rfl
   case refine_4 =>
    have c:=HQ.out.2;go_wp2;exact ab hQ _ (by kernel_rfl) (O_ _ _) rfl
   case refine_6 =>
    go_wp2;exact ab hQ _ (by kernel_rfl) (O_ _ _) rfl
   case refine_7 =>
    go_wp2;exact ab hQ (.int .i64 m) (by kernel_rfl) (O_ _ _) rfl
   case refine_8 =>
    go_wp2;exact ab hQ _ (by kernel_rfl) (O_ _ _) rfl
   all_goals go_wp2
   all_goals exact ab hQ _ (by kernel_rfl) (O_ _ _) rfl
  case h6 =>
   intro wq hbq vals;have HQ:=O (HX.out wq hbq).1;have HTQ:=O (HT2.out.trans (KT.on hbq));have HYQ:=O ((KT.on (g:=g) hbq).2 _ _ (by have := HSZ.out;omega) HY2.out);clear hbq;rw[show List.range 8=[0,1,2,3,4,5,6,7] from by decide]
   repeat (first |refine ar ?_|refine aw rfl ?_)
   simp only[F_,c_,J_,L_];simp only[ay,upd,Act.put,B_,C_,D_,Nat.reduceAdd,a_,Nat.reduceEqDiff,if_true,if_false,reduceIte]
   go_wp2_with (go_at_call 153;refine(Zy (g+3) st (v.take m) _ HQ.out.bl (by rw[HSL.out,HML.out];have := HLN.out;omega)).mono ?_;rintro e A3 ⟨rfl,hb3,hk3⟩;rw[HBS.out] at hb3;have HA3:=O (HQ.out.wrote hb3 hk3);have HT3:=O (HTQ.out.trans (KT.wrote hk3));have HY3:=O ((KT.wrote hk3).2 _ _ (by have := HSZ.out;omega) HYQ.out);clear hb3 hk3)
   refine HKK.out _ _ ?_;clear HKK hQ' HX HA2 HT2 HY2 HQ HTQ HYQ;refine kK ?_ ?_
   ·rintro⟨_,_,h⟩
    exact h
   intro K2 Q2 hQ2 HK2;refine vE hQ2 rfl ?_
   go_wp2_with (first
    |(refine wpList_load_row rfl 30 (.tmp 9) rfl y rfl _ (ag (sdN s (k+1))) (0,0) _ HY3.out Tryz.underlying30 rfl cS ?_)
    |(refine aM (T:=30) (ag (sdN s (k+1))) cS rfl (.tmp 7) (.tmp 31) rfl (g+4) (ag (sdN s k)) rfl rfl (aS _) rfl HA3.out.af ?_;intro A4 hge hoe hbe;have HA4:=O (HA3.out.after hge hoe (hbe _ (A_ _)));have HT4:=O (HT3.out.trans (KT.at (hbe _ (A_ _)).size hoe));clear hge hoe hbe))
   refine HK2.out _ _ ?_;clear HK2 hQ2 HA3 HT3 HY3;refine kK ?_ ?_
   ·rintro⟨_,_,h⟩
    exact h
   intro K3 Q3 hQ3 HK3;simp only[Act.put,B_,D_,C_];obtain⟨b,hb⟩:∃b:Nat,b=min n (32*(k+1)):=⟨_,rfl⟩;have HBL:Hid (((stm s (k+1)).take n).length=b):=O (by rw[b_,kG,hb]);have HB:=O hb;clear hb;generalize hbs:(stm s (k+1)).take n=bs at HA4 HBL;have HBE:=O hbs;clear hbs;have HX4:Hid (∀u,Below A4.heap.size A4 u→BSt W4 g bs (sdN s (k+1)) rb u∧u.cell? ⟨g+1,0,none⟩=some (.int .i64 n)):=O (fun u hb=>⟨HA4.out.on hb,(HC.out u (HA4.out.on hb).b3).2.1⟩);refine qN 2 [[],[]] (SP.of [.eq (.int .i64 b),.eq (.int .i64 n)]) (fun _=>undef) hQ3 ?q0 ?q1 ?q2 ?q3 ?q4 ?q5 ?q6
   case q0=>kernel_rfl
   case q1=>kernel_rfl
   case q2=>kernel_rfl
   case q3=>kernel_rfl
   case q4 =>
    simp only[F_,c_]
    repeat (first |exact trivial|refine⟨fun vals v=>by kernel_rfl,?_⟩)
   case q5 =>
    simp only[F_,c_];refine⟨?_,?_,trivial⟩
    all_goals (intro wq hbq vals;simp only[Nat.reduceAdd,a_,X_,W_];have HQ:=O (HX4.out wq hbq);clear hbq;repeat (first |refine ar ?_|refine aw rfl ?_);intro Q hQ;simp only[ay,upd,Act.put,B_,C_,D_,Nat.reduceAdd,a_,Nat.reduceEqDiff,if_true,if_false,reduceIte])
    ·go_wp2_with (go_at_call 154;refine(QM (g+3) bs _ HQ.out.1.bl).mono ?_;rintro e x1 ⟨rfl,rfl⟩;rw[HBL.out])
     exact ab hQ _ (by kernel_rfl) (O_ _ _) rfl
    ·have c:=HQ.out.2
     go_wp2;exact ab hQ _ (by kernel_rfl) (O_ _ _) rfl
   case q6 =>
    intro wq hbq vals;have HQ:=O (HX4.out wq hbq).1;have HTQ:=O (HT4.out.trans (KT.on hbq));clear hbq;rw[show List.range 2=[0,1] from by decide]
    repeat (first |refine ar ?_|refine aw rfl ?_)
    simp only[F_,c_,J_,L_];simp only[ay,upd,Act.put,B_,C_,D_,Nat.reduceAdd,a_,Nat.reduceEqDiff,if_true,if_false,reduceIte];go_wp2;refine HK3.out _ _ ?_;clear HK3 hQ3;have hkn:=HK.out;have hbm:=HB.out
    by_cases hf:b=n
    ·have hc:((b:Int) == (n:Int))=true:=by simp[hf]
     have hN:nOf n=k+1:=by unfold nOf;omega
     have hbp:bs=ez s n:=by unfold ez;rw[hN];exact HBE.out.symm
     refine wpIn_cond_true (congrArg Value.bool hc) (wpIn_exit ?_);simp only[Exit.inBlock,Nat.reduceEqDiff,reduceIte,roundPost];refine⟨_,_,run_endRound (some (.exit 0)) HQ.out.lp,?_⟩;refine⟨⟨?_,?_⟩,.inr ⟨rfl,hN.symm,?_⟩⟩
     ·have := HTQ.out.1
      rw[World.putObj_size]
      omega
     ·intro j c hj hc2
      exact(KT.put wq _).2 j c (by rw[HZ6.out] at hj;exact hj) (HTQ.out.2 j c (by rw[HZ6.out] at hj;exact hj) hc2)
     ·have h:=HQ.out.put { rb with state := .done,pending:=some (.exit 0) }
      rw[hbp,←hN] at h
      have hr:({ rb with state := .done,pending:=some (.exit 0) }:Loop)=rec .done (some (.exit 0)):=by rw[←HRB.out,HREC.out]
      rw[hr] at h;have hr2:(Obj.loop { rb with state:=if (some (Code.exit 0)).isNone=true then LoopState.ready else LoopState.done,pending:=some (.exit 0) })=Obj.loop (rec .done (some (.exit 0))):=congrArg Obj.loop hr;rw[hr2];exact h
    ·have hc:((b:Int) == (n:Int))=false:=by rw[U_];omega
     have hlt:32*(k+1)<n:=by omega
     have hN:k+1<nOf n:=by unfold nOf;omega
     have hbp:bs=stm s (k+1):=by rw[←HBE.out];exact Y_ (by rw[kG];omega)
     refine wpIn_cond_false (congrArg Value.bool hc) (wpIn_skip ?_);simp only[Exit.inBlock,Nat.reduceEqDiff,reduceIte,roundPost];refine⟨_,_,run_endRound none HQ.out.lp,?_⟩;refine⟨⟨?_,?_⟩,.inl ⟨rfl,⟨hlt,?_⟩,hN⟩⟩
     ·have := HTQ.out.1
      rw[World.putObj_size]
      omega
     ·intro j c hj hc2
      exact(KT.put wq _).2 j c (by rw[HZ6.out] at hj;exact hj) (HTQ.out.2 j c (by rw[HZ6.out] at hj;exact hj) hc2)
     ·have h:=HQ.out.put { rb with state := .ready,pending:=none }
      rw[hbp] at h
      have hr:({ rb with state := .ready,pending:=none }:Loop)=rec .ready none:=by rw[←HRB.out,HREC.out]
      rw[hr] at h;have hr2:(Obj.loop { rb with state:=if (none:Option Code).isNone=true then LoopState.ready else LoopState.done,pending:=none })=Obj.loop (rec .ready none):=congrArg Obj.loop hr;rw[hr2];exact h
 case a9 =>
  rintro e B ⟨⟨v,rfl⟩,k,rfl,hst⟩;refine⟨_,_,run_endLoop hst.lp (by rw[HREC.out];intro h;cases h),?_⟩
  have hp:(rec .done (some (.exit 0))).pending=some (.exit 0):=by rw[HREC.out]
  rw[hp];generalize hB2:B.putObj (g+5+1) _=B2;have HST:Hid (∃lp,BSt W4 g (ez s n) (sdN s (nOf n)) lp B2):=O ⟨_,by rw[←hB2];exact hst.put _⟩;clear hB2 hst hp HREC H6 HZ6 HC4;refine wpIn_exit ?_;simp only[Exit.inBlock,reduceIte]
  rename_i hk
  refine hk _ _ ?_;clear hk;obtain⟨bs,hbs⟩:∃bs,bs=ez s n:=⟨_,rfl⟩;obtain⟨sd,hsd⟩:∃sd,sd=sdN s (nOf n):=⟨_,rfl⟩;rw[←hbs,←hsd] at HST;have HF0:Hid (FSt W4 g sd B2∧jH (g+3) bs B2):=O (by obtain⟨lp,h⟩:=HST.out;exact⟨⟨h.b3,h.af,h.df⟩,h.bl⟩);have HE:=O (show ez s n=bs∧sdN s (nOf n)=sd from⟨hbs.symm,hsd.symm⟩);clear HST hbs hsd
  go_upto_region 11 with fail
  try dsimp only[Act.put]
  refine sU (Rl:=fun _ _=>True) (E0:=fun x y=>Below x.heap.size x y) (J:=fun d x=>FSt W4 g sd x∧(d=false→jH (g+3) bs x)) 0
   ⟨fun _ _ _=>trivial,fun d a b h hb=>⟨h.1.on hb,fun e=>(h.2 e).keep (fun i o ho _=>by rw[hb.block _ (Q_.1 ho).1];exact ho)⟩⟩ 3 (by decide) [[],[],[0]]
   (SPG.of [.eq (.string ⟨bs.toArray⟩),.eq (.agg (ag sd)),.eq (.string ⟨bs.toArray⟩)]) (fun i=>([undef,undef,.string ⟨#[]⟩]:List Value).getD i undef) ?p1 ?p2 ?p3 ?p4 ?p5 ?p6 ?p7
  case p1=>kernel_rfl
  case p2=>kernel_rfl
  case p3=>kernel_rfl
  case p4 =>
   simp only[F_,c_]
   repeat (first |exact trivial|refine⟨fun vals v=>by kernel_rfl,?_⟩)
  case p5=>exact⟨HF0.out.1.on (O_ _ _).drew,fun _=>HF0.out.2.keep (fun i o ho _=>ho)⟩
  case p6 =>
   simp only[F_,c_];refine⟨?_,?_,?_,trivial⟩
   all_goals (intro d wq hd hJq vals;simp only[Nat.reduceAdd,a_,X_,W_];repeat (first |refine lM ?_|refine ft rfl ?_);intro Q hQ;simp only[ay,upd,Act.put,B_,C_,D_,Nat.reduceAdd,a_,Nat.reduceEqDiff,if_true,if_false,reduceIte])
   ·rw[hd rfl] at hJq
    have HJ1:=O hJq.1;have HJ2:=O (hJq.2 rfl);clear hJq hd
    go_wp2_with (go_at_call 155;refine(WT (g+3) bs _ HJ2.out).mono ?_;rintro e wk ⟨rfl,hkk⟩)
    exact fN hQ _ (by kernel_rfl) (Ez trivial ⟨HJ1.out.wrote hkk,fun h=>by cases h⟩) rfl
   ·have HJ1:=O hJq.1
    clear hJq hd
    go_wp2_with (refine wpList_load_row rfl 30 (.tmp 7) rfl (g+4) rfl _ (ag sd) (0,0) _ HJ1.out.2.1 Tryz.underlying30 rfl cS ?_)
    exact fN hQ _ (by kernel_rfl) (qo (by decide) (O_ _ _)) rfl
   ·clear hJq hd
    go_wp2;exact fN hQ _ (by kernel_rfl) (qo (by decide) (O_ _ _)) rfl
  case p7 =>
   intro wq hJq vals;rw[show List.range 3=[0,1,2] from by decide];refine ft rfl (ft rfl (ft rfl (lM ?_)));simp only[F_,c_,J_,L_];simp only[ay,upd,Act.put,B_,C_,D_,Nat.reduceAdd,a_,Nat.reduceEqDiff,if_true,if_false,reduceIte];have HQ:=O hJq.1;clear hJq;have HQ2:=O (HC.out wq HQ.out.1)
   go_wp2_with (refine aM (T:=30) (ag sd) cS rfl (.tmp 5) (.tmp 36) rfl (g+2) (ag []) rfl rfl (aS _) rfl HQ2.out.2.2.1 ?_;intro we hge hoe hbe)
   have hK:we.heap[g+5]?=some (.deferred (some [])):=by rw[hoe _ (by omega)];exact HQ.out.2.2
   have hb:Below g w we:=HQ2.out.2.2.2.2.trans (hbe _ (by omega));have hw:Below g we (we.putObj (g+5) (.deferred none)):=⟨rfl,rfl,rfl,by simp,fun k hk=>World.putObj_heap_other (by omega)⟩;have hr:(we.putObj (g+5) (.deferred none)).heap[g+2]?=some (.cells (ag sd) 30 (0,0)):=(World.putObj_heap_other (by omega)).trans hge;refine⟨by simp[Act.put],.inl ⟨_,_,rfl,run_takeDeferred hK,?_⟩⟩;refine⟨_,iS rfl _ _ (g+2) _ rfl (fD _ (g+2) sd _ hr),?_⟩;refine⟨?_,by rw[hgg];exact hb.trans hw⟩;rw[HE.out.1,HE.out.2]
   rfl
theorem Hd (s:List UInt8) (w:World) :
  Calls Tryz.prog 108 #[.agg (ag s),.int .i64 0] w fun e w'=>e = .returned (.tuple #[.string ⟨(ez s 0).toArray⟩,.agg (ag (sdN s (nOf 0)))])∧Below w.heap.size w w':=by
 have hz:=fi;obtain⟨W0,hW0⟩:∃W0,W0=((w.alloc (.cells (ag s) 30)).alloc (.cells #[.int .i64 0] 3)).alloc (.cells (ag []) 30):=⟨_,rfl⟩;have HW:=O hW0
 have HB0:Hid (w.heap.size≤W0.heap.size∧Below w.heap.size w W0∧W0.heap[w.heap.size]?=some (.cells (ag s) 30 (0,0))∧W0.heap[w.heap.size+2]?=some (.cells (ag []) 30 (0,0))):=O (by
  rw[hW0]
  exact⟨by simp;omega,(((O_ _ _).alloc (A_ _) _).alloc (by simp) _).alloc (by simp;omega) _,oo _ _ _ _,ot _ _ _ _⟩)
 have cn:W0.cell? ⟨w.heap.size+1,0,none⟩=some (.int .i64 0):=e_ W0 (w.heap.size+1) 0 #[.int .i64 0] 3 (0,0) (by rw[hW0];exact oq _ _ _ _);clear hW0
 go_enter Tryz.func108,Tryz.ntmps108
 go_upto_region 1 with fail
 rw[←HW.out]
 try dsimp only[Act.put]
 go_upto_region 2 with fail
 simp only[Nat.add_assoc,Nat.reduceAdd];have HX:Hid (∀u,Below W0.heap.size W0 u→Below w.heap.size w u∧u.heap[w.heap.size]?=some (.cells (ag s) 30 (0,0))∧u.heap[w.heap.size+2]?=some (.cells (ag []) 30 (0,0))):=O (fun u hb=>⟨HB0.out.2.1.trans (hb.mono HB0.out.1),by rw[hb.block _ (Q_.1 HB0.out.2.2.1).1];exact HB0.out.2.2.1,by rw[hb.block _ (Q_.1 HB0.out.2.2.2).1];exact HB0.out.2.2.2⟩);refine aY 2 [[],[]] (SP.of [.eq (.agg (ag s)),.eq (.string ⟨#[]⟩)]) (fun i=>([undef,.string ⟨#[]⟩]:List Value).getD i undef) ?h1 ?h2 ?h3 ?h4 ?h5 ?h6
 case h1=>kernel_rfl
 case h2=>kernel_rfl
 case h3=>kernel_rfl
 case h4 =>
  simp only[F_,c_]
  repeat (first |exact trivial|refine⟨fun vals v=>by kernel_rfl,?_⟩)
 case h5 =>
  simp only[F_,c_];refine⟨?_,?_,trivial⟩
  all_goals (intro wq hbq vals;simp only[Nat.reduceAdd,a_,X_,W_];have HQ:=O (HX.out wq hbq);clear hbq;repeat (first |refine ar ?_|refine aw rfl ?_);intro Q hQ;simp only[ay,upd,Act.put,B_,C_,D_,Nat.reduceAdd,a_,Nat.reduceEqDiff,if_true,if_false,reduceIte])
  ·go_wp2_with (refine wpList_load_row rfl 30 (.tmp 2) rfl w.heap.size rfl _ (ag s) (0,0) _ HQ.out.2.1 Tryz.underlying30 rfl cS ?_)
   exact ab hQ _ (by kernel_rfl) (O_ _ _) rfl
  ·go_wp2
   exact ab hQ _ (by kernel_rfl) (O_ _ _) rfl
 case h6 =>
  intro wq hbq vals;have HQ:=O (HX.out wq hbq);clear hbq;rw[show List.range 2=[0,1] from by decide]
  repeat (first |refine ar ?_|refine aw rfl ?_)
  simp only[F_,c_,J_,L_];simp only[ay,upd,Act.put,B_,C_,D_,Nat.reduceAdd,a_,Nat.reduceEqDiff,if_true,if_false,reduceIte]
  go_wp2_with (refine aM (T:=30) (ag s) cS rfl (.tmp 5) (.tmp 16) rfl (w.heap.size+2) (ag []) rfl rfl (aS _) rfl HQ.out.2.2 ?_;intro we hge hoe hbe)
  refine g_ (iS rfl _ _ (w.heap.size+2) _ rfl (fD _ (w.heap.size+2) s _ hge)) rfl ?_;exact⟨rfl,HQ.out.1.trans (hbe _ (by omega))⟩
theorem Tq (s:List UInt8) (n:Nat) (w:World) (hk:KAt w) (hs:s.length≤1000000) (h2:n≤8000) :
  Calls Tryz.prog 108 #[.agg (ag s),.int .i64 n] w fun e w'=>e = .returned (.tuple #[.string ⟨(ez s n).toArray⟩,.agg (ag (sdN s (nOf n)))])∧Below w.heap.size w w':=by
 rcases Nat.eq_zero_or_pos n with h|h
 ·subst h
  exact Hd s w
 ·exact Ld s n w hk hs h h2
end
end Go.Proofs.YtmfiaadjdbemnaaGreatDoor
