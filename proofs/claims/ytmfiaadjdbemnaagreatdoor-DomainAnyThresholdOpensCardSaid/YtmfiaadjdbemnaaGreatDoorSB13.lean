/- Contracts and lemmas. No condition. -/
import Derived.Test.YtmfiaadjdbemnaaGreatDoorSB07
import Derived.Test.YtmfiaadjdbemnaaGreatDoorSB12
import Derived.Ground.Names2Prog
import Derived.OrdersIn
import Derived.RangeFuncCalls
import Derived.RangeFuncNested
import Derived.Shelf.Slices.Clone
import Derived.Shelf.Slices.Turned
import Derived.Shelf.Strings.Builder1
import Derived.Shelf.Strings.Builder2
import Derived.Shelf.Strings.BuilderF
import Derived.Shelf.Strings.BuilderK
import Derived.Shelf.Strings.OnBuilder
import Derived.TacticsIn
set_option maxRecDepth 100000
set_option maxHeartbeats 8000000
namespace Go.Proofs.YtmfiaadjdbemnaaGreatDoor
section
open Go.RowKit
def fH (key:List UInt8):List UInt8:=mac key [101,110,99]
def cO (key:List UInt8):List UInt8:=mac key [109,97,99]
def bm (m ad t:List UInt8):List UInt8:=(mac m ([110,111,110,99,101]++(aV ad++t))).take 12
def jj (m n ad c:List UInt8):List UInt8:=(mac m ([116,97,103]++(n++(aV ad++c)))).take 16
theorem qp (k:List UInt8):(fH k).length=32:=ju _ _
theorem qF (k:List UInt8):(cO k).length=32:=ju _ _
theorem gL (m ad t:List UInt8):(bm m ad t).length=12:=by unfold bm;rw[List.length_take,ju];rfl
theorem jX (m n ad c:List UInt8):(jj m n ad c).length=16:=by unfold jj;rw[List.length_take,ju];rfl
def eX (key n t:List UInt8):List UInt8:=C3.xorText key 1 n t
def bQ (key ad t:List UInt8):List UInt8 :=
 bm (cO key) ad t++(eX (fH key) (bm (cO key) ad t) t++jj (cO key) (bm (cO key) ad t) ad (eX (fH key) (bm (cO key) ad t) t))
def bN (blob:List UInt8):List UInt8:=blob.take 12
def bC (blob:List UInt8):List UInt8:=(blob.drop 12).take (blob.length-16-12)
def bT (blob:List UInt8):List UInt8:=blob.drop (blob.length-16)
def jn (key ad blob:List UInt8):Option (List UInt8) :=
 if jj (cO key) (bN blob) ad (bC blob)=bT blob∧bm (cO key) ad (eX (fH key) (bN blob) (bC blob))=bN blob then some (eX (fH key) (bN blob) (bC blob)) else none
theorem cW (s:List UInt8):(aV s).length≤s.length+9:=by unfold aV;rw[List.length_append];have := cg (s.length:Int);omega
theorem xF (xs:List (List UInt8)):Lib.join xs []=xs.flatten:=by
 cases xs with
 | nil=>rfl
 | cons x r =>
   rw[Lib.join_cons,List.flatten_cons]
   congr 1
   unfold Lib.joinTail
   simp
attribute [local irreducible] Calls mac aV
theorem CH (m:List UInt8) (n:Nat) (bk:Nat) (xs:List (List UInt8)) (w:World) (hk:KAt w) (hn:n≤32) (hm:m.length≤1000000)
  (hcells:∀(j:Nat) x,xs[j]?=some x→w.cell? ⟨bk,j,none⟩=some (.string ⟨x.toArray⟩)) (hbk:bk<w.heap.size) (hx:xs.length≤100) (hl:xs.flatten.length≤10000000) :
  Calls Tryz.prog 121 #[.string ⟨m.toArray⟩,.int .i64 n,.slice (some ⟨bk,0,none⟩) xs.length xs.length] w fun e w'=>e = .returned (.string ⟨((mac m xs.flatten).take n).toArray⟩)∧Below w.heap.size w w':=by
 have hj:((xs.map (fun x=>ByteArray.mk x.toArray)).map (·.data.toList))=xs:=by
  rw[List.map_map]
  show xs.map (fun x=>x)=xs
  simp
 have J:=Tryz.strings_Join bk 0 xs.length (xs.map (fun x=>ByteArray.mk x.toArray)) ⟨#[]⟩ w (by
  intro j x hx;rw[List.getElem?_map] at hx
  cases hq:xs[j]? with
  | none=>rw[hq] at hx;cases hx
  | some y =>
    rw[hq] at hx
    cases hx
    rw[Nat.zero_add]
    exact hcells j y hq) hbk (by rw[List.length_map];omega) (by rw[List.length_map];exact Nat.le_refl _) (by rw[hj,xF];omega)
 rw[hj,List.length_map,xF] at J;have HJ:=O J;have HL:=O hl;have HK:=O hk;have HM:=O hm
 have hni:(n:Int)≤32:=by omega
 have hml:=ju m xs.flatten;have HML:=O hml;clear J hj hcells hl hm hk hml;generalize hfl:xs.flatten=fl at HJ HL HML ⊢;clear hfl
 go_enter Tryz.func121,Tryz.ntmps121
 go_wp2_with (first
  |(go_at_call 167;refine HJ.out.mono ?_;rintro e w1 ⟨rfl,hb1⟩;have HB1:=O hb1;clear hb1)
  |(go_at_call 106;refine(E8 m fl _ (HK.out.on HB1.out) (by have := HM.out;omega) (by have := HL.out;omega)).mono ?_;rintro e w2 ⟨rfl,hb2⟩;have HB2:=O (HB1.out.trans (hb2.mono HB1.out.size));clear hb2;generalize hmk:mac m fl=mk at HML ⊢;have hl32:(ByteArray.mk mk.toArray).size=32:=HML.out))
 go_ret;exact⟨by rw[hmk];rfl,HB2.out⟩
theorem m9 (key:List UInt8) (w:World) (hk:KAt w) (hl:key.length=32) :
  Calls Tryz.prog 120 #[.string ⟨key.toArray⟩] w fun e w'=>e = .returned (.tuple #[.string ⟨(fH key).toArray⟩,.string ⟨(cO key).toArray⟩,.int .i64 0])∧Below w.heap.size w w':=by
 have HL:=O hl;have HK:=O hk
 have i1:((key.length:Int) != 32)=false:=by rw[hl];rfl
 have he:mac key [101,110,99]=fH key:=rfl;have hm:mac key [109,97,99]=cO key:=rfl;have HE:=O he;have HM:=O hm;clear hk hl he hm
 go_enter Tryz.func120,Tryz.ntmps120
 go_wp2_with (first
  |(go_at_call 106;refine(E8 key [101,110,99] _ HK.out (by rw[HL.out];decide) (by decide)).mono ?_;rintro e w1 ⟨rfl,hb1⟩;have HB1:=O hb1;clear hb1;rw[HE.out])
  |(go_at_call 106;refine(E8 key [109,97,99] _ (HK.out.on HB1.out) (by rw[HL.out];decide) (by decide)).mono ?_;rintro e w2 ⟨rfl,hb2⟩;have HB2:=O (HB1.out.trans (hb2.mono HB1.out.size));clear hb2;rw[HM.out]))
 go_ret3
 exact⟨rfl,HB2.out⟩
theorem za (key:List UInt8) (w:World) (hl:¬key.length=32) :
  Calls Tryz.prog 120 #[.string ⟨key.toArray⟩] w fun e w'=>e = .returned (.tuple #[.string ⟨#[]⟩,.string ⟨#[]⟩,.int .i64 1])∧Below w.heap.size w w':=by
 have i1:((key.length:Int) != 32)=true:=by simp;omega
 clear hl
 go_enter Tryz.func120,Tryz.ntmps120
 go_wp2
 go_ret3
 exact⟨rfl,Oo _ _⟩
theorem MJ (key nonce text:List UInt8) (hk:key.length=32) (hn:nonce.length=12) (ht:text.length≤2000000) (w:World) :
  Calls Tryz.prog 122 #[.string ⟨key.toArray⟩,.int .u32 1,.string ⟨nonce.toArray⟩,.string ⟨text.toArray⟩] w fun e w'=>e = .returned (.tuple #[.string ⟨(eX key nonce text).toArray⟩,.int .i64 0])∧Below w.heap.size w w':=Xq key nonce text 1 hk hn ht w
@[go_sem] theorem Yg (a b : List UInt8) : (ByteArray.mk a.toArray ++ ByteArray.mk b.toArray) = ByteArray.mk (a ++ b).toArray := by
  apply ByteArray.ext
  rw[ByteArray.data_append]
  simp
theorem sA (w:World) (xs:List (List UInt8)) (T:TypeId):∀(j:Nat) x,xs[j]?=some x→(w.alloc (.cells (xs.map (fun x=>Value.string ⟨x.toArray⟩)).toArray T)).cell? ⟨w.heap.size,j,none⟩=some (.string ⟨x.toArray⟩):=by
 intro j x hx;rw[cell_of_row _ _ _ _ _ _ (al _ _ _ rfl)]
 simp[hx]
theorem NU (m:List UInt8) (a b c:List UInt8) (w:World) (T:TypeId) (hk:KAt w) (hm:m.length=32) (ha:a.length≤100) (hb:b.length≤2100000) (hc:c.length≤2100000) :
  Calls Tryz.prog 121 #[.string ⟨m.toArray⟩,.int .i64 12,.slice (some ⟨w.heap.size,0,none⟩) 3 3] (w.alloc (.cells #[.string ⟨a.toArray⟩,.string ⟨b.toArray⟩,.string ⟨c.toArray⟩] T)) fun e w'=>e = .returned (.string ⟨((mac m (a++(b++c))).take 12).toArray⟩)∧Below w.heap.size w w':=by
 have h:=CH m 12 w.heap.size [a,b,c] (w.alloc (.cells #[.string ⟨a.toArray⟩,.string ⟨b.toArray⟩,.string ⟨c.toArray⟩] T)) (hk.alloc _) (by decide) (by omega) (sA w [a,b,c] T) (by simp) (by simp) (by simp;omega)
 have e:[a,b,c].flatten=a++(b++c):=by simp
 rw[e] at h;exact h.mono fun e w' hh=>⟨hh.1,((Oo _ _).alloc (Nat.le_refl _) _).trans (hh.2.mono (by simp))⟩
theorem NV (m:List UInt8) (a b c d:List UInt8) (w:World) (T:TypeId) (hk:KAt w) (hm:m.length=32) (ha:a.length≤100) (hb:b.length≤2100000) (hc:c.length≤2100000) (hd:d.length≤2100000) :
  Calls Tryz.prog 121 #[.string ⟨m.toArray⟩,.int .i64 16,.slice (some ⟨w.heap.size,0,none⟩) 4 4] (w.alloc (.cells #[.string ⟨a.toArray⟩,.string ⟨b.toArray⟩,.string ⟨c.toArray⟩,.string ⟨d.toArray⟩] T)) fun e w'=>e = .returned (.string ⟨((mac m (a++(b++(c++d)))).take 16).toArray⟩)∧Below w.heap.size w w':=by
 have h:=CH m 16 w.heap.size [a,b,c,d] (w.alloc (.cells #[.string ⟨a.toArray⟩,.string ⟨b.toArray⟩,.string ⟨c.toArray⟩,.string ⟨d.toArray⟩] T)) (hk.alloc _) (by decide) (by omega) (sA w [a,b,c,d] T) (by simp) (by simp) (by simp;omega)
 have e:[a,b,c,d].flatten=a++(b++(c++d)):=by simp
 rw[e] at h;exact h.mono fun e w' hh=>⟨hh.1,((Oo _ _).alloc (Nat.le_refl _) _).trans (hh.2.mono (by simp))⟩
theorem zf (m ad t:List UInt8) (w:World) (hk:KAt w) (hm:m.length=32) (ha:ad.length≤2000000) (ht:t.length≤2000000) :
  Calls Tryz.prog 121 #[.string ⟨m.toArray⟩,.int .i64 12,.slice (some ⟨w.heap.size,0,none⟩) 3 3] (w.alloc (.cells #[.string ⟨#[110,111,110,99,101]⟩,.string ⟨(aV ad).toArray⟩,.string ⟨t.toArray⟩] 9)) fun e w'=>e = .returned (.string ⟨(bm m ad t).toArray⟩)∧Below w.heap.size w w' :=
 NU m [110,111,110,99,101] (aV ad) t w _ hk hm (by decide) (by have := cW ad;omega) (by omega)
theorem WW (m n ad c:List UInt8) (w:World) (hk:KAt w) (hm:m.length=32) (hn:n.length≤2000000) (ha:ad.length≤2000000) (hc:c.length≤2000000) :
  Calls Tryz.prog 121 #[.string ⟨m.toArray⟩,.int .i64 16,.slice (some ⟨w.heap.size,0,none⟩) 4 4] (w.alloc (.cells #[.string ⟨#[116,97,103]⟩,.string ⟨n.toArray⟩,.string ⟨(aV ad).toArray⟩,.string ⟨c.toArray⟩] 9)) fun e w'=>e = .returned (.string ⟨(jj m n ad c).toArray⟩)∧Below w.heap.size w w' :=
 NV m [116,97,103] n (aV ad) c w _ hk hm (by decide) (by omega) (by have := cW ad;omega) (by omega)
theorem lz (key n t:List UInt8):(eX key n t).length=t.length:=C3.length_xorText key 1 n t
theorem Ly (key ad t:List UInt8) (w:World) (hk:KAt w) (hl:key.length=32) (ha:ad.length≤1048576) (ht:t.length≤1048576) :
  Calls Tryz.prog 78 #[.string ⟨key.toArray⟩,.string ⟨ad.toArray⟩,.string ⟨t.toArray⟩] w fun e w'=>e = .returned (.tuple #[.string ⟨(bQ key ad t).toArray⟩,.int .i64 0])∧Below w.heap.size w w':=by
 have HL:=O hl;have HK:=O hk;have HA:=O ha;have HT:=O ht
 have i1:¬(1048576:Int)<ad.length:=by omega
 have i2:¬(1048576:Int)<t.length:=by omega
 have hs:bQ key ad t=bm (cO key) ad t++(eX (fH key) (bm (cO key) ad t) t++jj (cO key) (bm (cO key) ad t) ad (eX (fH key) (bm (cO key) ad t) t)):=rfl;have HS:=O hs;have HEL:=O (qp key);have HML:=O (qF key);have HEN:=O (cW ad);clear hl hk ha ht hs
 go_enter Tryz.func78,Tryz.ntmps78
 go_wp2_with (first
  |(go_at_call 120;refine(m9 key _ HK.out HL.out).mono ?_;rintro e w1 ⟨rfl,hb1⟩;have HB1:=O hb1;clear hb1;generalize hek:fH key=ek;generalize hmk:cO key=mk;have HEK:=O hek;have HMK:=O hmk;clear hek hmk)
  |(go_at_call 68;refine(lG ad _ (by have := HA.out;omega)).mono ?_;rintro e w2 ⟨v2,rfl,ho2,hb2⟩;have HB2:=O (HB1.out.trans (hb2.mono HB1.out.size));have hcv:=b6 ho2.rd;clear ho2 hb2)
  |(go_at_call 121;refine(zf mk ad t w2 (HK.out.on HB2.out) (by rw[←HMK.out];exact HML.out) (by have := HA.out;omega) (by have := HT.out;omega)).mono ?_;rintro e w3 ⟨rfl,hb3⟩;have HB3:=O (HB2.out.trans (hb3.mono HB2.out.size));clear hb3;generalize hn:bm mk ad t=nc;have HN:=O hn;have HNL:Hid (nc.length=12):=(O (by rw[←hn];exact gL _ _ _));clear hn)
  |(go_at_call 122;refine(MJ ek nc t (by rw[←HEK.out];exact HEL.out) HNL.out (by have := HT.out;omega) _).mono ?_;rintro e w4 ⟨rfl,hb4⟩;have HB4:=O (HB3.out.trans (hb4.mono HB3.out.size));clear hb4;generalize hx:eX ek nc t=xc;have HX:=O hx;have HXL:Hid (xc.length=t.length):=(O (by rw[←hx];exact lz _ _ _));clear hx;have q1:¬9223372036854775807<nc.length+xc.length:=(by rw[HNL.out,HXL.out];have := HT.out;omega))
  |(go_at_call 121;refine(WW mk nc ad xc w4 (HK.out.on HB4.out) (by rw[←HMK.out];exact HML.out) (by rw[HNL.out];decide) (by have := HA.out;omega) (by rw[HXL.out];have := HT.out;omega)).mono ?_;rintro e w5 ⟨rfl,hb5⟩;have HB5:=O (HB4.out.trans (hb5.mono HB4.out.size));clear hb5;generalize htg:jj mk nc ad xc=tg;have HTG:=O htg;have q2:¬9223372036854775807<nc.length+xc.length+tg.length:=(by rw[←htg,jX,HNL.out,HXL.out];have := HT.out;omega);clear htg))
 go_ret2
 exact⟨by rw[HS.out,HEK.out,HMK.out,HN.out,HX.out,HTG.out];rfl,HB5.out⟩
def eu (key ad t:List UInt8):List UInt8:=if key.length=32∧¬(1048576<ad.length∨1048576<t.length) then bQ key ad t else []
def fF (key ad t:List UInt8):Int:=if key.length=32 then (if 1048576<ad.length∨1048576<t.length then 2 else 0) else 1
end
section
open Go.RowKit
theorem Jc (w:World) (bk:Nat) (xs:List (List UInt8)) (T:TypeId) (hg:w.heap[bk]?=some (.cells (xs.map (fun x=>Value.string ⟨x.toArray⟩)).toArray T (0,0))):∀(j:Nat) x,xs[j]?=some x→w.cell? ⟨bk,j,none⟩=some (.string ⟨x.toArray⟩):=by
 intro j x hx;rw[cell_of_row _ _ _ _ _ _ hg]
 simp[hx]
theorem WX (m n ad c:List UInt8) (bk:Nat) (w:World) (T:TypeId) (hk:KAt w) (hm:m.length=32) (hn:n.length≤2000000) (ha:ad.length≤2000000) (hc:c.length≤2000000)
  (hg:w.heap[bk]?=some (.cells #[.string ⟨#[116,97,103]⟩,.string ⟨n.toArray⟩,.string ⟨(aV ad).toArray⟩,.string ⟨c.toArray⟩] T (0,0))) :
  Calls Tryz.prog 121 #[.string ⟨m.toArray⟩,.int .i64 16,.slice (some ⟨bk,0,none⟩) 4 4] w fun e w'=>e = .returned (.string ⟨(jj m n ad c).toArray⟩)∧Below w.heap.size w w':=by
 have h:=CH m 16 bk [[116,97,103],n,aV ad,c] w hk (by decide) (by omega) (Jc w bk [[116,97,103],n,aV ad,c] T hg) (Array.getElem?_eq_some_iff.1 hg).1 (by simp) (by have := cW ad;simp;omega)
 have e:[[116,97,103],n,aV ad,c].flatten=[116,97,103]++(n++(aV ad++c)):=by simp
 rw[e] at h;exact h
def SP.freshS (B:Nat) (n:Nat) (cs:Array Value) (T:TypeId):SP :=
 .pred (fun v w=>∃g:Nat,v = .slice (some ⟨g,0,none⟩) n n∧B≤g∧w.heap[g]?=some (.cells cs T (0,0)))
  (fun v w w' hb ⟨g,e,h1,h2⟩=>⟨g,e,h1,by rw[hb.block _ (Array.getElem?_eq_some_iff.1 h2).1];exact h2⟩)
def KP:Option (List UInt8)→Value
 | some x => .tuple #[.string ⟨x.toArray⟩,.int .i64 0]
 | none => .tuple #[.string ⟨#[]⟩,.int .i64 8]
attribute [local irreducible] Calls mac aV bm jj eX fH cO
theorem O1 (key ad t:List UInt8) (w:World) (hl:¬key.length=32) :
  Calls Tryz.prog 88 #[.string ⟨key.toArray⟩,.string ⟨ad.toArray⟩,.string ⟨t.toArray⟩] w fun e w'=>e = .returned (.tuple #[.string ⟨#[]⟩,.int .i64 1])∧Below w.heap.size w w':=by
 go_enter Tryz.func88,Tryz.ntmps88
 go_wp2_with (go_at_call 120;refine(za key _ hl).mono ?_;rintro e w1 ⟨rfl,hb1⟩)
 go_ret2
 exact⟨rfl,hb1⟩
theorem Dq (key ad t:List UInt8) (w:World) (hk:KAt w) (hl:key.length=32) (ha:ad.length≤1048576) (ht:t.length<28) :
  Calls Tryz.prog 88 #[.string ⟨key.toArray⟩,.string ⟨ad.toArray⟩,.string ⟨t.toArray⟩] w fun e w'=>e = .returned (.tuple #[.string ⟨#[]⟩,.int .i64 5])∧Below w.heap.size w w':=by
 have i1:¬(1048576:Int)<ad.length:=by omega
 have i2:¬(1048604:Int)<t.length:=by omega
 have i3:(t.length:Int)<28:=by omega
 clear ha ht
 go_enter Tryz.func88,Tryz.ntmps88
 go_wp2_with (go_at_call 120;refine(m9 key _ hk hl).mono ?_;rintro e w1 ⟨rfl,hb1⟩)
 go_ret2
 exact⟨rfl,hb1⟩
theorem KQ (key ad t:List UInt8) (w:World) (hk:KAt w) (hl:key.length=32) (h:1048576<ad.length∨1048604<t.length) :
  Calls Tryz.prog 88 #[.string ⟨key.toArray⟩,.string ⟨ad.toArray⟩,.string ⟨t.toArray⟩] w fun e w'=>e = .returned (.tuple #[.string ⟨#[]⟩,.int .i64 2])∧Below w.heap.size w w':=by
 by_cases h1:1048576<ad.length
 ·have i1:(1048576:Int)<ad.length:=by omega
  clear h h1
  go_enter Tryz.func88,Tryz.ntmps88
  go_wp2_with (go_at_call 120;refine(m9 key _ hk hl).mono ?_;rintro e w1 ⟨rfl,hb1⟩)
  go_ret2
  exact⟨rfl,hb1⟩
 ·have i1:¬(1048576:Int)<ad.length:=by omega
  have i2:(1048604:Int)<t.length:=by omega
  clear h h1
  go_enter Tryz.func88,Tryz.ntmps88
  go_wp2_with (go_at_call 120;refine(m9 key _ hk hl).mono ?_;rintro e w1 ⟨rfl,hb1⟩)
  go_ret2
  exact⟨rfl,hb1⟩
theorem Tc (key ad t:List UInt8) (w:World) (hk:KAt w) (hl:key.length=32) (ha:ad.length≤1048576) (ht:28≤t.length) (ht2:t.length≤1048604) :
  Calls Tryz.prog 88 #[.string ⟨key.toArray⟩,.string ⟨ad.toArray⟩,.string ⟨t.toArray⟩] w fun e w'=>e = .returned (KP (jn key ad t))∧Below w.heap.size w w':=by
 have HL:=O hl;have HK:=O hk;have HA:=O ha;have HT:=O ht2;have HT1:=O ht
 have i1:¬(1048576:Int)<ad.length:=by omega
 have i2:¬(1048604:Int)<t.length:=by omega
 have i3:¬(t.length:Int)<28:=by omega
 have hti:(28:Int)≤t.length:=by omega
 have hti2:(t.length:Int)≤1048604:=by omega
 have HEL:=O (qp key);have HML:=O (qF key);have HEN:=O (cW ad);clear hl hk ha
 go_enter Tryz.func88,Tryz.ntmps88
 go_upto_region 9 with (first
  |(go_at_call 120;refine(m9 key _ HK.out HL.out).mono ?_;rintro e w1 ⟨rfl,hb1⟩;have HB1:=O hb1;clear hb1;generalize hek:fH key=ek;generalize hmk:cO key=mk;have HEK:=O hek;have HMK:=O hmk;clear hek hmk)
  |(go_at_call 68;refine(lG ad _ (by have := HA.out;omega)).mono ?_;rintro e w2 ⟨v2,rfl,ho2,hb2⟩;have HB2:=O (HB1.out.trans (hb2.mono HB1.out.size));have hcv:=b6 ho2.rd;clear ho2 hb2))
 refine fG (by kernel_rfl) (by kernel_rfl) ?_
 repeat (go_big_quiet_step (fail))
 refine wpQuiet_nil ?_;rintro _ ⟨nq,rfl⟩
 go_upto_region 10 with fail
 have HKN:Hid (KAt (w2.drewN nq)):=O (HK.out.on (ak nq HB2.out));have HBN:Hid (Below w.heap.size w (w2.drewN nq)):=O (ak nq HB2.out);generalize w2.drewN nq=w3 at HKN HBN ⊢;obtain⟨nn,hnn⟩:∃nn,bN t=nn:=⟨_,rfl⟩;obtain⟨cc,hcc⟩:∃cc,bC t=cc:=⟨_,rfl⟩;obtain⟨tt,htt⟩:∃tt,bT t=tt:=⟨_,rfl⟩;have HNN:=O hnn;have HCC:=O hcc;have HTT:=O htt;have HNL:Hid (nn.length=12):=O (by rw[←hnn];unfold bN;rw[List.length_take];omega);have HCL:Hid (cc.length≤1048604):=O (by rw[←hcc];unfold bC;rw[List.length_take,List.length_drop];omega)
 have hft:(t.drop (t.length-16)).take (t.length-(t.length-16))=tt:=by
  rw[←htt];unfold bT;exact List.take_of_length_le (by rw[List.length_drop];exact Nat.le_refl _)
 have hft2:t.drop (t.length-16)=tt:=htt;unfold bN at hnn;unfold bC at hcc;rw[hnn,hcc];clear hnn hcc htt;have HMKL:Hid (mk.length=32):=O (by rw[←HMK.out];exact HML.out);have HEKL:Hid (ek.length=32):=O (by rw[←HEK.out];exact HEL.out);refine aY 9 [[],[],[],[],[1,2,3],[0,4],[],[],[6,7]] (SP.of [.eq (.string ⟨mk.toArray⟩),.eq (.string ⟨nn.toArray⟩),.eq (.string ⟨(aV ad).toArray⟩),.eq (.string ⟨cc.toArray⟩),.freshS w3.heap.size 4 #[.string ⟨#[116,97,103]⟩,.string ⟨nn.toArray⟩,.string ⟨(aV ad).toArray⟩,.string ⟨cc.toArray⟩] 9,.eq (.string ⟨(jj mk nn ad cc).toArray⟩),.eq (.string ⟨t.toArray⟩),.eq (.int .i64 ((t.length:Int)-16)),.eq (.string ⟨tt.toArray⟩)]) (fun _=>undef) ?h1 ?h2 ?h3 ?h4 ?h5 ?h6
 case h1=>kernel_rfl
 case h2=>kernel_rfl
 case h3=>kernel_rfl
 case h4 =>
  simp only[List.take_succ_cons,List.take_zero]
  repeat (first |exact trivial|refine⟨fun vals v=>by kernel_rfl,?_⟩)
 case h5 =>
  simp only[List.take_succ_cons,List.take_zero];refine⟨?_,?_,?_,?_,?_,?_,?_,?_,?_,trivial⟩
  all_goals (intro wq hbq vals;simp only[given,SP.of,SP.freshS,Nat.reduceAdd,Nat.zero_add,List.getD_cons_succ,List.getD_cons_zero];have HBQ:=O hbq;clear hbq)
  case refine_5 =>
   intro Q hQ;simp only[ay,upd,Act.put,List.setIfInBounds_toArray,List.set_cons_zero,List.set_cons_succ,Nat.reduceAdd,Nat.zero_add,Nat.reduceEqDiff,if_true,if_false,reduceIte];go_wp2;exact ab hQ _ (by kernel_rfl) ((Oo _ _).alloc (Nat.le_refl _) _) ⟨wq.heap.size,rfl,HBQ.out.size,al _ _ _ rfl⟩
  case refine_6 =>
   rintro _ ⟨g,rfl,hg1,hg2⟩ Q hQ;simp only[ay,upd,Act.put,List.setIfInBounds_toArray,List.set_cons_zero,List.set_cons_succ,Nat.reduceAdd,Nat.zero_add,Nat.reduceEqDiff,if_true,if_false,reduceIte];have HG2:=O hg2;clear hg1 hg2
   go_wp2_with (go_at_call 121;refine(WX mk nn ad cc g _ _ (HKN.out.on HBQ.out) HMKL.out (by rw[HNL.out];decide) (by have := HA.out;omega) (by have := HCL.out;omega) HG2.out).mono ?_;rintro e x1 ⟨rfl,hx1⟩)
   exact ab hQ _ (by kernel_rfl) hx1 rfl
  case refine_9 =>
   intro Q hQ;simp only[ay,upd,Act.put,List.setIfInBounds_toArray,List.set_cons_zero,List.set_cons_succ,Nat.reduceAdd,Nat.zero_add,Nat.reduceEqDiff,if_true,if_false,reduceIte];have HFT:=O hft;clear hft hft2;go_wp2;rw[HFT.out];exact ab hQ _ (by kernel_rfl) (Oo _ _) rfl
  all_goals (intro Q hQ;simp only[ay,upd,Act.put,List.setIfInBounds_toArray,List.set_cons_zero,List.set_cons_succ,Nat.reduceAdd,Nat.zero_add,Nat.reduceEqDiff,if_true,if_false,reduceIte])
  all_goals go_wp2
  all_goals exact ab hQ _ (by kernel_rfl) (Oo _ _) rfl
 case h6 =>
  intro w4 hb4 vals
  show given _ _ _ [0,1,2,3,4,5,6,7,8] _
  simp only[given,SP.of,SP.freshS,List.getD_cons_succ,List.getD_cons_zero];rintro _ ⟨g,rfl,hg1,hg2⟩;simp only[List.take_succ_cons,List.take_zero,List.drop_succ_cons,List.drop_zero];simp only[ay,upd,Act.put,List.setIfInBounds_toArray,List.set_cons_zero,List.set_cons_succ,Nat.reduceAdd,Nat.zero_add,Nat.reduceEqDiff,if_true,if_false,reduceIte];have HB4:=O (HBN.out.trans (hb4.mono HBN.out.size));clear hb4 hg1 hg2;generalize htg:jj mk nn ad cc=tg;have HTG:=O htg;clear htg hft hft2;have HO:Hid (jn key ad t=if tg=tt∧bm mk ad (eX ek nn cc)=nn then some (eX ek nn cc) else none):=O (by unfold jn;rw[HNN.out,HCC.out,HTT.out,HMK.out,HEK.out,HTG.out])
  by_cases hteq:tg=tt
  ·have e1:(tg == tt)=true:=by simpa using hteq
   have HTE:=O hteq;clear hteq
   go_upto_region 13 with (go_at_call 122;refine(MJ ek nn cc HEKL.out HNL.out (by have := HCL.out;omega) _).mono ?_;rintro e w5 ⟨rfl,hb5⟩;have HB5:=O (HB4.out.trans (hb5.mono HB4.out.size));clear hb5;generalize hx:eX ek nn cc=xc at HO ⊢;have HXL:Hid (xc.length=cc.length):=(O (by rw[←hx];exact lz _ _ _));clear hx)
   generalize hnc:bm mk ad xc=n2 at HO;have HNC:=O hnc;clear hnc
   by_cases hneq:n2=nn
   ·have e2:(n2 == nn)=true:=by simpa using hneq
    have HNE:=O hneq;clear hneq
    go_wp2_with (go_at_call 121;refine(zf mk ad xc w5 (HK.out.on HB5.out) HMKL.out (by have := HA.out;omega) (by rw[HXL.out];have := HCL.out;omega)).mono ?_;rintro e w6 ⟨rfl,hb6⟩;have HB6:=O (HB5.out.trans (hb6.mono HB5.out.size));clear hb6;rw[HNC.out])
    go_ret2
    exact⟨by rw[HO.out,if_pos ⟨HTE.out,HNE.out⟩];rfl,HB6.out⟩
   ·have e2:(n2 == nn)=false:=by simpa using hneq
    have HNE:=O hneq;clear hneq
    go_wp2_with (go_at_call 121;refine(zf mk ad xc w5 (HK.out.on HB5.out) HMKL.out (by have := HA.out;omega) (by rw[HXL.out];have := HCL.out;omega)).mono ?_;rintro e w6 ⟨rfl,hb6⟩;have HB6:=O (HB5.out.trans (hb6.mono HB5.out.size));clear hb6;rw[HNC.out])
    go_ret2
    exact⟨by rw[HO.out,if_neg (fun h=>HNE.out h.2)];rfl,HB6.out⟩
  ·have e1:(tg == tt)=false:=by simpa using hteq
   have HTE:=O hteq;clear hteq;go_wp2
   go_ret2
   exact⟨by rw[HO.out,if_neg (fun h=>HTE.out h.1)];rfl,HB4.out⟩
def gU (key ad t:List UInt8):List UInt8:=if key.length=32∧¬(1048576<ad.length∨1048604<t.length)∧¬t.length<28 then (jn key ad t).getD [] else []
def eG (key ad t:List UInt8):Int:=if key.length=32 then (if 1048576<ad.length∨1048604<t.length then 2 else if t.length<28 then 5 else if (jn key ad t).isSome then 0 else 8) else 1
theorem BB (o:Option (List UInt8)):KP o = .tuple #[.string ⟨(o.getD []).toArray⟩,.int .i64 (if o.isSome then 0 else 8)]:=by
 cases o <;> rfl
theorem Tf (key ad t:List UInt8) (w:World) (hk:KAt w) :
  Calls Tryz.prog 88 #[.string ⟨key.toArray⟩,.string ⟨ad.toArray⟩,.string ⟨t.toArray⟩] w fun e w'=>e = .returned (.tuple #[.string ⟨(gU key ad t).toArray⟩,.int .i64 (eG key ad t)])∧Below w.heap.size w w':=by
 unfold gU eG
 by_cases h:key.length=32
 ·by_cases h2:1048576<ad.length∨1048604<t.length
  ·rw[if_neg (fun e=>e.2.1 h2),if_pos h,if_pos h2]
   exact KQ key ad t w hk h h2
  ·by_cases h3:t.length<28
   ·rw[if_neg (fun e=>e.2.2 h3),if_pos h,if_neg h2,if_pos h3]
    exact Dq key ad t w hk h (by omega) h3
   ·rw[if_pos ⟨h,h2,h3⟩,if_pos h,if_neg h2,if_neg h3,←BB]
    exact Tc key ad t w hk h (by omega) (by omega) (by omega)
 ·rw[if_neg (fun e=>h e.1),if_neg h]
  exact O1 key ad t w h
end
section
namespace C3
theorem dt (key:List UInt8) (ctr:UInt32) (nonce text:List UInt8) (i:Nat) (h:i<text.length):byteAt (xorText key ctr nonce text) i=xorAt key ctr nonce text i:=by
 unfold byteAt xorText;rw[List.getD_eq_getElem?_getD,List.getElem?_map,List.getElem?_range h]
 rfl
theorem uT {s t:List UInt8} (hl:s.length=t.length) (h:∀i,i<s.length→byteAt s i=byteAt t i):s=t:=by
 apply List.ext_getElem hl
 intro i h1 h2;have := h i h1
 simpa [byteAt,List.getD_eq_getElem?_getD,List.getElem?_eq_getElem h1,List.getElem?_eq_getElem h2] using this
theorem ro (a b:UInt8):a ^^^ b ^^^ b=a:=by rw[UInt8.xor_assoc,UInt8.xor_self,UInt8.xor_zero]
theorem xorText_twice (key:List UInt8) (ctr:UInt32) (nonce text:List UInt8):xorText key ctr nonce (xorText key ctr nonce text)=text:=by
 refine uT (by rw[length_xorText,length_xorText]) (fun i hi => ?_);rw[length_xorText,length_xorText] at hi;rw[dt _ _ _ _ _ (by rw[length_xorText];exact hi),xorAt,dt _ _ _ _ _ hi,xorAt,ro]
end C3
end
section
open Go.RowKit
theorem mq (key n t:List UInt8):eX key n (eX key n t)=t:=C3.xorText_twice key 1 n t
theorem jF (key ad t:List UInt8):(bQ key ad t).length=t.length+28:=by
 unfold bQ;rw[List.length_append,List.length_append,gL,lz,jX]
 omega
theorem qJ (n x g:List UInt8) (hn:n.length=12) (hg:g.length=16):bN (n++(x++g))=n∧bC (n++(x++g))=x∧bT (n++(x++g))=g:=by
 have hl:(n++(x++g)).length=x.length+28:=by rw[List.length_append,List.length_append];omega
 refine⟨?_,?_,?_⟩
 ·unfold bN
  rw[←hn,List.take_left]
 ·unfold bC
  rw[hl,show x.length+28-16-12=x.length by omega]
  conv=>lhs;rw[←hn]
  rw[List.drop_left,List.take_left]
 ·unfold bT
  rw[hl,←List.append_assoc,show x.length+28-16=(n++x).length by rw[List.length_append];omega,List.drop_left]
theorem Dt (b:List UInt8) (h:28≤b.length):b=bN b++(bC b++bT b):=by
 unfold bN bC bT
 have e:b.drop (b.length-16)=(b.drop 12).drop (b.length-16-12):=by rw[List.drop_drop];congr 1;omega
 rw[e,List.take_append_drop,List.take_append_drop]
theorem G5 (key ad t:List UInt8):jn key ad (bQ key ad t)=some t:=by
 obtain⟨h1,h2,h3⟩:=qJ (bm (cO key) ad t) (eX (fH key) (bm (cO key) ad t) t) (jj (cO key) (bm (cO key) ad t) ad (eX (fH key) (bm (cO key) ad t) t)) (gL _ _ _) (jX _ _ _ _);unfold jn bQ;rw[h1,h2,h3,mq,if_pos ⟨rfl,rfl⟩]
theorem yk (key ad b x:List UInt8) (hb:28≤b.length) (h:jn key ad b=some x):b=bQ key ad x:=by
 unfold jn at h
 split at h
 ·rename_i hc
  obtain⟨h1,h2⟩:=hc
  have hx:eX (fH key) (bN b) (bC b)=x:=by simpa using h
  rw[hx] at h2
  have hcx:eX (fH key) (bN b) x=bC b:=by rw[←hx,mq]
  have hp:=Dt b hb;unfold bQ;rw[h2,hcx,h1];exact hp
 ·cases h
theorem Dg (key ad t:List UInt8) (h:fF key ad t=0):gU key ad (eu key ad t)=t∧eG key ad (eu key ad t)=0∧(eu key ad t).length=t.length+28:=by
 unfold fF at h
 split at h
 ·rename_i hk
  split at h
  ·cases h
  ·rename_i hs
   have hx:eu key ad t=bQ key ad t:=by unfold eu;rw[if_pos ⟨hk,hs⟩]
   have hl:=jF key ad t;rw[hx];unfold gU eG
   have h2:¬(1048576<ad.length∨1048604<(bQ key ad t).length):=by omega
   have h3:¬(bQ key ad t).length<28:=by omega
   rw[if_pos ⟨hk,h2,h3⟩,if_pos hk,if_neg h2,if_neg h3,G5];exact⟨rfl,rfl,hl⟩
 ·cases h
open Go.RowKit
variable {P:Program}
def Bx (l:List Oper):Bool:=l.all fun o=>match o.op with | .defer _=>false|_=>true
theorem vu {l:List Oper} (h:Bx l=true):∀o∈l,∀c,o.op ≠ .defer c:=by
 intro o ho c hc;have := List.all_eq_true.1 h o ho;rw[hc] at this
 cases this
theorem B4 {l n:Nat} {row:String} {args:Array Value} {w:World} {R:Value→World→Prop} (h:Rows P row args w R):RowsIn (Fence.wide.inRound l) n P row args w R:=by
 intro c cs _;obtain⟨v,w',r,s⟩:=h c cs;exact⟨v,w',r,stepsIn_wide.2 s⟩
theorem Fb {l n:Nat} {o:Oper} {a:Act} {w:World} {K:Act→World→Prop} {Q:Exit→Act→World→Prop} (hd:∀c,o.op ≠ .defer c) (hQ:¬LetsOut Q)
  (h:o.wp P a w K Q∨(o.asks P a w∧LetsOut Q)):o.wpIn (Fence.wide.inRound l) n P a w K Q:=by
 rcases h with h|h
 ·refine⟨fun _ _=>trivial,?_⟩
  rw[show (Fence.wide.inRound l).round=some l from rfl,Oper.semAt_some l a.eval o hd];unfold Oper.wp at h;generalize (execOp a.eval o).run P w=r at h ⊢
  cases r with
  | ok x w' =>
    cases x with
    | value v=>exact h
    | skip=>exact h
    | defer d=>exact h
    | enter f args=>exact⟨(fun hh=>by cases hh),CallsIn.inRound l (callsIn_wide.2 h)⟩
    | row row args=>exact⟨(fun hh=>by cases hh),B4 h⟩
    | _=>exact h.elim
  | halt x w'=>cases x <;> exact h
 ·exact absurd h.2 hQ
theorem rI {l0 n:Nat} {ops:Array Oper} {Q:Exit→Act→World→Prop} (hQ:¬LetsOut Q):∀(l:List Oper) (a:Act) (w:World),(∀o∈l,∀c,o.op ≠ .defer c)→wpList P ops Q l a w→wpListIn (Fence.wide.inRound l0) n P ops Q l a w
 | [],_,_,_,h=>h
 | o :: rest, a, w, hd, h => by
   unfold wpList at h;unfold wpListIn
   split
   ·rename_i hw
    rw[if_pos hw] at h;exact Oper.wpIn_mono (fun a w h=>rI hQ rest a w (fun o ho=>hd o (List.mem_cons_of_mem _ ho)) h) (Fb (hd o (List.mem_cons_self ..)) hQ h)
   ·rename_i hw
    rw[if_neg hw] at h;exact⟨fun _ _=>trivial,rI hQ rest _ w (fun o ho=>hd o (List.mem_cons_of_mem _ ho)) h⟩
theorem vE {l0 n id:Nat} {l:List Oper} {a:Act} {w:World} {Q:Exit→Act→World→Prop} (hQ:¬LetsOut Q) (hd:Bx l=true) (h:wpList P l.toArray Q l a w):(Code.region id l.toArray false).wpIn (Fence.wide.inRound l0) n P Q a w :=
 wpIn_region_lit (rI hQ l a w (vu hd) h)
theorem pU {l0 n:Nat} {md:Region.Mode} {l:List Oper} {Q:Exit→Act→World→Prop} (hQ:¬LetsOut Q) (hd:Bx l=true):∀(f:Nat) (m:Array Bool) (a:Act) (w:World),wpAny P md l.toArray Q f m a w→wpAnyIn (Fence.wide.inRound l0) n P md l.toArray Q f m a w
 | 0,_,_,_,h=>h
 | f + 1, m, a, w, h => by
   refine⟨h.1,fun i hi => ?_⟩;have h1:=h.2 i hi;unfold wpOp at h1;unfold wpOpIn
   split
   ·rename_i ho
    simp only[ho] at h1;exact pU hQ hd f _ _ _ h1
   ·rename_i o ho
    simp only[ho] at h1
    have hm:o∈l:=by
     have h2:l[i]?=some o:=by simpa using ho
     exact List.mem_of_getElem? h2
    split
    ·rename_i hw
     rw[if_pos hw] at h1;exact Oper.wpIn_mono (fun a w h=>pU hQ hd f _ a w h) (Fb (vu hd o hm) hQ h1)
    ·rename_i hw
     rw[if_neg hw] at h1;exact⟨fun _ _=>trivial,pU hQ hd f _ _ _ h1⟩
theorem BV {Q:Exit→Act→World→Prop} {a:Act} {w:World} {l:List Oper} (n:Nat) (ds:List (List Nat)) (R:Nat→SP) (vals0:Nat→Value) (hB:vF l.toArray n ds=true)
  (ha:a=ay a vals0 0 (l.take n)) (hput:nk (fun vals=>ay a vals 0 (l.take n)) 0 (l.take n))
  (hobs:rR P l.toArray w.heap.size w (fun vals=>ay a vals 0 (l.take n)) R ds 0 (l.take n))
  (hfin:∀w',Below w.heap.size w w'→∀vals,given R w' (fun vals=>wpList P l.toArray Q (l.drop n) (ay a vals 0 (l.take n)) w') (List.range n) vals) :
  wpAny P .any l.toArray Q l.toArray.size (Array.replicate l.toArray.size false) a w.drew:=by
 have hn:n≤l.length:=by
  have h:=hB;simp only[vF,Bool.and_eq_true,decide_eq_true_eq] at h
  simpa using h.1.1.1.1
 have inv:HeadInv .any l.toArray n (Array.replicate l.toArray.size false) :=
  ⟨by simp,fun j oj _ hl=>absurd hl (by rw[getD_replicate_false];exact Bool.false_ne_true),fun t _ h2=>getD_in (by simpa using h2) (getD_replicate_false _ _)⟩
 have hu:fP (Array.replicate l.toArray.size false) n=n:=by
  unfold fP;rw[List.filter_eq_self.2 (fun i _=>by rw[getD_replicate_false];rfl),List.length_range]
 have := yg (P:=P) (Q:=Q) (w0:=w) (R:=R) hB hput hobs hfin (Nat.le_refl _) n _ vals0 w.drew inv hu ((Oo _ _).drew) (fun i _ h=>by rw[getD_replicate_false] at h;cases h);rw[show n+(l.length-n)=l.toArray.size by simp;omega] at this;rw[ha];exact this
theorem qN {l0 k:Nat} {id:Nat} {Q:Exit→Act→World→Prop} {a:Act} {w:World} {l:List Oper} (n:Nat) (ds:List (List Nat)) (R:Nat→SP) (vals0:Nat→Value) (hQ:¬LetsOut Q) (hd:Bx l=true) (hm:P.follows .mixedOrders=true) (hB:vF l.toArray n ds=true)
  (ha:a=ay a vals0 0 (l.take n)) (hput:nk (fun vals=>ay a vals 0 (l.take n)) 0 (l.take n))
  (hobs:rR P l.toArray w.heap.size w (fun vals=>ay a vals 0 (l.take n)) R ds 0 (l.take n))
  (hfin:∀w',Below w.heap.size w w'→∀vals,given R w' (fun vals=>wpList P l.toArray Q (l.drop n) (ay a vals 0 (l.take n)) w') (List.range n) vals):(Code.region id l.toArray true).wpIn (Fence.wide.inRound l0) k P Q a w :=
 wpIn_region_any hm (pU hQ hd _ _ _ _ (BV n ds R vals0 hB ha hput hobs hfin))
theorem zz {n:Nat} {row:String} {args:Array Value} {w:World} {R:Value→World→Prop} (h:Rows P row args w R):RowsIn Fence.wide n P row args w R:=by
 intro c cs _;obtain⟨v,w',r,s⟩:=h c cs;exact⟨v,w',r,stepsIn_wide.2 s⟩
theorem Tb {n:Nat} {o:Oper} {a:Act} {w:World} {K:Act→World→Prop} {Q:Exit→Act→World→Prop} (hd:∀c,o.op ≠ .defer c) (hQ:¬LetsOut Q)
  (h:o.wp P a w K Q∨(o.asks P a w∧LetsOut Q)):o.wpIn Fence.wide n P a w K Q:=by
 rcases h with h|h
 ·refine⟨fun _ _=>trivial,?_⟩
  rw[show Fence.wide.round=none from rfl,Oper.semAt_none];unfold Oper.wp at h;generalize (execOp a.eval o).run P w=r at h ⊢
  cases r with
  | ok x w' =>
    cases x with
    | value v=>exact h
    | skip=>exact h
    | defer d=>exact h
    | enter f args=>exact⟨(fun hh=>by cases hh),callsIn_wide.2 h⟩
    | row row args=>exact⟨(fun hh=>by cases hh),zz h⟩
    | _=>exact h.elim
  | halt x w'=>cases x <;> exact h
 ·exact absurd h.2 hQ
theorem py {n:Nat} {ops:Array Oper} {Q:Exit→Act→World→Prop} (hQ:¬LetsOut Q) (rest:List Oper):∀(pre:List Oper) (a:Act) (w:World),(∀o∈pre,∀c,o.op ≠ .defer c)→wpList P ops (Exit.then (wpListIn Fence.wide n P ops Q rest) Q) pre a w→wpListIn Fence.wide n P ops Q (pre++rest) a w
 | [],_,_,_,h=>h
 | o :: pre, a, w, hd, h => by
   have hQ2:¬LetsOut (Exit.then (wpListIn Fence.wide n P ops Q rest) Q):=fun ⟨a,w,hx⟩=>hQ ⟨a,w,hx⟩;unfold wpList at h;rw[List.cons_append];unfold wpListIn
   split
   ·rename_i hw
    rw[if_pos hw] at h;have h1:=Tb (n:=n) (hd o (List.mem_cons_self ..)) hQ2 h;have h2:=Oper.wpIn_mono (fun a w h=>py hQ rest pre a w (fun o ho=>hd o (List.mem_cons_of_mem _ ho)) h) h1;unfold Oper.wpIn at h2 ⊢;refine⟨h2.1,?_⟩;have h3:=h2.2;generalize (o.semAt Fence.wide.round a.eval).run P w=r at h3 ⊢
    cases r with
    | ok x w' =>
      cases x with
      | enter f args=>exact⟨h3.1,CallsIn.mono h3.2 (fun e w he=>by cases e <;> exact he)⟩
      | round l f tmps assign body=>exact⟨h3.1,RoundIn.mono h3.2 (fun e w he=>by cases e <;> exact he)⟩
      | _=>exact h3
    | halt x w'=>cases x <;> exact h3
   ·rename_i hw
    rw[if_neg hw] at h;exact⟨fun _ _=>trivial,py hQ rest pre _ w (fun o ho=>hd o (List.mem_cons_of_mem _ ho)) h⟩
theorem He {n id:Nat} (k:Nat) {l:List Oper} {a:Act} {w:World} {Q:Exit→Act→World→Prop} (hQ:¬LetsOut Q) (hd:Bx (l.take k)=true) (h:wpList P l.toArray (Exit.then (wpListIn Fence.wide n P l.toArray Q (l.drop k)) Q) (l.take k) a w):(Code.region id l.toArray false).wpIn Fence.wide n P Q a w :=
 wpIn_region_lit (by
  have h1:=py hQ (l.drop k) (l.take k) a w (vu hd) h
  rwa [List.take_append_drop] at h1)
theorem kK {F:Fence} {n:Nat} {x y:Code} {Q:Exit→Act→World→Prop} {a:Act} {w:World} (hQ:¬LetsOut Q) (h:∀(K:Act→World→Prop) (Q':Exit→Act→World→Prop),¬LetsOut (Exit.then K Q')→Hid (∀a w,y.wpIn F n P Q a w→K a w)→x.wpIn F n P (Exit.then K Q') a w):(Code.seq x y).wpIn F n P Q a w :=
 wpIn_seq (h _ Q (fun ⟨a,w,hx⟩=>hQ ⟨a,w,hx⟩) (O fun _ _ h=>h))
end
end Go.Proofs.YtmfiaadjdbemnaaGreatDoor
