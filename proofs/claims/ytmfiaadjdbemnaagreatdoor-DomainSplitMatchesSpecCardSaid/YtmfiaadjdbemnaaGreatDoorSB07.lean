/- Contracts and lemmas. No condition. -/
import Derived.Test.YtmfiaadjdbemnaaGreatDoorSB02
set_option maxRecDepth 100000
set_option maxHeartbeats 8000000
set_option linter.unusedSimpArgs false
set_option linter.unusedVariables false
namespace Go.Proofs.YtmfiaadjdbemnaaGreatDoor
open Tryz
section
open Go.RowKit
abbrev eS:El (List UInt8):=⟨9,97,1,fun x=>[.string ⟨x.toArray⟩]⟩
theorem AO:eS.OK:=⟨underlying97,by kernel_rfl,fun _=>rfl,fun x u hu=>by simp at hu;rw[hu];rfl,by decide⟩
theorem A5 (l:List (List UInt8)):eS.flat l=l.map (fun x=>Value.string ⟨x.toArray⟩):=by
 induction l with
 | nil=>rfl
 | cons x l ih=>rw[El.flat,ih];rfl
theorem JQ (l:List Int):eI.flat l=l.map (Value.int .i64):=by
 induction l with
 | nil=>rfl
 | cons x l ih=>rw[El.flat,ih];rfl
open Go.RowKit
theorem mp (l:List UInt8) (a n:Nat) (h:4≤n):C3.wordAt ((l.drop a).take n) 0=C3.wordAt l a:=by
 have e:∀i,i<4→C3.byteAt ((l.drop a).take n) i=C3.byteAt l (a+i):=fun i hi=>ry l a n i (by omega);unfold C3.wordAt;rw[e _ (by omega),e _ (by omega),e _ (by omega),e _ (by omega)]
 rfl
theorem QG (l:List UInt8) (hs:4≤l.length) (w:World) :
  Calls prog 181 #[.string ⟨l.toArray⟩] w fun e w'=>e = .returned (.int .u32 (W32 (C3.wordAt l 0)))∧∃n,w'=w.drewN n:=by
 have h0:0<l.length:=by omega
 have i1:(1:Int)<l.length:=by omega
 have i2:(2:Int)<l.length:=by omega
 have i3:(3:Int)<l.length:=by omega
 go_enter func181,ntmps181
 go_wp2
 go_quiet (fail)
 go_wp2;go_ret;exact⟨nT rfl,_,rfl⟩
theorem FA (key nonce:List UInt8) (ctr:UInt32) (hk:key.length=32) (hn:nonce.length=12) (w:World) :
  Calls prog 168 #[.string ⟨key.toArray⟩,.int .u32 (W32 ctr),.string ⟨nonce.toArray⟩] w fun e w'=>e = .returned (.tuple #[.agg (row (C3.state key ctr nonce)),.int .i64 0])∧Below w.heap.size w w':=by
 go_enter func168,ntmps168
 go_wp2
 go_loopw [21] (fun i wr=>∃k:Nat,k≤8∧i = .int .i64 k∧∃n,wr=(w.alloc (.cells (row (C3.stK key ctr k)) 226)).drewN n) (fun i _=>8-(intOf i).toNat)
 case atStart=>exact⟨0,by omega,rfl,0,rfl⟩
 case round =>
  obtain⟨k,hk8,rfl,n,rfl⟩:=hrel;have hlen:=C3.length_stK key ctr k
  by_cases hlt:k<8
  ·have hb4:4+k<16:=by omega
   have hl4:4≤((key.drop (4*k)).take (32-4*k)).length:=by simp[hk];omega
   have hwd:C3.wordAt ((key.drop (4*k)).take (32-4*k)) 0=C3.wordAt key (4*k):=mp _ _ _ (by omega);have HW:=O hwd;clear hwd
   go_wp2_with (go_at_call 181;refine(QG _ hl4 _).mono ?_;rintro e w' ⟨rfl,nq,rfl⟩;rw[HW.out])
   go_roundw
   case rel=>exact⟨k+1,by omega,by go_num,_,rfl⟩
   case measure=>simp[intOf];omega
  ·have he:k=8:=by omega
   have HE:=O he;clear he;go_wp2
   go_loopw [33] (fun i wr=>∃k:Nat,k≤3∧i = .int .i64 k∧∃n,wr=(w.alloc (.cells (row (C3.stN key ctr nonce k)) 226)).drewN n) (fun i _=>3-(intOf i).toNat)
   case atStart=>exact⟨0,by omega,rfl,n,by rw[HE.out];rfl⟩
   case round =>
    clear hk8 hlen hlt;obtain⟨k,hk8,rfl,n,rfl⟩:=hrel;have hlen:=C3.length_stN key ctr nonce k
    by_cases hlt:k<3
    ·have hb13:13+k<16:=by omega
     have hl4:4≤((nonce.drop (4*k)).take (12-4*k)).length:=by simp[hn];omega
     have hwd:C3.wordAt ((nonce.drop (4*k)).take (12-4*k)) 0=C3.wordAt nonce (4*k):=mp _ _ _ (by omega);have HW:=O hwd;clear hwd
     go_wp2_with (go_at_call 181;refine(QG _ hl4 _).mono ?_;rintro e w' ⟨rfl,nq,rfl⟩;rw[HW.out])
     go_roundw
     case rel=>exact⟨k+1,by omega,by go_num,_,rfl⟩
     case measure=>simp[intOf];omega
    ·have he:k=3:=by omega
     have HE:=O he;clear he
     go_wp2_with (first
      |(refine ng rfl (.tmp 6) rfl _ rfl _ 226 (JY _ _ _) hlen ?_)
      |(refine gN rfl (.tmp 6) (.tmp 45) rfl _ _ rfl rfl 226 _ (JY _ _ _) (by rw[co,hlen]) hlen ?_))
     refine g_ (v := .tuple #[.agg (row _),_]) (BX rfl _ _ _ _ _ rfl (JY _ _ _) hlen) rfl ⟨by rw[HE.out];rfl,?_⟩;exact ak _ ((O_ _ _).alloc (A_ _) _)
end
end Go.Proofs.YtmfiaadjdbemnaaGreatDoor
