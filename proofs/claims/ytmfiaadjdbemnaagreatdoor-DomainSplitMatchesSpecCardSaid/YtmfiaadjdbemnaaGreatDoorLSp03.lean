/- Contracts and lemmas. No condition. -/
import Derived.Test.YtmfiaadjdbemnaaGreatDoorSB07
import Derived.Test.YtmfiaadjdbemnaaGreatDoorLSp01
set_option maxRecDepth 100000
set_option maxHeartbeats 8000000
set_option linter.unusedSimpArgs false
set_option linter.unusedVariables false
namespace Go.Proofs.YtmfiaadjdbemnaaGreatDoor
open Go.Proofs.Tryz
section
open Go.RowKit
theorem MC (l:List UInt8) (hs:4≤l.length) (w:World) :
  Calls prog 184 #[.string ⟨l.toArray⟩] w fun e w'=>e = .returned (.int .u32 (W32 (C3.wordAt l 0)))∧∃n,w'=w.drewN n:=by
 have h0:0<l.length:=by omega
 have i1:(1:Int)<l.length:=by omega
 have i2:(2:Int)<l.length:=by omega
 have i3:(3:Int)<l.length:=by omega
 go_enter func184,ntmps184
 go_wp2
 go_quiet (fail)
 go_wp2;go_ret;exact⟨nT (C3.word_sum _ _ _ _),_,rfl⟩
theorem ym (key nonce:List UInt8) (ctr:UInt32) (hk:key.length=32) (hn:nonce.length=12) (w:World) :
  Calls prog 170 #[.string ⟨key.toArray⟩,.int .u32 (W32 ctr),.string ⟨nonce.toArray⟩] w fun e w'=>e = .returned (.tuple #[.agg (row (C3.state key ctr nonce)),.int .i64 0])∧Below w.heap.size w w':=by
 go_enter func170,ntmps170
 go_wp2
 go_loopw [9] (fun i wr=>∃k:Nat,k≤8∧i = .int .i64 k∧∃n,wr=((w.alloc (.cells sx 226)).alloc (.cells (row (C3.stK key 0 k)) 226)).drewN n) (fun i _=>8-(intOf i).toNat)
 case atStart=>exact⟨0,by omega,rfl,0,rfl⟩
 case round =>
  obtain⟨k,hk8,rfl,n,rfl⟩:=hrel;have hlen:=C3.length_stK key 0 k
  by_cases hlt:k<8
  ·have hb4:4+k<16:=by omega
   have hl4:4≤((key.drop (4*k)).take (32-4*k)).length:=by simp[hk];omega
   have hwd:C3.wordAt ((key.drop (4*k)).take (32-4*k)) 0=C3.wordAt key (4*k):=mp _ _ _ (by omega);have HW:=O hwd;clear hwd
   go_wp2_with (go_at_call 184;refine(MC _ hl4 _).mono ?_;rintro e w' ⟨rfl,nq,rfl⟩;rw[HW.out])
   go_roundw
   case rel=>exact⟨k+1,by omega,by go_num,_,rfl⟩
   case measure=>simp[intOf];omega
  ·have he:k=8:=by omega
   have HE:=O he;clear he;go_wp2
   go_loopw [10] (fun i wr=>∃k:Nat,k≤3∧i = .int .i64 k∧∃n,wr=((w.alloc (.cells sx 226)).alloc (.cells (row (C3.stN key ctr nonce k)) 226)).drewN n) (fun i _=>3-(intOf i).toNat)
   case atStart=>exact⟨0,by omega,rfl,n,by rw[HE.out,C3.stK_later];rfl⟩
   case round =>
    clear hk8 hlen hlt;obtain⟨k,hk8,rfl,n,rfl⟩:=hrel;have hlen:=C3.length_stN key ctr nonce k
    by_cases hlt:k<3
    ·have hb13:13+k<16:=by omega
     have hl4:4≤((nonce.drop (4*k)).take (12-4*k)).length:=by simp[hn];omega
     have hwd:C3.wordAt ((nonce.drop (4*k)).take (12-4*k)) 0=C3.wordAt nonce (4*k):=mp _ _ _ (by omega);have HW:=O hwd;clear hwd
     go_wp2_with (go_at_call 184;refine(MC _ hl4 _).mono ?_;rintro e w' ⟨rfl,nq,rfl⟩;rw[HW.out])
     go_roundw
     case rel=>exact⟨k+1,by omega,by go_num,_,rfl⟩
     case measure=>simp[intOf];omega
    ·have he:k=3:=by omega
     have HE:=O he;clear he
     go_wp2_with (first
      |(refine ng rfl (.tmp 8) rfl _ rfl _ 226 (dL _ _ _ _) hlen ?_)
      |(refine gN rfl (.tmp 6) (.tmp 50) rfl _ _ rfl rfl 226 _ (cF _ _ _ _) rfl hlen ?_))
     refine g_ (v := .tuple #[.agg (row _),_]) (BX rfl _ _ _ _ _ rfl (cF _ _ _ _) hlen) rfl ⟨by rw[HE.out];rfl,?_⟩;exact ak _ (((O_ _ _).alloc (A_ _) _).alloc (by simp) _)
end
end Go.Proofs.YtmfiaadjdbemnaaGreatDoor
