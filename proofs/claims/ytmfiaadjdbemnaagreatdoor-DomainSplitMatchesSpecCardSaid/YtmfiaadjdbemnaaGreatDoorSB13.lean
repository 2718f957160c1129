/- Contracts and lemmas. No condition. -/
import Derived.Test.YtmfiaadjdbemnaaGreatDoorSB07
import Derived.Test.YtmfiaadjdbemnaaGreatDoorSB11
import Derived.Test.YtmfiaadjdbemnaaGreatDoorSB08
set_option maxRecDepth 100000
set_option maxHeartbeats 8000000
set_option linter.unusedSimpArgs false
set_option linter.unusedVariables false
namespace Go.Proofs.YtmfiaadjdbemnaaGreatDoor
open Tryz
section
open Go.RowKit
def bv (l:List UInt8):List Value:=l.map fun b => .int .u8 (B8 b)
def cR (w:World) (ai:Nat) (v:Value) (l:List UInt8):Prop:=w.ownsRow ai 5 1 v l.length (bv l)
theorem uv (l:List UInt8):∀u∈bv l,u.oneCell'=true:=by
 intro u hu;obtain⟨b,_,rfl⟩:=List.mem_map.1 hu
 rfl
theorem sH:(prog.info? 5).map (fun i=>(i.zero,i.size,i.bytes))=some (some (.int .u8 0),1,1):=by kernel_rfl
theorem D7 {w:World} {ops:Array Oper} {rest:List Oper} {o:Oper} {a:Act} {Q:Exit→Act→World→Prop} (hgd:o.guard=none) (s x:Operand)
  (ho:o.op = .call { callee := .builtin .append,args := #[s,x],argTypes := #[80,80] })
  (ai:Nat) (v:Value) (l:List UInt8) (hs:a.eval s=v) (hown:cR w ai v l) (ad:Addr) (m c:Nat) (news:List UInt8) (hx:a.eval x = .slice (some ad) m c) (hl:news.length=m)
  (hnews:∀j u,(bv news)[j]?=some u→w.cell? (ad.add j)=some u) (hsz:l.length+m≤1000000000) (hbase:ai≤w.heap.size)
  (h:∀v' w',cR w' ai v' (l++news)→Below ai w w'→wpList prog ops Q rest (a.put o.dst v') w'):wpList prog ops Q (o::rest) a w:=by
 obtain⟨i0,hi,hz0,hz1,hz2⟩:=info_parts sH
 refine wpList_append_own w hgd s x 80 ho ai 5 i0 (.int .u8 0) 1 1 underlying80 hi hz0 hz1 hz2 rfl (by decide) v l.length (bv l) hs hown ad m c (bv news) hx (by simp[bv,hl]) hnews (uv news)
  (by unfold maxLen;omega) (by omega) hbase ?_
 intro v' w' h1 h2 _;refine h v' w' ?_ ((O_ ai w).grown h2 hbase (fun k hk=>(hown.lt k hk).1));unfold cR;rw[E_,hl]
 have : bv (l++news)=bv l++bv news:=by simp[bv]
 rw[this];exact h1
theorem mR (w:World) (cs:Array Value) (T:TypeId) (j:Nat) (u:Value) (h:cs.toList[j]?=some u):(w.alloc (.cells cs T)).cell? ((⟨w.heap.size,0,none⟩:Addr).add j)=some u:=by
 have gX:(⟨w.heap.size,0,none⟩:Addr).add j=⟨w.heap.size,j,none⟩:=by unfold Addr.add;split <;> simp_all
 rw[gX,e_ _ _ j cs T (0,0) (heap_alloc_new w _),←Array.getElem?_toList];exact h
theorem cR.below {w w':World} {ai:Nat} {v:Value} {l:List UInt8} (h:cR w ai v l) (hb:Below w.heap.size w w'):cR w' ai v l:=by
 refine⟨h.1,?_⟩
 rcases h.2 with hn|⟨g,cap,cur,rfl,hg,hgg,r⟩
 ·exact .inl hn
 ·exact .inr ⟨g,cap,cur,rfl,hg,by rw[hb.block _ (Q_.1 hgg).1];exact hgg,r⟩
theorem ny (l:List UInt8):strOfNums (l.map B8)=⟨l.toArray⟩:=by
 unfold strOfNums;rw[List.map_map]
 congr 2
 have : ((fun n:Int=>UInt8.ofNat n.toNat) ∘ B8)=id:=by
  funext x
  simp[B8]
 rw[this,List.map_id]
theorem qg {w:World} {ai:Nat} {v:Value} {l:List UInt8} (h:cR w ai v l):(convert 80 9 v).run prog w = .ok (.string ⟨l.toArray⟩) w:=by
 rcases h.2 with⟨rfl,hn⟩|⟨g,cap,cur,rfl,_,hgg,h1,_,h2,h3⟩
 ·have hl:l=[]:=List.length_eq_zero_iff.1 hn
  subst hl;exact run_convert_bytes_nil w _ _ underlying80 underlying5 _ _ _ underlying9
 ·rw[←ny l]
  refine run_convert_bytes_arg w _ _ underlying80 underlying5 g 0 _ _ _ (by simp) (fun i hi => ?_) _ underlying9;rw[a_,e_ _ _ _ _ _ _ hgg]
  have e:(cur.toList.take (l.length*1))[i]? = (bv l)[i]? := by rw[h3]
  rw[List.getElem?_take,G_ (by omega),Array.getElem?_toList] at e;rw[e]
  simp[bv,I_,K_ hi]
theorem Wy (w:World) (ai:Nat) (v:Value) (l:List UInt8) (x:UInt32) (hown:cR w ai v l) (hsz:l.length≤999999990) (hbase:ai≤w.heap.size) :
  Calls prog 183 #[v,.int .u32 (W32 x)] w fun e w'=>∃v',e = .returned v'∧cR w' ai v' (l++C3.bytes x)∧Below ai w w':=by
 go_enter func183,ntmps183
 go_wp2_with (at_builtin;refine D7 rfl (.tmp 5) (.tmp 17) rfl ai v l rfl (World.ownsRow.alloc hown _) ⟨w.heap.size,0,none⟩ 4 4 (C3.bytes x) rfl rfl ?h1 ?h2 ?h3 ?h4)
 case h4 =>
  intro v' w' ho hb;go_wp2;go_ret;exact⟨v',rfl,ho,((O_ _ _).alloc hbase _).trans hb⟩
 case h1 =>
  intro j u hj;exact mR _ _ _ _ _ hj
 case h2=>omega
 case h3=>simp;omega
theorem Wb {w:World} {ops:Array Oper} {rest:List Oper} {o:Oper} {a:Act} {Q:Exit→Act→World→Prop} (hgd:o.guard=none) (l c:Operand) (hop:o.op=Op.makeSlice 80 l c)
  (ai:Nat) (n:Nat) (hl:a.eval l = .int .i64 0) (hc:a.eval c = .int .i64 (n:Int)) (hn:n≤1000000000) (hbase:ai≤w.heap.size)
  (h:∀v w',cR w' ai v []→Below ai w w'→wpList prog ops Q rest (a.put o.dst v) w'):wpList prog ops Q (o::rest) a w:=by
 obtain⟨i0,hi,hz0,hz1,hz2⟩:=info_parts sH;refine wpList_make_own w hgd l c 80 hop ai 5 i0 (.int .u8 0) 1 underlying80 hi hz0 hz1 .i64 .i64 n n hl hc rfl (by rw[hz2];omega) (by unfold maxLen;omega) hbase ?_;intro w' h1 h2;exact h _ w' h1 ((O_ ai w).grown h2 hbase (fun k hk=>by cases hk))
theorem tL:(prog.info? 130).map (·.size)=some 1:=by kernel_rfl
theorem Oo (s:List UInt32) (hs:s.length=16) (k:Nat) (hk:k<16) (w:World):(Instr.index 226 (.agg (row s)) (.int .i64 k)).run prog w = .ok (.int .u32 (W32 (w16 s k))) w:=by
 have hz:(sizeOf 130).run prog w = .ok 1 w:=by
  cases hq:prog.info? 130 with
  | none=>have := tL;rw[hq] at this;cases this
  | some i=>have h1:=tL;rw[hq] at h1;simp at h1;simp[sizeOf,typeInfo,hq,h1]
 have h1:(k:Int)<16:=by omega
 have h2:k<s.length:=by omega
 simp[Instr.index,go_sem,hz,h1,h2]
 intro h3;omega
theorem wS (key nonce:List UInt8) (ctr:UInt32):C3.block key ctr nonce=C3.blockTo (C3.state key ctr nonce) (C3.rounds (C3.state key ctr nonce) 10) 16:=rfl
theorem p9 (s t:List UInt32) (k:Nat):C3.blockTo s t (k+1)=C3.blockTo s t k++C3.bytes (w16 t k+w16 s k):=rfl
theorem qb (s t:List UInt32):C3.blockTo s t 0=[]:=rfl
attribute [local irreducible] C3.rounds C3.state C3.blockTo C3.bytes
theorem NJ (key nonce:List UInt8) (ctr:UInt32) (hk:key.length=32) (hn:nonce.length=12) (w:World) :
  Calls prog 169 #[.string ⟨key.toArray⟩,.int .u32 (W32 ctr),.string ⟨nonce.toArray⟩] w fun e w'=>e = .returned (.tuple #[.string ⟨(C3.block key ctr nonce).toArray⟩,.int .i64 0])∧Below w.heap.size w w':=by
 have hs:=C3.length_state key ctr nonce
 have hr:(C3.rounds (C3.state key ctr nonce) 10).length=16:=by rw[C3.length_rounds,hs]
 rw[wS]
 go_enter func169,ntmps169
 go_wp2_with (first
  |(go_at_call 168;refine(FA key nonce ctr hk hn _).mono ?_;rintro e w1 ⟨rfl,hb1⟩)
  |(refine gN rfl (.tmp 8) (.tmp 18) rfl _ _ rfl rfl 226 _ (heap_alloc_new _ _) rfl hs ?_)
  |(refine ng rfl (.tmp 8) rfl _ rfl _ 226 ?hld hs ?_)
  |(go_at_call 182;refine(B0 _ hs _).mono ?_;rintro e w3 ⟨rfl,hb3⟩)
  |(at_make;refine Wb rfl _ _ rfl (w1.heap.size+1) 64 rfl rfl ?hm1 ?hm2 ?hm3))
 case hm1=>omega
 case hm2=>simp
 case hm3 =>
  intro v w2 hown hb2
  have aO:w2.heap[w1.heap.size]?=some (.cells (row (C3.state key ctr nonce)) 226 (0,0)):=by rw[hb2.block _ (by omega)];exact heap_alloc_new _ _
  have hz2:w1.heap.size+1≤w2.heap.size:=by have := hb2.size;simpa using this
  go_wp2_with (first
   |(refine ng rfl (.tmp 8) rfl _ rfl _ 226 aO hs ?_)
   |(go_at_call 182;refine(B0 _ hs _).mono ?_;rintro e w3 ⟨rfl,hb3⟩))
  have hown3:=hown.below hb3;have hb4:=hb2.trans (hb3.mono hz2)
  have hz3:w1.heap.size+1≤w3.heap.size:=by have := hb3.size;omega
  have hbw:Below w.heap.size w (w1.alloc (.cells (row (C3.state key ctr nonce)) 226)):=hb1.alloc hb1.size _
  have hsz1:w.heap.size≤w1.heap.size+1:=by have := hb1.size;omega
  clear aO hown hb2 hb3 hz2
  go_loopw [26,10] (fun i v wr=>∃k:Nat,k≤16∧i = .int .i64 k∧cR wr (w1.heap.size+1) v (C3.blockTo (C3.state key ctr nonce) (C3.rounds (C3.state key ctr nonce) 10) k)∧Below (w1.heap.size+1) (w1.alloc (.cells (row (C3.state key ctr nonce)) 226)) wr) (fun i _ _=>16-(intOf i).toNat)
  case atStart=>exact⟨0,by omega,rfl,by rw[qb];exact hown3,hb4⟩
  case round =>
   clear hown3 hb4 hz3;obtain⟨k,hk16,rfl,ho,hb⟩:=hrel
   by_cases hlt:k<16
   ·have hz:w1.heap.size+1≤wr.heap.size:=by have := hb.size;simpa using this
    have aO:wr.cell? ⟨w1.heap.size,k,none⟩=some (.int .u32 (W32 (w16 (C3.state key ctr nonce) k))):=by
     rw[hb.cell (p:=⟨w1.heap.size,k,none⟩) (by show w1.heap.size<_;omega),e_ _ _ _ _ _ _ (heap_alloc_new _ _),l6 _ _ (by rw[hs];omega)]
    have hl4:=C3.length_blockTo (C3.state key ctr nonce) (C3.rounds (C3.state key ctr nonce) 10) k;have hix:=Oo (C3.rounds (C3.state key ctr nonce) 10) hr k hlt;have HL:=O hl4;clear hl4
    go_wp2_with (go_at_call 183;refine(Wy _ _ _ _ _ ho (by rw[HL.out];omega) hz).mono ?_;rintro e w4 ⟨v',rfl,ho',hb'⟩)
    go_roundw
    case rel=>exact⟨k+1,by omega,by go_num,by rw[p9];exact ho',hb.trans hb'⟩
    case measure=>simp[intOf];omega
   ·have he:k=16:=by omega
    have HE:=O he;clear he;have hcv:=qg ho;go_wp2
    go_ret2
    exact⟨by rw[HE.out];rfl,hbw.trans (hb.mono hsz1)⟩
end
section
open Go.RowKit
def gZ (w:World) (g:Nat) (l:List UInt8):Prop:=∃cur:Array Value,w.heap[g]?=some (.cells cur 5 (cur.size,cur.size+1))∧l.length≤cur.size∧cur.toList.take l.length=bv l
theorem gZ.at {w:World} {g:Nat} {l:List UInt8} (h:gZ w g l) (k:Nat) (hk:k<l.length):w.cell? ⟨g,k,none⟩=some (.int .u8 (B8 (byteAt l k))):=by
 obtain⟨cur,h1,h2,h3⟩:=h;rw[e_ _ _ _ _ _ _ h1]
 have e:(cur.toList.take l.length)[k]? = (bv l)[k]? := by rw[h3]
 rw[List.getElem?_take,G_ hk,Array.getElem?_toList] at e;rw[e]
 simp[bv,byteAt,I_,K_ hk]
theorem gZ.free {w:World} {g:Nat} {l:List UInt8} (h:gZ w g l) (k:Nat) (hk:k<l.length):w.frozen? ⟨g,k,none⟩=false:=by
 obtain⟨cur,h1,h2,h3⟩:=h
 simp[World.frozen?,h1]
 omega
theorem gZ.set {w:World} {g:Nat} {l:List UInt8} (h:gZ w g l) (k:Nat) (hk:k<l.length) (x:UInt8):gZ (w.setCell ⟨g,k,none⟩ (.int .u8 (B8 x))) g (l.set k x):=by
 obtain⟨cur,h1,h2,h3⟩:=h;refine⟨cur.setIfInBounds k (.int .u8 (B8 x)),?_,by simpa using h2,?_⟩
 ·rw[setCell_row _ _ _ _ _ _ _ h1,setRow_heap _ _ _ _ _ _ h1,Array.size_setIfInBounds]
 ·rw[Array.toList_setIfInBounds,List.length_set,List.take_set,h3]
  simp[bv,List.map_set]
theorem gZ.keep {w w':World} {g:Nat} {l:List UInt8} (h:gZ w g l) (hb:w'.heap[g]? = w.heap[g]?):gZ w' g l:=by
 obtain⟨cur,h1,h2,h3⟩:=h;exact⟨cur,by rw[hb];exact h1,h2,h3⟩
theorem gZ.conv {w:World} {g:Nat} {l:List UInt8} (h:gZ w g l) (cap:Nat):(convert 80 9 (.slice (some ⟨g,0,none⟩) l.length cap)).run prog w = .ok (.string ⟨l.toArray⟩) w:=by
 rw[←ny l];refine run_convert_bytes_arg w _ _ underlying80 underlying5 g 0 _ _ _ (by simp) (fun i hi => ?_) _ underlying9;rw[a_,h.at i hi]
 simp[byteAt,I_,K_ hi]
theorem Mg (w:World) (l:List UInt8):gZ (Lib.bytesWorld w 5 ⟨l.toArray⟩) w.heap.size l:=by
 refine⟨_,Lib.bytesWorld_at_new w _ _,?_,?_⟩
 ·simp[Lib.bytesCells]
 ·simp only[Lib.bytesCells,Array.toList_append]
  rw[List.take_append_of_le_length (by simp),Y_ (by simp)]
  simp[bv,B8]
theorem DM (w:World) (l:List UInt8):Below w.heap.size w (Lib.bytesWorld w 5 ⟨l.toArray⟩) :=
 ⟨rfl,rfl,rfl,by rw[Lib.bytesWorld_size];omega,fun k hk=>Lib.bytesWorld_at_old _ _ _ _ hk⟩
theorem Ji (w:World) (l:List UInt8):(convert 9 80 (.string ⟨l.toArray⟩)).run prog w = .ok (.slice (some ⟨w.heap.size,0,none⟩) l.length (grownCap w l.length 0 5)) (Lib.bytesWorld w 5 ⟨l.toArray⟩) :=
 Lib.run_convert_string_bytes w _ _ _ _ underlying9 underlying80 underlying5
attribute [local irreducible] C3.block C3.mid C3.xorAt
theorem Xq (key nonce text:List UInt8) (ctr:UInt32) (hk:key.length=32) (hn:nonce.length=12) (ht:text.length≤2000000) (w:World) :
  Calls prog 122 #[.string ⟨key.toArray⟩,.int .u32 (W32 ctr),.string ⟨nonce.toArray⟩,.string ⟨text.toArray⟩] w fun e w'=>e = .returned (.tuple #[.string ⟨(C3.xorText key ctr nonce text).toArray⟩,.int .i64 0])∧Below w.heap.size w w':=by
 have hs:=C3.length_state key ctr nonce
 go_enter func122,ntmps122
 go_wp2_with (first
  |(go_at_call 168;refine(FA key nonce ctr hk hn _).mono ?_;rintro e w1 ⟨rfl,hb1⟩;have hcs:=Ji (w1.alloc (.cells (row (C3.state key ctr nonce)) 226)) text)
  |(refine gN rfl (.tmp 10) (.tmp 20) rfl _ _ rfl rfl 226 _ (heap_alloc_new _ _) rfl hs ?_))
 have hW2:(w1.alloc (.cells (row (C3.state key ctr nonce)) 226)).heap.size=w1.heap.size+1:=by simp
 have hT0:=Mg (w1.alloc (.cells (row (C3.state key ctr nonce)) 226)) text;have hB0:=DM (w1.alloc (.cells (row (C3.state key ctr nonce)) 226)) text;have hbw:Below w.heap.size w (w1.alloc (.cells (row (C3.state key ctr nonce)) 226)):=hb1.alloc hb1.size _
 have hsz1:w.heap.size≤w1.heap.size+1:=by have := hb1.size;omega
 rw[hW2] at hT0 hB0;clear hcs hW2 hs
 go_loopw [29,13,1] (fun i b c wr=>∃(k:Nat) (bl:List UInt8),k≤text.length∧i = .int .i64 k∧b = .string ⟨bl.toArray⟩∧(k % 64≠0→bl=C3.block key (ctr+UInt32.ofNat (k / 64)) nonce)∧c = .int .u32 (W32 (ctr+UInt32.ofNat ((k+63) / 64)))∧gZ wr (w1.heap.size+1) (C3.mid key ctr nonce text k)∧Below (w1.heap.size+1) (w1.alloc (.cells (row (C3.state key ctr nonce)) 226)) wr) (fun i _ _ _=>text.length-(intOf i).toNat)
 case atStart=>exact⟨0,[],by omega,rfl,rfl,fun h=>absurd rfl h,by rw[show ctr+UInt32.ofNat ((0+63) / 64)=ctr by simp],by rw[C3.mid_zero];exact hT0,hB0⟩
 case round =>
  clear hT0 hB0;obtain⟨k,bl,hkl,rfl,rfl,hbl,rfl,hT,hb⟩:=hrel
  by_cases hlt:k<text.length
  ·have hg:w1.heap.size+1<wr.heap.size:=by
    obtain⟨cur,h1,_⟩:=hT;exact(Q_.1 h1).1
   have hml:k<(C3.mid key ctr nonce text k).length:=by rw[C3.length_mid _ _ _ _ _ hkl];exact hlt
   have hma:=C3.mid_at key ctr nonce text k hlt;have hps:=C3.pre_set key ctr nonce text k hlt;have hxd:=C3.xorAt_def key ctr nonce text k
   by_cases hm:k % 64=0
   ·have hmb:(((k:Int) % 64) == 0)=true:=by rw[beq_iff_eq];omega
    have e1:(k+63) / 64=k / 64:=by omega
    have e2:(k+1+63) / 64=k / 64+1:=by omega
    have e3:(k+1) % 64≠0→(k+1) / 64=k / 64:=fun _=>by omega
    rw[e1];have hB:=C3.length_block key (ctr+UInt32.ofNat (k / 64)) nonce;have hcall:=NJ key nonce (ctr+UInt32.ofNat (k / 64)) hk hn;generalize hBq:C3.block key (ctr+UInt32.ofNat (k / 64)) nonce=blk at hB hcall hxd;have HB:=O hBq;have HX:=O hxd;have HM:=O hma;have HP:=O hps;have HC:=O hcall;have HBL:=O hbl;have H2:=O e2;have H3:=O e3
    have hib:((k:Int) % 64)<64:=by omega
    have hin:k % 64<64:=by omega
    clear hBq hxd hma hps hcall hbl e1 e2 e3
    go_wp2_with (go_at_call 169;refine(HC.out _).mono ?_;rintro e w4 ⟨rfl,hb4⟩;have hT4:=hT.keep (hb4.block _ hg);have hc:=hT4.at k hml;have hf:=hT4.free k hml;rw[show byteAt (C3.mid key ctr nonce text k) k=byteAt text k from HM.out] at hc)
    first |refine dD 10 (by kernel_rfl) (by kernel_rfl) ?_|refine dJ 10 (by kernel_rfl) (by kernel_rfl) ?_
    simp only[F_,c_,J_,L_]
    repeat (go_big_quiet_step (fail))
    refine h_ ?_;rintro _ ⟨nq,rfl⟩;go_wp2;go_roundw
    case rel =>
     refine⟨k+1,blk,by omega,by go_num,rfl,fun h => ?_,?_,?_,?_⟩
     ·rw[H3.out h];exact HB.out.symm
     ·rw[H2.out,C3.ctr_succ]
     ·rw[←HP.out,HX.out,hm];exact(hT4.set k hml _).keep rfl
     ·exact ak _ ((hb.trans (hb4.mono (by omega))).setCell (A_ _) _)
    case measure=>simp[intOf];omega
   ·have hmb:(((k:Int) % 64) == 0)=false:=by rw[U_];omega
    have e1:(k+63) / 64=k / 64+1:=by omega
    have e2:(k+1+63) / 64=k / 64+1:=by omega
    have e3:(k+1) % 64≠0→(k+1) / 64=k / 64:=fun _=>by omega
    rw[e1];have hB:=C3.length_block key (ctr+UInt32.ofNat (k / 64)) nonce;rw[←hbl hm] at hB hxd;have hbl2:=hbl hm;have HB:=O hbl2;have HX:=O hxd;have HP:=O hps;have H2:=O e2;have H3:=O e3
    have hib:((k:Int) % 64)<64:=by omega
    have hin:k % 64<64:=by omega
    have hc:=hT.at k hml;have hf:=hT.free k hml;rw[show byteAt (C3.mid key ctr nonce text k) k=byteAt text k from hma] at hc;clear hxd hma hps hbl e1 e2 e3 hbl2;go_wp2
    first |refine dD 10 (by kernel_rfl) (by kernel_rfl) ?_|refine dJ 10 (by kernel_rfl) (by kernel_rfl) ?_
    simp only[F_,c_,J_,L_]
    repeat (go_big_quiet_step (fail))
    refine h_ ?_;rintro _ ⟨nq,rfl⟩;go_wp2;go_roundw
    case rel =>
     refine⟨k+1,bl,by omega,by go_num,rfl,fun h => ?_,?_,?_,?_⟩
     ·rw[H3.out h];exact HB.out
     ·rw[H2.out]
     ·rw[←HP.out,HX.out];exact(hT.set k hml _).keep rfl
     ·exact ak _ (hb.setCell (A_ _) _)
    case measure=>simp[intOf];omega
  ·have he:k=text.length:=by omega
   have hlm:=C3.length_mid key ctr nonce text k hkl;have hcv:=hT.conv (grownCap (w1.alloc (.cells (row (C3.state key ctr nonce)) 226)) text.length 0 5);rw[hlm] at hcv;have HE:=O he;clear he hlm;go_wp2
   go_ret2
   refine⟨?_,hbw.trans (hb.mono hsz1)⟩;rw[←C3.mid_all,←HE.out]
   rfl
end
section
open Go.RowKit
def fH (key:List UInt8):List UInt8:=mac key [101,110,99]
def cO (key:List UInt8):List UInt8:=mac key [109,97,99]
def bm (m ad t:List UInt8):List UInt8:=(mac m ([110,111,110,99,101]++(aV ad++t))).take 12
def jj (m n ad c:List UInt8):List UInt8:=(mac m ([116,97,103]++(n++(aV ad++c)))).take 16
theorem qp (k:List UInt8):(fH k).length=32:=ju _ _
theorem qF (k:List UInt8):(cO k).length=32:=ju _ _
theorem gL (m ad t:List UInt8):(bm m ad t).length=12:=by unfold bm;rw[b_,ju];rfl
theorem jX (m n ad c:List UInt8):(jj m n ad c).length=16:=by unfold jj;rw[b_,ju];rfl
def eX (key n t:List UInt8):List UInt8:=C3.xorText key 1 n t
def bQ (key ad t:List UInt8):List UInt8 :=
 bm (cO key) ad t++(eX (fH key) (bm (cO key) ad t) t++jj (cO key) (bm (cO key) ad t) ad (eX (fH key) (bm (cO key) ad t) t))
def bN (blob:List UInt8):List UInt8:=blob.take 12
def bC (blob:List UInt8):List UInt8:=(blob.drop 12).take (blob.length-16-12)
def bT (blob:List UInt8):List UInt8:=blob.drop (blob.length-16)
def jn (key ad blob:List UInt8):Option (List UInt8) :=
 if jj (cO key) (bN blob) ad (bC blob)=bT blob∧bm (cO key) ad (eX (fH key) (bN blob) (bC blob))=bN blob then some (eX (fH key) (bN blob) (bC blob)) else none
theorem cW (s:List UInt8):(aV s).length≤s.length+9:=by unfold aV;rw[E_];have := cg (s.length:Int);omega
theorem xF (xs:List (List UInt8)):Lib.join xs []=xs.flatten:=by
 cases xs with
 | nil=>rfl
 | cons x r =>
   rw[Lib.join_cons,List.flatten_cons]
   congr 1
   unfold Lib.joinTail
   simp
attribute [local irreducible] Calls mac aV
theorem CH (m:List UInt8) (n:Nat) (bk:Nat) (xs:List (List UInt8)) (w:World) (hk:KAt w) (hn:n≤32) (hm:m.length≤1000000)
  (hcells:∀(j:Nat) x,xs[j]?=some x→w.cell? ⟨bk,j,none⟩=some (.string ⟨x.toArray⟩)) (hbk:bk<w.heap.size) (hx:xs.length≤100) (hl:xs.flatten.length≤10000000) :
  Calls prog 121 #[.string ⟨m.toArray⟩,.int .i64 n,.slice (some ⟨bk,0,none⟩) xs.length xs.length] w fun e w'=>e = .returned (.string ⟨((mac m xs.flatten).take n).toArray⟩)∧Below w.heap.size w w':=by
 have hj:((xs.map (fun x=>ByteArray.mk x.toArray)).map (·.data.toList))=xs:=by
  rw[List.map_map]
  show xs.map (fun x=>x)=xs
  simp
 have J:=strings_Join bk 0 xs.length (xs.map (fun x=>ByteArray.mk x.toArray)) ⟨#[]⟩ w (by
  intro j x hx;rw[List.getElem?_map] at hx
  cases hq:xs[j]? with
  | none=>rw[hq] at hx;cases hx
  | some y =>
    rw[hq] at hx
    cases hx
    rw[a_]
    exact hcells j y hq) hbk (by rw[List.length_map];omega) (by rw[List.length_map];exact A_ _) (by rw[hj,xF];omega)
 rw[hj,List.length_map,xF] at J;have HJ:=O J;have HL:=O hl;have HK:=O hk;have HM:=O hm
 have hni:(n:Int)≤32:=by omega
 have hml:=ju m xs.flatten;have HML:=O hml;clear J hj hcells hl hm hk hml;generalize hfl:xs.flatten=fl at HJ HL HML ⊢;clear hfl
 go_enter func121,ntmps121
 go_wp2_with (first
  |(go_at_call 167;refine HJ.out.mono ?_;rintro e w1 ⟨rfl,hb1⟩;have HB1:=O hb1;clear hb1)
  |(go_at_call 106;refine(E8 m fl _ (HK.out.on HB1.out) (by have := HM.out;omega) (by have := HL.out;omega)).mono ?_;rintro e w2 ⟨rfl,hb2⟩;have HB2:=O (HB1.out.trans (hb2.mono HB1.out.size));clear hb2;generalize hmk:mac m fl=mk at HML ⊢;have hl32:(ByteArray.mk mk.toArray).size=32:=HML.out))
 go_ret;exact⟨by rw[hmk];rfl,HB2.out⟩
theorem m9 (key:List UInt8) (w:World) (hk:KAt w) (hl:key.length=32) :
  Calls prog 120 #[.string ⟨key.toArray⟩] w fun e w'=>e = .returned (.tuple #[.string ⟨(fH key).toArray⟩,.string ⟨(cO key).toArray⟩,.int .i64 0])∧Below w.heap.size w w':=by
 have HL:=O hl;have HK:=O hk
 have i1:((key.length:Int) != 32)=false:=by rw[hl];rfl
 have he:mac key [101,110,99]=fH key:=rfl;have hm:mac key [109,97,99]=cO key:=rfl;have HE:=O he;have HM:=O hm;clear hk hl he hm
 go_enter func120,ntmps120
 go_wp2_with (first
  |(go_at_call 106;refine(E8 key [101,110,99] _ HK.out (by rw[HL.out];decide) (by decide)).mono ?_;rintro e w1 ⟨rfl,hb1⟩;have HB1:=O hb1;clear hb1;rw[HE.out])
  |(go_at_call 106;refine(E8 key [109,97,99] _ (HK.out.on HB1.out) (by rw[HL.out];decide) (by decide)).mono ?_;rintro e w2 ⟨rfl,hb2⟩;have HB2:=O (HB1.out.trans (hb2.mono HB1.out.size));clear hb2;rw[HM.out]))
 go_ret3
 exact⟨rfl,HB2.out⟩
theorem za (key:List UInt8) (w:World) (hl:¬key.length=32) :
  Calls prog 120 #[.string ⟨key.toArray⟩] w fun e w'=>e = .returned (.tuple #[.string ⟨#[]⟩,.string ⟨#[]⟩,.int .i64 1])∧Below w.heap.size w w':=by
 have i1:((key.length:Int) != 32)=true:=by simp;omega
 clear hl
 go_enter func120,ntmps120
 go_wp2
 go_ret3
 exact⟨rfl,O_ _ _⟩
theorem MJ (key nonce text:List UInt8) (hk:key.length=32) (hn:nonce.length=12) (ht:text.length≤2000000) (w:World) :
  Calls prog 122 #[.string ⟨key.toArray⟩,.int .u32 1,.string ⟨nonce.toArray⟩,.string ⟨text.toArray⟩] w fun e w'=>e = .returned (.tuple #[.string ⟨(eX key nonce text).toArray⟩,.int .i64 0])∧Below w.heap.size w w':=Xq key nonce text 1 hk hn ht w
@[go_sem] theorem Yg (a b : List UInt8) : (ByteArray.mk a.toArray ++ ByteArray.mk b.toArray) = ByteArray.mk (a ++ b).toArray := by
  apply ByteArray.ext
  rw[ByteArray.data_append]
  simp
theorem sA (w:World) (xs:List (List UInt8)) (T:TypeId):∀(j:Nat) x,xs[j]?=some x→(w.alloc (.cells (xs.map (fun x=>Value.string ⟨x.toArray⟩)).toArray T)).cell? ⟨w.heap.size,j,none⟩=some (.string ⟨x.toArray⟩):=by
 intro j x hx;rw[e_ _ _ _ _ _ _ (al _ _ _ rfl)]
 simp[hx]
theorem NU (m:List UInt8) (a b c:List UInt8) (w:World) (T:TypeId) (hk:KAt w) (hm:m.length=32) (ha:a.length≤100) (hb:b.length≤2100000) (hc:c.length≤2100000) :
  Calls prog 121 #[.string ⟨m.toArray⟩,.int .i64 12,.slice (some ⟨w.heap.size,0,none⟩) 3 3] (w.alloc (.cells #[.string ⟨a.toArray⟩,.string ⟨b.toArray⟩,.string ⟨c.toArray⟩] T)) fun e w'=>e = .returned (.string ⟨((mac m (a++(b++c))).take 12).toArray⟩)∧Below w.heap.size w w':=by
 have h:=CH m 12 w.heap.size [a,b,c] (w.alloc (.cells #[.string ⟨a.toArray⟩,.string ⟨b.toArray⟩,.string ⟨c.toArray⟩] T)) (hk.alloc _) (by decide) (by omega) (sA w [a,b,c] T) (by simp) (by simp) (by simp;omega)
 have e:[a,b,c].flatten=a++(b++c):=by simp
 rw[e] at h;exact h.mono fun e w' hh=>⟨hh.1,((O_ _ _).alloc (A_ _) _).trans (hh.2.mono (by simp))⟩
theorem NV (m:List UInt8) (a b c d:List UInt8) (w:World) (T:TypeId) (hk:KAt w) (hm:m.length=32) (ha:a.length≤100) (hb:b.length≤2100000) (hc:c.length≤2100000) (hd:d.length≤2100000) :
  Calls prog 121 #[.string ⟨m.toArray⟩,.int .i64 16,.slice (some ⟨w.heap.size,0,none⟩) 4 4] (w.alloc (.cells #[.string ⟨a.toArray⟩,.string ⟨b.toArray⟩,.string ⟨c.toArray⟩,.string ⟨d.toArray⟩] T)) fun e w'=>e = .returned (.string ⟨((mac m (a++(b++(c++d)))).take 16).toArray⟩)∧Below w.heap.size w w':=by
 have h:=CH m 16 w.heap.size [a,b,c,d] (w.alloc (.cells #[.string ⟨a.toArray⟩,.string ⟨b.toArray⟩,.string ⟨c.toArray⟩,.string ⟨d.toArray⟩] T)) (hk.alloc _) (by decide) (by omega) (sA w [a,b,c,d] T) (by simp) (by simp) (by simp;omega)
 have e:[a,b,c,d].flatten=a++(b++(c++d)):=by simp
 rw[e] at h;exact h.mono fun e w' hh=>⟨hh.1,((O_ _ _).alloc (A_ _) _).trans (hh.2.mono (by simp))⟩
theorem zf (m ad t:List UInt8) (w:World) (hk:KAt w) (hm:m.length=32) (ha:ad.length≤2000000) (ht:t.length≤2000000) :
  Calls prog 121 #[.string ⟨m.toArray⟩,.int .i64 12,.slice (some ⟨w.heap.size,0,none⟩) 3 3] (w.alloc (.cells #[.string ⟨#[110,111,110,99,101]⟩,.string ⟨(aV ad).toArray⟩,.string ⟨t.toArray⟩] 9)) fun e w'=>e = .returned (.string ⟨(bm m ad t).toArray⟩)∧Below w.heap.size w w' :=
 NU m [110,111,110,99,101] (aV ad) t w _ hk hm (by decide) (by have := cW ad;omega) (by omega)
theorem WW (m n ad c:List UInt8) (w:World) (hk:KAt w) (hm:m.length=32) (hn:n.length≤2000000) (ha:ad.length≤2000000) (hc:c.length≤2000000) :
  Calls prog 121 #[.string ⟨m.toArray⟩,.int .i64 16,.slice (some ⟨w.heap.size,0,none⟩) 4 4] (w.alloc (.cells #[.string ⟨#[116,97,103]⟩,.string ⟨n.toArray⟩,.string ⟨(aV ad).toArray⟩,.string ⟨c.toArray⟩] 9)) fun e w'=>e = .returned (.string ⟨(jj m n ad c).toArray⟩)∧Below w.heap.size w w' :=
 NV m [116,97,103] n (aV ad) c w _ hk hm (by decide) (by omega) (by have := cW ad;omega) (by omega)
theorem lz (key n t:List UInt8):(eX key n t).length=t.length:=C3.length_xorText key 1 n t
theorem Ly (key ad t:List UInt8) (w:World) (hk:KAt w) (hl:key.length=32) (ha:ad.length≤1048576) (ht:t.length≤1048576) :
  Calls prog 78 #[.string ⟨key.toArray⟩,.string ⟨ad.toArray⟩,.string ⟨t.toArray⟩] w fun e w'=>e = .returned (.tuple #[.string ⟨(bQ key ad t).toArray⟩,.int .i64 0])∧Below w.heap.size w w':=by
 have HL:=O hl;have HK:=O hk;have HA:=O ha;have HT:=O ht
 have i1:¬(1048576:Int)<ad.length:=by omega
 have i2:¬(1048576:Int)<t.length:=by omega
 have hs:bQ key ad t=bm (cO key) ad t++(eX (fH key) (bm (cO key) ad t) t++jj (cO key) (bm (cO key) ad t) ad (eX (fH key) (bm (cO key) ad t) t)):=rfl;have HS:=O hs;have HEL:=O (qp key);have HML:=O (qF key);have HEN:=O (cW ad);clear hl hk ha ht hs
 go_enter func78,ntmps78
 go_wp2_with (first
  |(go_at_call 120;refine(m9 key _ HK.out HL.out).mono ?_;rintro e w1 ⟨rfl,hb1⟩;have HB1:=O hb1;clear hb1;generalize hek:fH key=ek;generalize hmk:cO key=mk;have HEK:=O hek;have HMK:=O hmk;clear hek hmk)
  |(go_at_call 68;refine(lG ad _ (by have := HA.out;omega)).mono ?_;rintro e w2 ⟨v2,rfl,ho2,hb2⟩;have HB2:=O (HB1.out.trans (hb2.mono HB1.out.size));have hcv:=b6 ho2.rd;clear ho2 hb2)
  |(go_at_call 121;refine(zf mk ad t w2 (HK.out.on HB2.out) (by rw[←HMK.out];exact HML.out) (by have := HA.out;omega) (by have := HT.out;omega)).mono ?_;rintro e w3 ⟨rfl,hb3⟩;have HB3:=O (HB2.out.trans (hb3.mono HB2.out.size));clear hb3;generalize hn:bm mk ad t=nc;have HN:=O hn;have HNL:Hid (nc.length=12):=(O (by rw[←hn];exact gL _ _ _));clear hn)
  |(go_at_call 122;refine(MJ ek nc t (by rw[←HEK.out];exact HEL.out) HNL.out (by have := HT.out;omega) _).mono ?_;rintro e w4 ⟨rfl,hb4⟩;have HB4:=O (HB3.out.trans (hb4.mono HB3.out.size));clear hb4;generalize hx:eX ek nc t=xc;have HX:=O hx;have HXL:Hid (xc.length=t.length):=(O (by rw[←hx];exact lz _ _ _));clear hx;have q1:¬9223372036854775807<nc.length+xc.length:=(by rw[HNL.out,HXL.out];have := HT.out;omega))
  |(go_at_call 121;refine(WW mk nc ad xc w4 (HK.out.on HB4.out) (by rw[←HMK.out];exact HML.out) (by rw[HNL.out];decide) (by have := HA.out;omega) (by rw[HXL.out];have := HT.out;omega)).mono ?_;rintro e w5 ⟨rfl,hb5⟩;have HB5:=O (HB4.out.trans (hb5.mono HB4.out.size));clear hb5;generalize htg:jj mk nc ad xc=tg;have HTG:=O htg;have q2:¬9223372036854775807<nc.length+xc.length+tg.length:=(by rw[←htg,jX,HNL.out,HXL.out];have := HT.out;omega);clear htg))
 go_ret2
 exact⟨by rw[HS.out,HEK.out,HMK.out,HN.out,HX.out,HTG.out];rfl,HB5.out⟩
def eu (key ad t:List UInt8):List UInt8:=if key.length=32∧¬(1048576<ad.length∨1048576<t.length) then bQ key ad t else []
def fF (key ad t:List UInt8):Int:=if key.length=32 then (if 1048576<ad.length∨1048576<t.length then 2 else 0) else 1
end
section
open Go.RowKit
theorem Jc (w:World) (bk:Nat) (xs:List (List UInt8)) (T:TypeId) (hg:w.heap[bk]?=some (.cells (xs.map (fun x=>Value.string ⟨x.toArray⟩)).toArray T (0,0))):∀(j:Nat) x,xs[j]?=some x→w.cell? ⟨bk,j,none⟩=some (.string ⟨x.toArray⟩):=by
 intro j x hx;rw[e_ _ _ _ _ _ _ hg]
 simp[hx]
theorem WX (m n ad c:List UInt8) (bk:Nat) (w:World) (T:TypeId) (hk:KAt w) (hm:m.length=32) (hn:n.length≤2000000) (ha:ad.length≤2000000) (hc:c.length≤2000000)
  (hg:w.heap[bk]?=some (.cells #[.string ⟨#[116,97,103]⟩,.string ⟨n.toArray⟩,.string ⟨(aV ad).toArray⟩,.string ⟨c.toArray⟩] T (0,0))) :
  Calls prog 121 #[.string ⟨m.toArray⟩,.int .i64 16,.slice (some ⟨bk,0,none⟩) 4 4] w fun e w'=>e = .returned (.string ⟨(jj m n ad c).toArray⟩)∧Below w.heap.size w w':=by
 have h:=CH m 16 bk [[116,97,103],n,aV ad,c] w hk (by decide) (by omega) (Jc w bk [[116,97,103],n,aV ad,c] T hg) (Q_.1 hg).1 (by simp) (by have := cW ad;simp;omega)
 have e:[[116,97,103],n,aV ad,c].flatten=[116,97,103]++(n++(aV ad++c)):=by simp
 rw[e] at h;exact h
def SP.freshS (B:Nat) (n:Nat) (cs:Array Value) (T:TypeId):SP :=
 .pred (fun v w=>∃g:Nat,v = .slice (some ⟨g,0,none⟩) n n∧B≤g∧w.heap[g]?=some (.cells cs T (0,0)))
  (fun v w w' hb ⟨g,e,h1,h2⟩=>⟨g,e,h1,by rw[hb.block _ (Q_.1 h2).1];exact h2⟩)
def KP:Option (List UInt8)→Value
 | some x => .tuple #[.string ⟨x.toArray⟩,.int .i64 0]
 | none => .tuple #[.string ⟨#[]⟩,.int .i64 8]
attribute [local irreducible] Calls mac aV bm jj eX fH cO
theorem O1 (key ad t:List UInt8) (w:World) (hl:¬key.length=32) :
  Calls prog 88 #[.string ⟨key.toArray⟩,.string ⟨ad.toArray⟩,.string ⟨t.toArray⟩] w fun e w'=>e = .returned (.tuple #[.string ⟨#[]⟩,.int .i64 1])∧Below w.heap.size w w':=by
 go_enter func88,ntmps88
 go_wp2_with (go_at_call 120;refine(za key _ hl).mono ?_;rintro e w1 ⟨rfl,hb1⟩)
 go_ret2
 exact⟨rfl,hb1⟩
theorem Dq (key ad t:List UInt8) (w:World) (hk:KAt w) (hl:key.length=32) (ha:ad.length≤1048576) (ht:t.length<28) :
  Calls prog 88 #[.string ⟨key.toArray⟩,.string ⟨ad.toArray⟩,.string ⟨t.toArray⟩] w fun e w'=>e = .returned (.tuple #[.string ⟨#[]⟩,.int .i64 5])∧Below w.heap.size w w':=by
 have i1:¬(1048576:Int)<ad.length:=by omega
 have i2:¬(1048604:Int)<t.length:=by omega
 have i3:(t.length:Int)<28:=by omega
 clear ha ht
 go_enter func88,ntmps88
 go_wp2_with (go_at_call 120;refine(m9 key _ hk hl).mono ?_;rintro e w1 ⟨rfl,hb1⟩)
 go_ret2
 exact⟨rfl,hb1⟩
theorem KQ (key ad t:List UInt8) (w:World) (hk:KAt w) (hl:key.length=32) (h:1048576<ad.length∨1048604<t.length) :
  Calls prog 88 #[.string ⟨key.toArray⟩,.string ⟨ad.toArray⟩,.string ⟨t.toArray⟩] w fun e w'=>e = .returned (.tuple #[.string ⟨#[]⟩,.int .i64 2])∧Below w.heap.size w w':=by
 by_cases h1:1048576<ad.length
 ·have i1:(1048576:Int)<ad.length:=by omega
  clear h h1
  go_enter func88,ntmps88
  go_wp2_with (go_at_call 120;refine(m9 key _ hk hl).mono ?_;rintro e w1 ⟨rfl,hb1⟩)
  go_ret2
  exact⟨rfl,hb1⟩
 ·have i1:¬(1048576:Int)<ad.length:=by omega
  have i2:(1048604:Int)<t.length:=by omega
  clear h h1
  go_enter func88,ntmps88
  go_wp2_with (go_at_call 120;refine(m9 key _ hk hl).mono ?_;rintro e w1 ⟨rfl,hb1⟩)
  go_ret2
  exact⟨rfl,hb1⟩
theorem Tc (key ad t:List UInt8) (w:World) (hk:KAt w) (hl:key.length=32) (ha:ad.length≤1048576) (ht:28≤t.length) (ht2:t.length≤1048604) :
  Calls prog 88 #[.string ⟨key.toArray⟩,.string ⟨ad.toArray⟩,.string ⟨t.toArray⟩] w fun e w'=>e = .returned (KP (jn key ad t))∧Below w.heap.size w w':=by
 have HL:=O hl;have HK:=O hk;have HA:=O ha;have HT:=O ht2;have HT1:=O ht
 have i1:¬(1048576:Int)<ad.length:=by omega
 have i2:¬(1048604:Int)<t.length:=by omega
 have i3:¬(t.length:Int)<28:=by omega
 have hti:(28:Int)≤t.length:=by omega
 have hti2:(t.length:Int)≤1048604:=by omega
 have HEL:=O (qp key);have HML:=O (qF key);have HEN:=O (cW ad);clear hl hk ha
 go_enter func88,ntmps88
 go_upto_region 9 with (first
  |(go_at_call 120;refine(m9 key _ HK.out HL.out).mono ?_;rintro e w1 ⟨rfl,hb1⟩;have HB1:=O hb1;clear hb1;generalize hek:fH key=ek;generalize hmk:cO key=mk;have HEK:=O hek;have HMK:=O hmk;clear hek hmk)
  |(go_at_call 68;refine(lG ad _ (by have := HA.out;omega)).mono ?_;rintro e w2 ⟨v2,rfl,ho2,hb2⟩;have HB2:=O (HB1.out.trans (hb2.mono HB1.out.size));have hcv:=b6 ho2.rd;clear ho2 hb2))
 refine fG (by kernel_rfl) (by kernel_rfl) ?_
 repeat (go_big_quiet_step (fail))
 refine h_ ?_;rintro _ ⟨nq,rfl⟩
 go_upto_region 10 with fail
 have HKN:Hid (KAt (w2.drewN nq)):=O (HK.out.on (ak nq HB2.out));have HBN:Hid (Below w.heap.size w (w2.drewN nq)):=O (ak nq HB2.out);generalize w2.drewN nq=w3 at HKN HBN ⊢;obtain⟨nn,hnn⟩:∃nn,bN t=nn:=⟨_,rfl⟩;obtain⟨cc,hcc⟩:∃cc,bC t=cc:=⟨_,rfl⟩;obtain⟨tt,htt⟩:∃tt,bT t=tt:=⟨_,rfl⟩;have HNN:=O hnn;have HCC:=O hcc;have HTT:=O htt;have HNL:Hid (nn.length=12):=O (by rw[←hnn];unfold bN;rw[b_];omega);have HCL:Hid (cc.length≤1048604):=O (by rw[←hcc];unfold bC;rw[b_,S_];omega)
 have hft:(t.drop (t.length-16)).take (t.length-(t.length-16))=tt:=by
  rw[←htt];unfold bT;exact Y_ (by rw[S_];exact A_ _)
 have hft2:t.drop (t.length-16)=tt:=htt;unfold bN at hnn;unfold bC at hcc;rw[hnn,hcc];clear hnn hcc htt;have HMKL:Hid (mk.length=32):=O (by rw[←HMK.out];exact HML.out);have HEKL:Hid (ek.length=32):=O (by rw[←HEK.out];exact HEL.out);refine aY 9 [[],[],[],[],[1,2,3],[0,4],[],[],[6,7]] (SP.of [.eq (.string ⟨mk.toArray⟩),.eq (.string ⟨nn.toArray⟩),.eq (.string ⟨(aV ad).toArray⟩),.eq (.string ⟨cc.toArray⟩),.freshS w3.heap.size 4 #[.string ⟨#[116,97,103]⟩,.string ⟨nn.toArray⟩,.string ⟨(aV ad).toArray⟩,.string ⟨cc.toArray⟩] 9,.eq (.string ⟨(jj mk nn ad cc).toArray⟩),.eq (.string ⟨t.toArray⟩),.eq (.int .i64 ((t.length:Int)-16)),.eq (.string ⟨tt.toArray⟩)]) (fun _=>undef) ?h1 ?h2 ?h3 ?h4 ?h5 ?h6
 case h1=>kernel_rfl
 case h2=>kernel_rfl
 case h3=>kernel_rfl
 case h4 =>
  simp only[F_,c_]
  repeat (first |exact trivial|refine⟨fun vals v=>by kernel_rfl,?_⟩)
 case h5 =>
  simp only[F_,c_];refine⟨?_,?_,?_,?_,?_,?_,?_,?_,?_,trivial⟩
  all_goals (intro wq hbq vals;simp only[given,SP.of,SP.freshS,Nat.reduceAdd,a_,X_,W_];have HBQ:=O hbq;clear hbq)
  case refine_5 =>
   intro Q hQ;simp only[ay,upd,Act.put,B_,C_,D_,Nat.reduceAdd,a_,Nat.reduceEqDiff,if_true,if_false,reduceIte];go_wp2;exact ab hQ _ (by kernel_rfl) ((O_ _ _).alloc (A_ _) _) ⟨wq.heap.size,rfl,HBQ.out.size,al _ _ _ rfl⟩
  case refine_6 =>
   rintro _ ⟨g,rfl,hg1,hg2⟩ Q hQ;simp only[ay,upd,Act.put,B_,C_,D_,Nat.reduceAdd,a_,Nat.reduceEqDiff,if_true,if_false,reduceIte];have HG2:=O hg2;clear hg1 hg2
   go_wp2_with (go_at_call 121;refine(WX mk nn ad cc g _ _ (HKN.out.on HBQ.out) HMKL.out (by rw[HNL.out];decide) (by have := HA.out;omega) (by have := HCL.out;omega) HG2.out).mono ?_;rintro e x1 ⟨rfl,hx1⟩)
   exact ab hQ _ (by kernel_rfl) hx1 rfl
  case refine_9 =>
   intro Q hQ;simp only[ay,upd,Act.put,B_,C_,D_,Nat.reduceAdd,a_,Nat.reduceEqDiff,if_true,if_false,reduceIte];have HFT:=O hft;clear hft hft2;go_wp2;rw[HFT.out];exact ab hQ _ (by kernel_rfl) (O_ _ _) rfl
  all_goals (intro Q hQ;simp only[ay,upd,Act.put,B_,C_,D_,Nat.reduceAdd,a_,Nat.reduceEqDiff,if_true,if_false,reduceIte])
  all_goals go_wp2
  all_goals exact ab hQ _ (by kernel_rfl) (O_ _ _) rfl
 case h6 =>
  intro w4 hb4 vals
  show given _ _ _ [0,1,2,3,4,5,6,7,8] _
  simp only[given,SP.of,SP.freshS,X_,W_];rintro _ ⟨g,rfl,hg1,hg2⟩;simp only[F_,c_,J_,L_];simp only[ay,upd,Act.put,B_,C_,D_,Nat.reduceAdd,a_,Nat.reduceEqDiff,if_true,if_false,reduceIte];have HB4:=O (HBN.out.trans (hb4.mono HBN.out.size));clear hb4 hg1 hg2;generalize htg:jj mk nn ad cc=tg;have HTG:=O htg;clear htg hft hft2;have HO:Hid (jn key ad t=if tg=tt∧bm mk ad (eX ek nn cc)=nn then some (eX ek nn cc) else none):=O (by unfold jn;rw[HNN.out,HCC.out,HTT.out,HMK.out,HEK.out,HTG.out])
  by_cases hteq:tg=tt
  ·have e1:(tg == tt)=true:=by simpa using hteq
   have HTE:=O hteq;clear hteq
   go_upto_region 13 with (go_at_call 122;refine(MJ ek nn cc HEKL.out HNL.out (by have := HCL.out;omega) _).mono ?_;rintro e w5 ⟨rfl,hb5⟩;have HB5:=O (HB4.out.trans (hb5.mono HB4.out.size));clear hb5;generalize hx:eX ek nn cc=xc at HO ⊢;have HXL:Hid (xc.length=cc.length):=(O (by rw[←hx];exact lz _ _ _));clear hx)
   generalize hnc:bm mk ad xc=n2 at HO;have HNC:=O hnc;clear hnc
   by_cases hneq:n2=nn
   ·have e2:(n2 == nn)=true:=by simpa using hneq
    have HNE:=O hneq;clear hneq
    go_wp2_with (go_at_call 121;refine(zf mk ad xc w5 (HK.out.on HB5.out) HMKL.out (by have := HA.out;omega) (by rw[HXL.out];have := HCL.out;omega)).mono ?_;rintro e w6 ⟨rfl,hb6⟩;have HB6:=O (HB5.out.trans (hb6.mono HB5.out.size));clear hb6;rw[HNC.out])
    go_ret2
    exact⟨by rw[HO.out,G_ ⟨HTE.out,HNE.out⟩];rfl,HB6.out⟩
   ·have e2:(n2 == nn)=false:=by simpa using hneq
    have HNE:=O hneq;clear hneq
    go_wp2_with (go_at_call 121;refine(zf mk ad xc w5 (HK.out.on HB5.out) HMKL.out (by have := HA.out;omega) (by rw[HXL.out];have := HCL.out;omega)).mono ?_;rintro e w6 ⟨rfl,hb6⟩;have HB6:=O (HB5.out.trans (hb6.mono HB5.out.size));clear hb6;rw[HNC.out])
    go_ret2
    exact⟨by rw[HO.out,H_ (fun h=>HNE.out h.2)];rfl,HB6.out⟩
  ·have e1:(tg == tt)=false:=by simpa using hteq
   have HTE:=O hteq;clear hteq;go_wp2
   go_ret2
   exact⟨by rw[HO.out,H_ (fun h=>HTE.out h.1)];rfl,HB4.out⟩
def gU (key ad t:List UInt8):List UInt8:=if key.length=32∧¬(1048576<ad.length∨1048604<t.length)∧¬t.length<28 then (jn key ad t).getD [] else []
def eG (key ad t:List UInt8):Int:=if key.length=32 then (if 1048576<ad.length∨1048604<t.length then 2 else if t.length<28 then 5 else if (jn key ad t).isSome then 0 else 8) else 1
theorem BB (o:Option (List UInt8)):KP o = .tuple #[.string ⟨(o.getD []).toArray⟩,.int .i64 (if o.isSome then 0 else 8)]:=by
 cases o <;> rfl
theorem Tf (key ad t:List UInt8) (w:World) (hk:KAt w) :
  Calls prog 88 #[.string ⟨key.toArray⟩,.string ⟨ad.toArray⟩,.string ⟨t.toArray⟩] w fun e w'=>e = .returned (.tuple #[.string ⟨(gU key ad t).toArray⟩,.int .i64 (eG key ad t)])∧Below w.heap.size w w':=by
 unfold gU eG
 by_cases h:key.length=32
 ·by_cases h2:1048576<ad.length∨1048604<t.length
  ·rw[H_ (fun e=>e.2.1 h2),G_ h,G_ h2]
   exact KQ key ad t w hk h h2
  ·by_cases h3:t.length<28
   ·rw[H_ (fun e=>e.2.2 h3),G_ h,H_ h2,G_ h3]
    exact Dq key ad t w hk h (by omega) h3
   ·rw[G_ ⟨h,h2,h3⟩,G_ h,H_ h2,H_ h3,←BB]
    exact Tc key ad t w hk h (by omega) (by omega) (by omega)
 ·rw[H_ (fun e=>h e.1),H_ h]
  exact O1 key ad t w h
end
end Go.Proofs.YtmfiaadjdbemnaaGreatDoor
