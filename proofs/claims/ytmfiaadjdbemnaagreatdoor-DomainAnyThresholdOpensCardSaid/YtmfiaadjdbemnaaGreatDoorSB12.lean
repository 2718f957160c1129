/- Contracts and lemmas. No condition. -/
import Derived.Test.YtmfiaadjdbemnaaGreatDoorSB10
import Derived.Test.YtmfiaadjdbemnaaGreatDoorSB11
import Derived.Test.YtmfiaadjdbemnaaGreatDoorSB09
import Derived.ChangeKeysEq
import Derived.Deep.MidRow
import Derived.Laws.Tables
import Derived.Lib.ConvBytes
set_option maxRecDepth 100000
set_option maxHeartbeats 8000000
namespace Go.Proofs.YtmfiaadjdbemnaaGreatDoor
section
open Go.RowKit
def bv (l:List UInt8):List Value:=l.map fun b => .int .u8 (B8 b)
def cR (w:World) (ai:Nat) (v:Value) (l:List UInt8):Prop:=w.ownsRow ai 5 1 v l.length (bv l)
theorem uv (l:List UInt8):∀u∈bv l,u.oneCell'=true:=by
 intro u hu;obtain⟨b,_,rfl⟩:=List.mem_map.1 hu
 rfl
theorem sH:(Tryz.prog.info? 5).map (fun i=>(i.zero,i.size,i.bytes))=some (some (.int .u8 0),1,1):=by kernel_rfl
theorem D7 {w:World} {ops:Array Oper} {rest:List Oper} {o:Oper} {a:Act} {Q:Exit→Act→World→Prop} (hgd:o.guard=none) (s x:Operand)
  (ho:o.op = .call { callee := .builtin .append,args := #[s,x],argTypes := #[80,80] })
  (ai:Nat) (v:Value) (l:List UInt8) (hs:a.eval s=v) (hown:cR w ai v l) (ad:Addr) (m c:Nat) (news:List UInt8) (hx:a.eval x = .slice (some ad) m c) (hl:news.length=m)
  (hnews:∀j u,(bv news)[j]?=some u→w.cell? (ad.add j)=some u) (hsz:l.length+m≤1000000000) (hbase:ai≤w.heap.size)
  (h:∀v' w',cR w' ai v' (l++news)→Below ai w w'→wpList Tryz.prog ops Q rest (a.put o.dst v') w'):wpList Tryz.prog ops Q (o::rest) a w:=by
 obtain⟨i0,hi,hz0,hz1,hz2⟩:=info_parts sH
 refine wpList_append_own w hgd s x 80 ho ai 5 i0 (.int .u8 0) 1 1 Tryz.underlying80 hi hz0 hz1 hz2 rfl (by decide) v l.length (bv l) hs hown ad m c (bv news) hx (by simp[bv,hl]) hnews (uv news)
  (by unfold maxLen;omega) (by omega) hbase ?_
 intro v' w' h1 h2 _;refine h v' w' ?_ ((Oo ai w).grown h2 hbase (fun k hk=>(hown.lt k hk).1));unfold cR;rw[List.length_append,hl]
 have : bv (l++news)=bv l++bv news:=by simp[bv]
 rw[this];exact h1
theorem mR (w:World) (cs:Array Value) (T:TypeId) (j:Nat) (u:Value) (h:cs.toList[j]?=some u):(w.alloc (.cells cs T)).cell? ((⟨w.heap.size,0,none⟩:Addr).add j)=some u:=by
 have gX:(⟨w.heap.size,0,none⟩:Addr).add j=⟨w.heap.size,j,none⟩:=by unfold Addr.add;split <;> simp_all
 rw[gX,cell_of_row _ _ j cs T (0,0) (heap_alloc_new w _),←Array.getElem?_toList];exact h
theorem cR.below {w w':World} {ai:Nat} {v:Value} {l:List UInt8} (h:cR w ai v l) (hb:Below w.heap.size w w'):cR w' ai v l:=by
 refine⟨h.1,?_⟩
 rcases h.2 with hn|⟨g,cap,cur,rfl,hg,hgg,r⟩
 ·exact .inl hn
 ·exact .inr ⟨g,cap,cur,rfl,hg,by rw[hb.block _ (Array.getElem?_eq_some_iff.1 hgg).1];exact hgg,r⟩
theorem ny (l:List UInt8):strOfNums (l.map B8)=⟨l.toArray⟩:=by
 unfold strOfNums;rw[List.map_map]
 congr 2
 have : ((fun n:Int=>UInt8.ofNat n.toNat) ∘ B8)=id:=by
  funext x
  simp[B8]
 rw[this,List.map_id]
theorem qg {w:World} {ai:Nat} {v:Value} {l:List UInt8} (h:cR w ai v l):(convert 80 9 v).run Tryz.prog w = .ok (.string ⟨l.toArray⟩) w:=by
 rcases h.2 with⟨rfl,hn⟩|⟨g,cap,cur,rfl,_,hgg,h1,_,h2,h3⟩
 ·have hl:l=[]:=List.length_eq_zero_iff.1 hn
  subst hl;exact run_convert_bytes_nil w _ _ Tryz.underlying80 Tryz.underlying5 _ _ _ Tryz.underlying9
 ·rw[←ny l]
  refine run_convert_bytes_arg w _ _ Tryz.underlying80 Tryz.underlying5 g 0 _ _ _ (by simp) (fun i hi => ?_) _ Tryz.underlying9;rw[Nat.zero_add,cell_of_row _ _ _ _ _ _ hgg]
  have e:(cur.toList.take (l.length*1))[i]? = (bv l)[i]? := by rw[h3]
  rw[List.getElem?_take,if_pos (by omega),Array.getElem?_toList] at e;rw[e]
  simp[bv,List.getD_eq_getElem?_getD,List.getElem?_eq_getElem hi]
theorem Wy (w:World) (ai:Nat) (v:Value) (l:List UInt8) (x:UInt32) (hown:cR w ai v l) (hsz:l.length≤999999990) (hbase:ai≤w.heap.size) :
  Calls Tryz.prog 183 #[v,.int .u32 (W32 x)] w fun e w'=>∃v',e = .returned v'∧cR w' ai v' (l++C3.bytes x)∧Below ai w w':=by
 go_enter Tryz.func183,Tryz.ntmps183
 go_wp2_with (at_builtin;refine D7 rfl (.tmp 5) (.tmp 17) rfl ai v l rfl (World.ownsRow.alloc hown _) ⟨w.heap.size,0,none⟩ 4 4 (C3.bytes x) rfl rfl ?h1 ?h2 ?h3 ?h4)
 case h4 =>
  intro v' w' ho hb;go_wp2;go_ret;exact⟨v',rfl,ho,((Oo _ _).alloc hbase _).trans hb⟩
 case h1 =>
  intro j u hj;exact mR _ _ _ _ _ hj
 case h2=>omega
 case h3=>simp;omega
theorem Wb {w:World} {ops:Array Oper} {rest:List Oper} {o:Oper} {a:Act} {Q:Exit→Act→World→Prop} (hgd:o.guard=none) (l c:Operand) (hop:o.op=Op.makeSlice 80 l c)
  (ai:Nat) (n:Nat) (hl:a.eval l = .int .i64 0) (hc:a.eval c = .int .i64 (n:Int)) (hn:n≤1000000000) (hbase:ai≤w.heap.size)
  (h:∀v w',cR w' ai v []→Below ai w w'→wpList Tryz.prog ops Q rest (a.put o.dst v) w'):wpList Tryz.prog ops Q (o::rest) a w:=by
 obtain⟨i0,hi,hz0,hz1,hz2⟩:=info_parts sH;refine wpList_make_own w hgd l c 80 hop ai 5 i0 (.int .u8 0) 1 Tryz.underlying80 hi hz0 hz1 .i64 .i64 n n hl hc rfl (by rw[hz2];omega) (by unfold maxLen;omega) hbase ?_;intro w' h1 h2;exact h _ w' h1 ((Oo ai w).grown h2 hbase (fun k hk=>by cases hk))
theorem tL:(Tryz.prog.info? 130).map (·.size)=some 1:=by kernel_rfl
theorem Oo (s:List UInt32) (hs:s.length=16) (k:Nat) (hk:k<16) (w:World):(Instr.index 226 (.agg (row s)) (.int .i64 k)).run Tryz.prog w = .ok (.int .u32 (W32 (w16 s k))) w:=by
 have hz:(sizeOf 130).run Tryz.prog w = .ok 1 w:=by
  cases hq:Tryz.prog.info? 130 with
  | none=>have := tL;rw[hq] at this;cases this
  | some i=>have h1:=tL;rw[hq] at h1;simp at h1;simp[sizeOf,typeInfo,hq,h1]
 have h1:(k:Int)<16:=by omega
 have h2:k<s.length:=by omega
 simp[Instr.index,go_sem,hz,h1,h2]
 intro h3;omega
theorem wS (key nonce:List UInt8) (ctr:UInt32):C3.block key ctr nonce=C3.blockTo (C3.state key ctr nonce) (C3.rounds (C3.state key ctr nonce) 10) 16:=rfl
theorem p9 (s t:List UInt32) (k:Nat):C3.blockTo s t (k+1)=C3.blockTo s t k++C3.bytes (w16 t k+w16 s k):=rfl
theorem qb (s t:List UInt32):C3.blockTo s t 0=[]:=rfl
attribute [local irreducible] C3.rounds C3.state C3.blockTo C3.bytes
theorem NJ (key nonce:List UInt8) (ctr:UInt32) (hk:key.length=32) (hn:nonce.length=12) (w:World) :
  Calls Tryz.prog 169 #[.string ⟨key.toArray⟩,.int .u32 (W32 ctr),.string ⟨nonce.toArray⟩] w fun e w'=>e = .returned (.tuple #[.string ⟨(C3.block key ctr nonce).toArray⟩,.int .i64 0])∧Below w.heap.size w w':=by
 have hs:=C3.length_state key ctr nonce
 have hr:(C3.rounds (C3.state key ctr nonce) 10).length=16:=by rw[C3.length_rounds,hs]
 rw[wS]
 go_enter Tryz.func169,Tryz.ntmps169
 go_wp2_with (first
  |(go_at_call 168;refine(FA key nonce ctr hk hn _).mono ?_;rintro e w1 ⟨rfl,hb1⟩)
  |(refine gN rfl (.tmp 8) (.tmp 18) rfl _ _ rfl rfl 226 _ (heap_alloc_new _ _) rfl hs ?_)
  |(refine ng rfl (.tmp 8) rfl _ rfl _ 226 ?hld hs ?_)
  |(go_at_call 182;refine(B0 _ hs _).mono ?_;rintro e w3 ⟨rfl,hb3⟩)
  |(at_make;refine Wb rfl _ _ rfl (w1.heap.size+1) 64 rfl rfl ?hm1 ?hm2 ?hm3))
 case hm1=>omega
 case hm2=>simp
 case hm3 =>
  intro v w2 hown hb2
  have aO:w2.heap[w1.heap.size]?=some (.cells (row (C3.state key ctr nonce)) 226 (0,0)):=by rw[hb2.block _ (by omega)];exact heap_alloc_new _ _
  have hz2:w1.heap.size+1≤w2.heap.size:=by have := hb2.size;simpa using this
  go_wp2_with (first
   |(refine ng rfl (.tmp 8) rfl _ rfl _ 226 aO hs ?_)
   |(go_at_call 182;refine(B0 _ hs _).mono ?_;rintro e w3 ⟨rfl,hb3⟩))
  have hown3:=hown.below hb3;have hb4:=hb2.trans (hb3.mono hz2)
  have hz3:w1.heap.size+1≤w3.heap.size:=by have := hb3.size;omega
  have hbw:Below w.heap.size w (w1.alloc (.cells (row (C3.state key ctr nonce)) 226)):=hb1.alloc hb1.size _
  have hsz1:w.heap.size≤w1.heap.size+1:=by have := hb1.size;omega
  clear aO hown hb2 hb3 hz2
  go_loopw [26,10] (fun i v wr=>∃k:Nat,k≤16∧i = .int .i64 k∧cR wr (w1.heap.size+1) v (C3.blockTo (C3.state key ctr nonce) (C3.rounds (C3.state key ctr nonce) 10) k)∧Below (w1.heap.size+1) (w1.alloc (.cells (row (C3.state key ctr nonce)) 226)) wr) (fun i _ _=>16-(intOf i).toNat)
  case atStart=>exact⟨0,by omega,rfl,by rw[qb];exact hown3,hb4⟩
  case round =>
   clear hown3 hb4 hz3;obtain⟨k,hk16,rfl,ho,hb⟩:=hrel
   by_cases hlt:k<16
   ·have hz:w1.heap.size+1≤wr.heap.size:=by have := hb.size;simpa using this
    have aO:wr.cell? ⟨w1.heap.size,k,none⟩=some (.int .u32 (W32 (w16 (C3.state key ctr nonce) k))):=by
     rw[hb.cell (p:=⟨w1.heap.size,k,none⟩) (by show w1.heap.size<_;omega),cell_of_row _ _ _ _ _ _ (heap_alloc_new _ _),l6 _ _ (by rw[hs];omega)]
    have hl4:=C3.length_blockTo (C3.state key ctr nonce) (C3.rounds (C3.state key ctr nonce) 10) k;have hix:=Oo (C3.rounds (C3.state key ctr nonce) 10) hr k hlt;have HL:=O hl4;clear hl4
    go_wp2_with (go_at_call 183;refine(Wy _ _ _ _ _ ho (by rw[HL.out];omega) hz).mono ?_;rintro e w4 ⟨v',rfl,ho',hb'⟩)
    go_roundw
    case rel=>exact⟨k+1,by omega,by go_num,by rw[p9];exact ho',hb.trans hb'⟩
    case measure=>simp[intOf];omega
   ·have he:k=16:=by omega
    have HE:=O he;clear he;have hcv:=qg ho;go_wp2
    go_ret2
    exact⟨by rw[HE.out];rfl,hbw.trans (hb.mono hsz1)⟩
end
section
open Go.RowKit
def gZ (w:World) (g:Nat) (l:List UInt8):Prop:=∃cur:Array Value,w.heap[g]?=some (.cells cur 5 (cur.size,cur.size+1))∧l.length≤cur.size∧cur.toList.take l.length=bv l
theorem gZ.at {w:World} {g:Nat} {l:List UInt8} (h:gZ w g l) (k:Nat) (hk:k<l.length):w.cell? ⟨g,k,none⟩=some (.int .u8 (B8 (byteAt l k))):=by
 obtain⟨cur,h1,h2,h3⟩:=h;rw[cell_of_row _ _ _ _ _ _ h1]
 have e:(cur.toList.take l.length)[k]? = (bv l)[k]? := by rw[h3]
 rw[List.getElem?_take,if_pos hk,Array.getElem?_toList] at e;rw[e]
 simp[bv,byteAt,List.getD_eq_getElem?_getD,List.getElem?_eq_getElem hk]
theorem gZ.free {w:World} {g:Nat} {l:List UInt8} (h:gZ w g l) (k:Nat) (hk:k<l.length):w.frozen? ⟨g,k,none⟩=false:=by
 obtain⟨cur,h1,h2,h3⟩:=h
 simp[World.frozen?,h1]
 omega
theorem gZ.set {w:World} {g:Nat} {l:List UInt8} (h:gZ w g l) (k:Nat) (hk:k<l.length) (x:UInt8):gZ (w.setCell ⟨g,k,none⟩ (.int .u8 (B8 x))) g (l.set k x):=by
 obtain⟨cur,h1,h2,h3⟩:=h;refine⟨cur.setIfInBounds k (.int .u8 (B8 x)),?_,by simpa using h2,?_⟩
 ·rw[setCell_row _ _ _ _ _ _ _ h1,setRow_heap _ _ _ _ _ _ h1,Array.size_setIfInBounds]
 ·rw[Array.toList_setIfInBounds,List.length_set,List.take_set,h3]
  simp[bv,List.map_set]
theorem gZ.keep {w w':World} {g:Nat} {l:List UInt8} (h:gZ w g l) (hb:w'.heap[g]? = w.heap[g]?):gZ w' g l:=by
 obtain⟨cur,h1,h2,h3⟩:=h;exact⟨cur,by rw[hb];exact h1,h2,h3⟩
theorem gZ.conv {w:World} {g:Nat} {l:List UInt8} (h:gZ w g l) (cap:Nat):(convert 80 9 (.slice (some ⟨g,0,none⟩) l.length cap)).run Tryz.prog w = .ok (.string ⟨l.toArray⟩) w:=by
 rw[←ny l];refine run_convert_bytes_arg w _ _ Tryz.underlying80 Tryz.underlying5 g 0 _ _ _ (by simp) (fun i hi => ?_) _ Tryz.underlying9;rw[Nat.zero_add,h.at i hi]
 simp[byteAt,List.getD_eq_getElem?_getD,List.getElem?_eq_getElem hi]
theorem Mg (w:World) (l:List UInt8):gZ (Lib.bytesWorld w 5 ⟨l.toArray⟩) w.heap.size l:=by
 refine⟨_,Lib.bytesWorld_at_new w _ _,?_,?_⟩
 ·simp[Lib.bytesCells]
 ·simp only[Lib.bytesCells,Array.toList_append]
  rw[List.take_append_of_le_length (by simp),List.take_of_length_le (by simp)]
  simp[bv,B8]
theorem DM (w:World) (l:List UInt8):Below w.heap.size w (Lib.bytesWorld w 5 ⟨l.toArray⟩) :=
 ⟨rfl,rfl,rfl,by rw[Lib.bytesWorld_size];omega,fun k hk=>Lib.bytesWorld_at_old _ _ _ _ hk⟩
theorem Ji (w:World) (l:List UInt8):(convert 9 80 (.string ⟨l.toArray⟩)).run Tryz.prog w = .ok (.slice (some ⟨w.heap.size,0,none⟩) l.length (grownCap w l.length 0 5)) (Lib.bytesWorld w 5 ⟨l.toArray⟩) :=
 Lib.run_convert_string_bytes w _ _ _ _ Tryz.underlying9 Tryz.underlying80 Tryz.underlying5
attribute [local irreducible] C3.block C3.mid C3.xorAt
theorem Xq (key nonce text:List UInt8) (ctr:UInt32) (hk:key.length=32) (hn:nonce.length=12) (ht:text.length≤2000000) (w:World) :
  Calls Tryz.prog 122 #[.string ⟨key.toArray⟩,.int .u32 (W32 ctr),.string ⟨nonce.toArray⟩,.string ⟨text.toArray⟩] w fun e w'=>e = .returned (.tuple #[.string ⟨(C3.xorText key ctr nonce text).toArray⟩,.int .i64 0])∧Below w.heap.size w w':=by
 have hs:=C3.length_state key ctr nonce
 go_enter Tryz.func122,Tryz.ntmps122
 go_wp2_with (first
  |(go_at_call 168;refine(FA key nonce ctr hk hn _).mono ?_;rintro e w1 ⟨rfl,hb1⟩;have hcs:=Ji (w1.alloc (.cells (row (C3.state key ctr nonce)) 226)) text)
  |(refine gN rfl (.tmp 10) (.tmp 20) rfl _ _ rfl rfl 226 _ (heap_alloc_new _ _) rfl hs ?_))
 have hW2:(w1.alloc (.cells (row (C3.state key ctr nonce)) 226)).heap.size=w1.heap.size+1:=by simp
 have hT0:=Mg (w1.alloc (.cells (row (C3.state key ctr nonce)) 226)) text;have hB0:=DM (w1.alloc (.cells (row (C3.state key ctr nonce)) 226)) text;have hbw:Below w.heap.size w (w1.alloc (.cells (row (C3.state key ctr nonce)) 226)):=hb1.alloc hb1.size _
 have hsz1:w.heap.size≤w1.heap.size+1:=by have := hb1.size;omega
 rw[hW2] at hT0 hB0;clear hcs hW2 hs
 go_loopw [29,13,1] (fun i b c wr=>∃(k:Nat) (bl:List UInt8),k≤text.length∧i = .int .i64 k∧b = .string ⟨bl.toArray⟩∧(k % 64≠0→bl=C3.block key (ctr+UInt32.ofNat (k / 64)) nonce)∧c = .int .u32 (W32 (ctr+UInt32.ofNat ((k+63) / 64)))∧gZ wr (w1.heap.size+1) (C3.mid key ctr nonce text k)∧Below (w1.heap.size+1) (w1.alloc (.cells (row (C3.state key ctr nonce)) 226)) wr) (fun i _ _ _=>text.length-(intOf i).toNat)
 case atStart=>exact⟨0,[],by omega,rfl,rfl,fun h=>absurd rfl h,by rw[show ctr+UInt32.ofNat ((0+63) / 64)=ctr by simp],by rw[C3.mid_zero];exact hT0,hB0⟩
 case round =>
  clear hT0 hB0;obtain⟨k,bl,hkl,rfl,rfl,hbl,rfl,hT,hb⟩:=hrel
  by_cases hlt:k<text.length
  ·have hg:w1.heap.size+1<wr.heap.size:=by
    obtain⟨cur,h1,_⟩:=hT;exact(Array.getElem?_eq_some_iff.1 h1).1
   have hml:k<(C3.mid key ctr nonce text k).length:=by rw[C3.length_mid _ _ _ _ _ hkl];exact hlt
   have hma:=C3.mid_at key ctr nonce text k hlt;have hps:=C3.pre_set key ctr nonce text k hlt;have hxd:=C3.xorAt_def key ctr nonce text k
   by_cases hm:k % 64=0
   ·have hmb:(((k:Int) % 64) == 0)=true:=by rw[beq_iff_eq];omega
    have e1:(k+63) / 64=k / 64:=by omega
    have e2:(k+1+63) / 64=k / 64+1:=by omega
    have e3:(k+1) % 64≠0→(k+1) / 64=k / 64:=fun _=>by omega
    rw[e1];have hB:=C3.length_block key (ctr+UInt32.ofNat (k / 64)) nonce;have hcall:=NJ key nonce (ctr+UInt32.ofNat (k / 64)) hk hn;generalize hBq:C3.block key (ctr+UInt32.ofNat (k / 64)) nonce=blk at hB hcall hxd;have HB:=O hBq;have HX:=O hxd;have HM:=O hma;have HP:=O hps;have HC:=O hcall;have HBL:=O hbl;have H2:=O e2;have H3:=O e3
    have hib:((k:Int) % 64)<64:=by omega
    have hin:k % 64<64:=by omega
    clear hBq hxd hma hps hcall hbl e1 e2 e3
    go_wp2_with (go_at_call 169;refine(HC.out _).mono ?_;rintro e w4 ⟨rfl,hb4⟩;have hT4:=hT.keep (hb4.block _ hg);have hc:=hT4.at k hml;have hf:=hT4.free k hml;rw[show byteAt (C3.mid key ctr nonce text k) k=byteAt text k from HM.out] at hc)
    first |refine dD 10 (by kernel_rfl) (by kernel_rfl) ?_|refine dJ 10 (by kernel_rfl) (by kernel_rfl) ?_
    simp only[List.take_succ_cons,List.take_zero,List.drop_succ_cons,List.drop_zero]
    repeat (go_big_quiet_step (fail))
    refine wpQuiet_nil ?_;rintro _ ⟨nq,rfl⟩;go_wp2;go_roundw
    case rel =>
     refine⟨k+1,blk,by omega,by go_num,rfl,fun h => ?_,?_,?_,?_⟩
     ·rw[H3.out h];exact HB.out.symm
     ·rw[H2.out,C3.ctr_succ]
     ·rw[←HP.out,HX.out,hm];exact(hT4.set k hml _).keep rfl
     ·exact ak _ ((hb.trans (hb4.mono (by omega))).setCell (Nat.le_refl _) _)
    case measure=>simp[intOf];omega
   ·have hmb:(((k:Int) % 64) == 0)=false:=by rw[beq_eq_false_iff_ne];omega
    have e1:(k+63) / 64=k / 64+1:=by omega
    have e2:(k+1+63) / 64=k / 64+1:=by omega
    have e3:(k+1) % 64≠0→(k+1) / 64=k / 64:=fun _=>by omega
    rw[e1];have hB:=C3.length_block key (ctr+UInt32.ofNat (k / 64)) nonce;rw[←hbl hm] at hB hxd;have hbl2:=hbl hm;have HB:=O hbl2;have HX:=O hxd;have HP:=O hps;have H2:=O e2;have H3:=O e3
    have hib:((k:Int) % 64)<64:=by omega
    have hin:k % 64<64:=by omega
    have hc:=hT.at k hml;have hf:=hT.free k hml;rw[show byteAt (C3.mid key ctr nonce text k) k=byteAt text k from hma] at hc;clear hxd hma hps hbl e1 e2 e3 hbl2;go_wp2
    first |refine dD 10 (by kernel_rfl) (by kernel_rfl) ?_|refine dJ 10 (by kernel_rfl) (by kernel_rfl) ?_
    simp only[List.take_succ_cons,List.take_zero,List.drop_succ_cons,List.drop_zero]
    repeat (go_big_quiet_step (fail))
    refine wpQuiet_nil ?_;rintro _ ⟨nq,rfl⟩;go_wp2;go_roundw
    case rel =>
     refine⟨k+1,bl,by omega,by go_num,rfl,fun h => ?_,?_,?_,?_⟩
     ·rw[H3.out h];exact HB.out
     ·rw[H2.out]
     ·rw[←HP.out,HX.out];exact(hT.set k hml _).keep rfl
     ·exact ak _ (hb.setCell (Nat.le_refl _) _)
    case measure=>simp[intOf];omega
  ·have he:k=text.length:=by omega
   have hlm:=C3.length_mid key ctr nonce text k hkl;have hcv:=hT.conv (grownCap (w1.alloc (.cells (row (C3.state key ctr nonce)) 226)) text.length 0 5);rw[hlm] at hcv;have HE:=O he;clear he hlm;go_wp2
   go_ret2
   refine⟨?_,hbw.trans (hb.mono hsz1)⟩;rw[←C3.mid_all,←HE.out]
   rfl
end
section
open Go.RowKit Go.Shelf
def am (d:List UInt8):Array Value := #[aq d 0,aq d 1,aq d 2,aq d 3,aq d 4,aq d 5,aq d 6,aq d 7,aq d 8,aq d 9,aq d 10,aq d 11,aq d 12,aq d 13,aq d 14,aq d 15]
def dEq (x y:List UInt8):Bool:=(List.range 16).all fun i=>byteAt x i == byteAt y i
theorem K1 (d:List UInt8) (i:Nat) (hi:i<16) (w:World):(part 5 (am d) (i*1)).run Tryz.prog w = .ok (aq d i) w:=by
 have e:am d=((List.range 16).map (aq d)).toArray:=rfl
 have h:(am d)[i]?=some (aq d i):=by rw[e];simp[hi]
 rw[Nat.mul_one]
 simp[part,go_sem,h]
theorem YB (d:Nat) (x y:List UInt8) (w:World):∀(is:List Nat),(∀i∈is,i<16)→(Op.eqItems (d+1) 5 1 (am x) (am y) is).run Tryz.prog w = .ok (is.all fun i=>byteAt x i == byteAt y i) w:=by
 intro is
 induction is with
 | nil=>intro _;rfl
 | cons i is ih =>
   intro h;have h1:=K1 x i (h i (by simp)) w;have h2:=K1 y i (h i (by simp)) w;have h3:(Op.equalIn (d+1) 5 (aq x i) (aq y i)).run Tryz.prog w = .ok (B8 (byteAt x i) == B8 (byteAt y i)) w:=run_equalIn_int w d _ _ _ _ _ Tryz.underlying5
   have h4:(B8 (byteAt x i) == B8 (byteAt y i))=(byteAt x i == byteAt y i):=by
    by_cases e:byteAt x i=byteAt y i
    ·rw[e];simp
    ·rw[beq_eq_false_iff_ne.2 e,beq_eq_false_iff_ne]
     exact fun e2=>e (pJ e2)
   simp only[Op.eqItems,Sem.run_bind,h1,h2,h3,Result.andThen_ok,h4,List.all_cons]
   cases byteAt x i == byteAt y i with
   | true=>simpa using ih (fun j hj=>h j (by simp[hj]))
   | false=>rfl
theorem nL (d:Nat) (x y:List UInt8) (w:World):(Op.equalIn (d+2) 23 (.agg (am x)) (.agg (am y))).run Tryz.prog w = .ok (dEq x y) w:=by
 obtain⟨i0,hi⟩:∃i,Tryz.prog.info? 5=some i:=Option.isSome_iff_exists.1 (by kernel_rfl);rw[show d+2=(d+1)+1 from rfl,run_equalIn_array w (d+1) (am x) (am y) Tryz.underlying23 hi]
 have hc:Tryz.prog.cellsOf 5=1:=by kernel_rfl
 rw[hc];exact YB d x y w (List.range 16) (fun i hi=>List.mem_range.1 hi)
theorem sO (x y:List UInt8) (w:World):(binOp .neq 23 (.agg (am x)) (.agg (am y))).run Tryz.prog w = .ok (.bool (!dEq x y)) w:=by
 rw[run_neq_struct];rw[show (10000:Nat)=9998+2 from rfl,nL 9998 x y]
 rfl
open Go.RowKit Go.Shelf
theorem dU:(Tryz.prog.info? 47).map (·.size)=some 38:=by kernel_rfl
theorem cC:(Tryz.prog.info? 23).map (·.size)=some 16:=by kernel_rfl
theorem cH {ops:Array Oper} {rest:List Oper} {o:Oper} {a:Act} {w:World} {Q:Exit→Act→World→Prop} (b:BK) (u:Value)
  (hgd:Region.wanted o (yielded ops a.tmps)=true) (x:Operand) (ho:o.op = .load 47 x)
  (g:Nat) (hx:a.eval x = .pointer (some ⟨g,0,none⟩)) (T':TypeId) (hg:w.heap[g]?=some (.cells (bc b u) T' (0,0)))
  (h:wpList Tryz.prog ops Q rest (a.put o.dst (.agg (bc b u))) w):wpList Tryz.prog ops Q (o::rest) a w :=
 wpList_step fun K hK=>by
  rw[if_pos hgd];exact wp_load_row _ x ho g hx _ (bc b u) (0,0) _ hg Tryz.underlying47 rfl (by rw[aC];exact dU) (hK _ _ h)
theorem Dh {ops:Array Oper} {rest:List Oper} {o:Oper} {a:Act} {w:World} {Q:Exit→Act→World→Prop} (d:List UInt8) (g off:Nat) (hc:w.rangeAt g off (am d).toList)
  (hgd:Region.wanted o (yielded ops a.tmps)=true) (x:Operand) (ho:o.op = .load 23 x) (hx:a.eval x = .pointer (some ⟨g,off,none⟩))
  (h:wpList Tryz.prog ops Q rest (a.put o.dst (.agg (am d))) w):wpList Tryz.prog ops Q (o::rest) a w :=
 wpList_step fun K hK=>by
  rw[if_pos hgd];exact wp_load_mid _ x ho g off hx (am d).toList _ hc Tryz.underlying23 rfl cC (hK _ _ h)
attribute [local semireducible] bc
attribute [local irreducible] bc am Calls aI dEq
end
section
open Go.RowKit Go.Shelf
def dV:List K→List Value
 | []=>[]
 | k::l=>(kc k).toList++dV l
theorem mZ (k:K):(kc k).toList.length=9:=rfl
theorem k8 (l:List K):(dV l).length=l.length*9:=by
 induction l with
 | nil=>rfl
 | cons k l ih=>rw[dV,List.length_append,mZ,ih,List.length_cons];omega
theorem lS (l m:List K):dV (l++m)=dV l++dV m:=by
 induction l with
 | nil=>rfl
 | cons k l ih=>rw[List.cons_append,dV,dV,ih,List.append_assoc]
theorem vf (l:List K) (j i:Nat) (hj:j<l.length) (hi:i<9):(dV l)[j*9+i]? = (kc (ae l j))[i]? := by
 induction l generalizing j with
 | nil=>simp at hj
 | cons k l ih =>
   cases j with
   | zero =>
     rw[dV,Nat.zero_mul,Nat.zero_add,List.getElem?_append_left (by rw[mZ];exact hi),Array.getElem?_toList]
     rfl
   | succ j =>
     have hj':j<l.length:=by simpa using hj
     rw[dV,List.getElem?_append_right (by rw[mZ];omega),mZ,show (j+1)*9+i-9=j*9+i by omega,ih j hj'];rw[az _ _ hj',az _ _ hj]
     rfl
theorem rH (l:List K):∀u∈dV l,u.oneCell'=true:=by
 induction l with
 | nil=>intro u hu;simp[dV] at hu
 | cons k l ih =>
   intro u hu;rw[dV,List.mem_append] at hu
   rcases hu with hu|hu
   ·simp[kc] at hu
    rcases hu with rfl|rfl|rfl|rfl|rfl|rfl|rfl|rfl|rfl <;> rfl
   ·exact ih u hu
theorem RdK.flat {w:World} {a:Option Addr} {n cap:Nat} {l:List K} (h:RdK w (.slice a n cap) l):∀b,a=some b→∀j u,(dV l)[j]?=some u→w.cell? (b.add j)=some u:=by
 obtain⟨a',c',e,_,_,h3⟩:=h
 cases e
 intro b hb j u hu
 have hj:j<l.length*9:=by
  have := (List.getElem?_eq_some_iff.1 hu).1
  rwa [k8] at this
 obtain⟨b0,off,e,_,hc⟩:=h3 (by omega);rw[hb] at e
 cases e
 have gX:(⟨b0,off,none⟩:Addr).add j=⟨b0,off+j,none⟩:=by unfold Addr.add;split <;> simp_all
 have e2:j=(j / 9)*9+j % 9:=by omega
 rw[gX];have := hc (j / 9) (by omega) (j % 9) (by omega);rw[show off+j / 9*9+j % 9=off+j by omega,←vf l (j / 9) (j % 9) (by omega) (by omega),←e2,hu] at this;exact this
theorem O6 {w:World} {ai:Nat} {v:Value} {l:List K} {n:Nat} (hn:n=l.length) (h:w.ownsRow ai 86 9 v n (dV l)):RdK w v l:=by
 subst hn
 rcases h.2 with⟨rfl,h0⟩|⟨g,cap,cur,rfl,hb,hg,h1,h2,h3,h4⟩
 ·have : l=[]:=List.length_eq_zero_iff.1 h0
  subst this;exact RdK.nil w
 ·refine⟨_,cap,rfl,h1,h2,fun h0=>⟨g,0,rfl,(Array.getElem?_eq_some_iff.1 hg).1,fun j hj i hi => ?_⟩⟩
  rw[Nat.zero_add,cell_of_row _ _ _ _ _ _ hg,←vf l j i hj hi,←h4,List.getElem?_take,if_pos (by omega),Array.getElem?_toList]
theorem RZ (a:Option Addr) (n cap:Nat) (w:World) (h1:n≤cap) (h2:cap≤maxLen):Calls Tryz.prog 105 #[.slice a n cap] w fun e w'=>e = .returned (.slice a n n)∧w'=w:=by
 unfold maxLen at h2
 have i1:(n:Int)≤cap:=by omega
 have i2:(0:Int)≤n:=by omega
 go_enter Tryz.func105,Tryz.ntmps105
 go_wp2;go_ret;exact⟨rfl,rfl⟩
end
section
namespace F6
abbrev B:=UInt8
def bit (b:B) (i:Nat):Bool:=b.toNat.testBit i
theorem Ed (a b:B) (i:Nat):bit (a ^^^ b) i=(bit a i != bit b i):=by
 simp only[bit,UInt8.toNat_xor,Nat.testBit_xor]
def xt (a:B):B:=(a <<< 1) ^^^ (if bit a 7 then 0x1d else 0)
def xts (a:B):Nat→B
 | 0=>a
 | n+1=>xt (xts a n)
def cY (a b:B):Nat→B
 | 0=>0
 | n+1=>cY a b n ^^^ (if bit b n then xts a n else 0)
def mul (a b:B):B:=cY a b 8
theorem xor_assoc (a b c:B):a ^^^ b ^^^ c=a ^^^ (b ^^^ c):=UInt8.xor_assoc a b c
theorem xor_comm (a b:B):a ^^^ b=b ^^^ a:=UInt8.xor_comm a b
theorem fy (a b c:B):a ^^^ (b ^^^ c)=b ^^^ (a ^^^ c):=by rw[←xor_assoc,xor_comm a b,xor_assoc]
theorem xor_self (a:B):a ^^^ a=0:=UInt8.xor_self
theorem xor_zero (a:B):a ^^^ 0=a:=UInt8.xor_zero
theorem zero_xor (a:B):0 ^^^ a=a:=UInt8.zero_xor
theorem nC {a b:B} (h:a ^^^ b=0):a=b:=by
 have : a ^^^ b ^^^ b=b:=by rw[h,zero_xor]
 rwa [xor_assoc,xor_self,xor_zero] at this
def Add (f:B→B):Prop:=∀a b,f (a ^^^ b)=f a ^^^ f b
theorem Add.zero {f:B→B} (h:Add f):f 0=0:=by
 have := h 0 0;rw[xor_self] at this;rw[this,xor_self]
theorem Add.ite {f:B→B} (h:Add f) (c:Bool) (e:B):f (if c then e else 0)=if c then f e else 0:=by cases c <;> simp[h.zero]
def ai (a:B):B :=
 (if bit a 0 then 1 else 0) ^^^ (if bit a 1 then 2 else 0) ^^^ (if bit a 2 then 4 else 0) ^^^ (if bit a 3 then 8 else 0) ^^^
 (if bit a 4 then 16 else 0) ^^^ (if bit a 5 then 32 else 0) ^^^ (if bit a 6 then 64 else 0) ^^^ (if bit a 7 then 128 else 0)
theorem ru {p:B→Prop} [∀a,Decidable (p a)] (h:(List.range 256).all (fun n=>decide (p (UInt8.ofNat n)))=true) (a:B):p a:=by
 have := List.all_eq_true.1 h a.toNat (by have := a.toNat_lt;simpa using this)
 simpa using this
theorem Nw (a:B):ai a=a:=ru (p:=fun a=>ai a=a) (by decide +kernel) a
theorem Add.ext {f g:B→B} (hf:Add f) (hg:Add g) (h0:f 1=g 1) (h1:f 2=g 2) (h2:f 4=g 4) (h3:f 8=g 8) (h4:f 16=g 16)
  (h5:f 32=g 32) (h6:f 64=g 64) (h7:f 128=g 128) (a:B):f a=g a:=by
 rw[←Nw a];unfold ai;simp only[hf _ _,hg _ _,hf.ite,hg.ite,h0,h1,h2,h3,h4,h5,h6,h7]
def wQ:List B:=[1,2,4,8,16,32,64,128]
theorem Add.ext' {f g:B→B} (hf:Add f) (hg:Add g) (h:∀e∈wQ,f e=g e) (a:B):f a=g a :=
 Add.ext hf hg (h _ (by decide)) (h _ (by decide)) (h _ (by decide)) (h _ (by decide)) (h _ (by decide)) (h _ (by decide)) (h _ (by decide)) (h _ (by decide)) a
theorem PF (a b:B):(a ^^^ b) <<< 1=a <<< 1 ^^^ b <<< 1:=by
 apply UInt8.toBitVec_inj.1
 simp[BitVec.shiftLeft_xor_distrib]
theorem T6:Add xt:=by
 intro a b;unfold xt;rw[PF,Ed]
 cases bit a 7 <;> cases bit b 7 <;> simp[xor_assoc,xor_comm,fy,xor_self,xor_zero,zero_xor]
theorem Qk (n:Nat):Add (fun a=>xts a n):=by
 induction n with
 | zero=>intro a b;rfl
 | succ n ih=>intro a b;show xt (xts (a ^^^ b) n)=_;rw[show xts (a ^^^ b) n=xts a n ^^^ xts b n from ih a b,T6];rfl
theorem Dl (b:B) (n:Nat):Add (fun a=>cY a b n):=by
 induction n with
 | zero=>intro a c;simp[cY,xor_self]
 | succ n ih =>
   intro a c
   show cY (a ^^^ c) b n ^^^ (if bit b n then xts (a ^^^ c) n else 0)=(cY a b n ^^^ (if bit b n then xts a n else 0)) ^^^ (cY c b n ^^^ (if bit b n then xts c n else 0))
   rw[show cY (a ^^^ c) b n=cY a b n ^^^ cY c b n from ih a c,show xts (a ^^^ c) n=xts a n ^^^ xts c n from Qk n a c]
   cases bit b n <;> simp[xor_assoc,fy,xor_zero]
theorem Bv (a:B) (n:Nat):Add (fun b=>cY a b n):=by
 induction n with
 | zero=>intro a c;simp[cY,xor_self]
 | succ n ih =>
   intro b c
   show cY a (b ^^^ c) n ^^^ (if bit (b ^^^ c) n then xts a n else 0)=(cY a b n ^^^ (if bit b n then xts a n else 0)) ^^^ (cY a c n ^^^ (if bit c n then xts a n else 0))
   rw[show cY a (b ^^^ c) n=cY a b n ^^^ cY a c n from ih b c,Ed]
   cases bit b n <;> cases bit c n <;> simp[xor_assoc,fy,xor_comm,xor_zero,zero_xor,xor_self]
theorem ik (a b c:B):mul (a ^^^ b) c=mul a c ^^^ mul b c:=Dl c 8 a b
theorem fx (a b c:B):mul a (b ^^^ c)=mul a b ^^^ mul a c:=Bv a 8 b c
theorem mul_zero (a:B):mul a 0=0:=(show Add (mul a) from fx a).zero
theorem zero_mul (a:B):mul 0 a=0:=(show Add (fun b=>mul b a) from fun b c=>ik b c a).zero
theorem pR {f g:B→B} (hf:Add f) (hg:Add g):Add (fun a=>f (g a)):=fun a b=>by show f (g (a ^^^ b))=_;rw[hg,hf]
theorem ud (c:B):Add (fun a=>mul a c):=fun a b=>ik a b c
theorem pS (c:B):Add (mul c):=fx c
theorem CJ:∀a∈wQ,∀b∈wQ,mul a b=mul b a:=by decide +kernel
theorem mul_comm (a b:B):mul a b=mul b a :=
 Add.ext' (f:=fun a=>mul a b) (g:=mul b) (ud b) (pS b) (fun e he=>Add.ext' (f:=mul e) (g:=fun b=>mul b e) (pS e) (ud e) (fun k hk=>CJ e he k hk) b) a
theorem Am:∀a∈wQ,∀b∈wQ,∀c∈wQ,mul (mul a b) c=mul a (mul b c):=by decide +kernel
theorem dS (a b c:B):mul (mul a b) c=mul a (mul b c) :=
 Add.ext' (f:=fun a=>mul (mul a b) c) (g:=fun a=>mul a (mul b c)) (pR (ud c) (ud b)) (ud _)
  (fun x hx=>Add.ext' (f:=fun b=>mul (mul x b) c) (g:=fun b=>mul x (mul b c)) (pR (ud c) (pS x)) (pR (pS x) (ud c))
   (fun y hy=>Add.ext' (f:=fun c=>mul (mul x y) c) (g:=fun c=>mul x (mul y c)) (pS _) (pR (pS x) (pS y)) (fun z hz=>Am x hx y hy z hz) c) b) a
theorem mul_one (a:B):mul a 1=a:=ru (p:=fun a=>mul a 1=a) (by decide +kernel) a
theorem one_mul (a:B):mul 1 a=a:=by rw[mul_comm,mul_one]
def sq (a:B):Nat→B
 | 0=>a
 | n+1=>mul (sq a n) (sq a n)
def sqp (a:B):Nat→B
 | 0=>1
 | n+1=>mul (sqp a n) (sq a (n+1))
def ku (a:B):B:=sqp a 7
theorem kz (a:B) (h:a≠0):mul a (ku a)=1 :=
 ru (p:=fun a=>a≠0→mul a (ku a)=1) (by decide +kernel) a h
def div (a b:B):B:=mul a (ku b)
theorem OJ (a b:B) (h:b≠0):div (mul a b) b=a:=by rw[div,dS,kz b h,mul_one]
theorem sM {a b:B} (h:mul a b=0):a=0∨b=0:=by
 by_cases hb:b=0
 ·exact .inr hb
 ·left;have := OJ a b hb;rw[h,div,zero_mul] at this;exact this.symm
theorem Bw {a b:B} (ha:a≠0) (hb:b≠0):mul a b≠0:=fun h=>(sM h).elim ha hb
theorem M2 (a:B):div 0 a=0:=by rw[div,zero_mul]
end F6
end
section
namespace F6
def ev:List B→B→B
 | [],_=>0
 | c::p,x=>c ^^^ mul x (ev p x)
def pr (l:List B) (x:B):B:=l.foldl (fun p y=>mul p (x ^^^ y)) 1
def prr:List B→B→B
 | [],_=>1
 | y::l,x=>mul (x ^^^ y) (prr l x)
theorem Pe (l:List B) (x a:B):l.foldl (fun p y=>mul p (x ^^^ y)) a=mul a (prr l x):=by
 induction l generalizing a with
 | nil=>simp[prr,mul_one]
 | cons y l ih=>rw[List.foldl_cons,ih,prr,dS]
theorem Fd (l:List B) (x:B):pr l x=prr l x:=by rw[pr,Pe,one_mul]
theorem BO {l:List B} {x:B} (h:x∈l):prr l x=0:=by
 induction l with
 | nil=>cases h
 | cons y l ih =>
   rcases List.mem_cons.1 h with rfl|h
   ·simp[prr,xor_self,zero_mul]
   ·simp[prr,ih h,mul_zero]
theorem zp {l:List B} {x:B} (h:x ∉ l):prr l x≠0:=by
 induction l with
 | nil=>simp[prr]
 | cons y l ih =>
   simp only[List.mem_cons,not_or] at h;exact Bw (fun e=>h.1 (nC e)) (ih h.2)
def wt (xs:List B) (x:B) (i:Nat):B:=div (pr (xs.eraseIdx i) x) (pr (xs.eraseIdx i) (xs.getD i 0))
def ms (l:List B):B:=l.foldr (· ^^^ ·) 0
theorem kM (l m:List B):ms (l++m)=ms l ^^^ ms m:=by
 induction l with
 | nil=>simp[ms,zero_xor]
 | cons a l ih=>simp only[ms,List.cons_append,List.foldr_cons] at *;rw[ih,xor_assoc]
def interp (xs ys:List B) (x:B):B:=ms ((List.range xs.length).map fun i=>mul (wt xs x i) (ys.getD i 0))
theorem rJ {xs:List B} (hn:xs.Nodup) {i j:Nat} (hi:i<xs.length) (hj:j<xs.length) (h:xs[i]=xs[j]):i=j:=by
 have key:=List.pairwise_iff_getElem.1 hn
 rcases Nat.lt_trichotomy i j with hl|hl|hl
 ·exact absurd h (key i j hi hj hl)
 ·exact hl
 ·exact absurd h.symm (key j i hj hi hl)
theorem pz (xs:List B) (i j:Nat) (hj:j<xs.length) (h:i≠j):xs.getD j 0∈xs.eraseIdx i:=by
 rw[List.mem_eraseIdx_iff_getElem];exact⟨j,hj,fun e=>h e.symm,by simp[List.getD_eq_getElem?_getD,hj]⟩
theorem lj (xs:List B) (hn:xs.Nodup) (i:Nat) (hi:i<xs.length):xs.getD i 0 ∉ xs.eraseIdx i:=by
 rw[List.mem_eraseIdx_iff_getElem];rintro⟨j,hj,hne,he⟩
 have e2:xs[j]=xs[i]:=by rw[he];simp[List.getD_eq_getElem?_getD,hi]
 exact hne (rJ hn hj hi e2)
theorem Qf (xs:List B) (hn:xs.Nodup) (i:Nat) (hi:i<xs.length):wt xs (xs.getD i 0) i=1:=by
 rw[wt,Fd,div,kz _ (zp (lj xs hn i hi))]
theorem MD (xs:List B) (i j:Nat) (hj:j<xs.length) (h:i≠j):wt xs (xs.getD j 0) i=0:=by
 rw[wt,Fd _ (xs.getD j 0),BO (pz xs i j hj h),M2]
theorem DW (n:Nat) (f:Nat→B) (j:Nat) (hj:j<n) (h:∀i,i<n→i≠j→f i=0):ms ((List.range n).map f)=f j:=by
 induction n with
 | zero=>omega
 | succ n ih =>
   rw[List.range_succ,List.map_append,kM]
   by_cases e:j=n
   ·subst e
    have : ms ((List.range j).map f)=0:=by
     have : ∀m,m≤j→ms ((List.range m).map f)=0:=by
      intro m
      induction m with
      | zero=>intro _;rfl
      | succ m ihm=>intro hm;rw[List.range_succ,List.map_append,kM,ihm (by omega)];simp[ms,h m (by omega) (by omega),xor_self]
     exact this j (Nat.le_refl _)
    rw[this];simp[ms,zero_xor,xor_zero]
   ·rw[ih (by omega) (fun i hi hne=>h i (by omega) hne)]
    simp[ms,h n (by omega) (fun e'=>e e'.symm),xor_zero]
theorem GN (xs ys:List B) (hn:xs.Nodup) (j:Nat) (hj:j<xs.length):interp xs ys (xs.getD j 0)=ys.getD j 0:=by
 rw[interp,DW _ _ j hj,Qf xs hn j hj,one_mul];intro i hi hne;rw[MD xs i j hj hne,zero_mul]
def dv:List B→B→List B
 | [],_=>[]
 | [_],_=>[]
 | _::d::p,a=>ev (d::p) a::dv (d::p) a
theorem GS (p:List B) (a:B):(dv p a).length=p.length-1:=by
 induction p with
 | nil=>rfl
 | cons c p ih =>
   cases p with
   | nil=>rfl
   | cons d p=>simp only[dv,List.length_cons] at *;omega
theorem oM (a b c:B):mul a (mul b c)=mul b (mul a c):=by rw[←dS,mul_comm a b,dS]
theorem VH (p:List B) (a x:B):ev p x ^^^ ev p a=mul (x ^^^ a) (ev (dv p a) x):=by
 induction p with
 | nil=>simp[ev,dv,mul_zero]
 | cons c p ih =>
   cases p with
   | nil=>simp[ev,dv,mul_zero,xor_self,xor_zero]
   | cons d p =>
     have e:mul x (ev (d::p) x) ^^^ mul a (ev (d::p) a)=mul x (ev (d::p) x ^^^ ev (d::p) a) ^^^ mul (x ^^^ a) (ev (d::p) a):=by
      rw[fx,ik];simp only[xor_assoc];rw[←xor_assoc (mul x (ev (d::p) a)) (mul x (ev (d::p) a)),xor_self,zero_xor]
     show (c ^^^ mul x (ev (d::p) x)) ^^^ (c ^^^ mul a (ev (d::p) a))=mul (x ^^^ a) (ev (d::p) a ^^^ mul x (ev (dv (d::p) a) x))
     have e0:(c ^^^ mul x (ev (d::p) x)) ^^^ (c ^^^ mul a (ev (d::p) a))=mul x (ev (d::p) x) ^^^ mul a (ev (d::p) a):=by
      simp only[xor_assoc,fy (mul x (ev (d::p) x))];rw[←xor_assoc,xor_self,zero_xor]
     rw[e0,e,ih,fx,oM x,xor_comm]
theorem DY (p:List B) (a:B) (h:∀c∈dv p a,c=0) (h0:ev p a=0):∀c∈p,c=0:=by
 induction p with
 | nil=>intro c hc;cases hc
 | cons c p ih =>
   cases p with
   | nil=>intro d hd;simp at hd;subst hd;simpa [ev,mul_zero,xor_zero] using h0
   | cons d p =>
     have h1:ev (d::p) a=0:=h _ (by simp[dv]);have h2:=ih (fun e he=>h e (by simp[dv,he])) h1
     have h3:c=0:=by
      have : c ^^^ mul a (ev (d::p) a)=0:=h0
      rwa [h1,mul_zero,xor_zero] at this
     intro e he
     rcases List.mem_cons.1 he with rfl|he
     ·exact h3
     ·exact h2 e he
theorem wK (rs:List B):∀(p:List B),rs.Nodup→p.length≤rs.length→(∀r∈rs,ev p r=0)→∀c∈p,c=0:=by
 induction rs with
 | nil=>intro p _ hl _ c hc;have : p=[]:=List.length_eq_zero_iff.1 (by simpa using hl);subst this;cases hc
 | cons r rs ih =>
   intro p hn hl hr;have hn':=List.nodup_cons.1 hn;refine DY p r (ih (dv p r) hn'.2 (by rw[GS];simp at hl;omega) (fun s hs => ?_)) (hr r (by simp));have e:=VH p r s;rw[hr s (by simp[hs]),hr r (by simp),xor_self] at e
   rcases sM e.symm with h|h
   ·exact absurd (nC h ▸ hs) hn'.1
   ·exact h
def mJ (p q:List B):List B:=List.zipWith (· ^^^ ·) p q
theorem tr (p q:List B) (h:p.length=q.length) (x:B):ev (mJ p q) x=ev p x ^^^ ev q x:=by
 induction p generalizing q with
 | nil => cases q with
   | nil=>simp[mJ,ev]
   | cons d q=>simp at h
 | cons c p ih =>
   cases q with
   | nil=>simp at h
   | cons d q =>
     have := ih q (by simpa using h);simp only[mJ,List.zipWith_cons_cons,ev] at *;rw[this,fx];simp only[xor_assoc,fy (mul x (ev p x))]
theorem CV (p q:List B) (h:p.length=q.length) (hz:∀c∈mJ p q,c=0):p=q:=by
 induction p generalizing q with
 | nil => cases q with
   | nil=>rfl
   | cons d q=>simp at h
 | cons c p ih =>
   cases q with
   | nil=>simp at h
   | cons d q =>
     simp only[mJ,List.zipWith_cons_cons,List.mem_cons,forall_eq_or_imp] at hz;rw[nC hz.1,ih q (by simpa using h) hz.2]
theorem TZ (xs p q:List B) (hn:xs.Nodup) (hp:p.length=xs.length) (hq:q.length=xs.length)
  (h:∀j,j<xs.length→ev p (xs.getD j 0)=ev q (xs.getD j 0)):p=q:=by
 refine CV p q (hp.trans hq.symm) (wK xs _ hn (by simp[mJ,hp,hq]) (fun r hr => ?_));obtain⟨j,hj,rfl⟩:=List.mem_iff_getElem.1 hr;have e:=h j hj;simp only[List.getD_eq_getElem?_getD,hj,List.getElem?_eq_getElem,Option.getD_some] at e;rw[tr _ _ (hp.trans hq.symm),e,xor_self]
def kH (p:List B) (a:B):List B:=mJ (0::p) (p.map (fun c=>mul c a)++[0])
theorem lV (p:List B) (a:B):(kH p a).length=p.length+1:=by simp[kH,mJ]
theorem uR (p:List B) (x:B):ev (p++[0]) x=ev p x:=by
 induction p with
 | nil=>simp[ev,mul_zero,xor_self]
 | cons c p ih=>simp[ev,ih]
theorem uS (p:List B) (f x:B):ev (p.map (fun c=>mul c f)) x=mul (ev p x) f:=by
 induction p with
 | nil=>simp[ev,zero_mul]
 | cons c p ih=>simp only[List.map_cons,ev];rw[ih,ik,dS]
theorem JF (p:List B) (a x:B):ev (kH p a) x=mul (x ^^^ a) (ev p x):=by
 rw[kH,tr _ _ (by simp),uR,uS,ik,mul_comm a]
 simp[ev,zero_xor]
def mk (l:List B):List B:=l.foldl kH [1]
theorem Br (l:List B) (p:List B):(l.foldl kH p).length=p.length+l.length:=by
 induction l generalizing p with
 | nil=>simp
 | cons a l ih=>rw[List.foldl_cons,ih,lV,List.length_cons];omega
theorem iL (l:List B):(mk l).length=l.length+1:=by rw[mk,Br];simp;omega
theorem N7 (l:List B) (p:List B) (x:B):ev (l.foldl kH p) x=mul (prr l x) (ev p x):=by
 induction l generalizing p with
 | nil=>simp[prr,one_mul]
 | cons a l ih=>rw[List.foldl_cons,ih,JF,prr,oM,dS]
theorem EC (l:List B) (x:B):ev (mk l) x=prr l x:=by
 rw[mk,N7];simp[ev,mul_zero,xor_zero,mul_one]
def lag (xs ys:List B):Nat→List B
 | 0=>List.replicate xs.length 0
 | k+1=>mJ (lag xs ys k) ((mk (xs.eraseIdx k)).map (fun c=>mul c (div (ys.getD k 0) (pr (xs.eraseIdx k) (xs.getD k 0)))))
def Gj (xs ys:List B):List B:=lag xs ys xs.length
theorem pw (xs ys:List B) (k:Nat) (hk:k≤xs.length):(lag xs ys k).length=xs.length:=by
 induction k with
 | zero=>simp[lag]
 | succ k ih =>
   simp only[lag,mJ,List.length_zipWith,List.length_map,iL,ih (by omega),List.length_eraseIdx];rw[if_pos (by omega)];omega
theorem yS (n:Nat) (x:B):ev (List.replicate n 0) x=0:=by
 induction n with
 | zero=>rfl
 | succ n ih=>simp[List.replicate_succ,ev,ih,mul_zero,xor_self]
theorem Se (xs ys:List B) (x:B) (k:Nat) (hk:k≤xs.length) :
  ev (lag xs ys k) x=ms ((List.range k).map fun i=>mul (wt xs x i) (ys.getD i 0)):=by
 induction k with
 | zero=>simp[lag,yS,ms]
 | succ k ih =>
   rw[lag,tr,ih (by omega),List.range_succ,List.map_append,kM,uS,EC]
   ·congr 1
    simp only[List.map_cons,List.map_nil,ms,List.foldr_cons,List.foldr_nil,xor_zero];rw[wt,←Fd,div,div,dS,mul_comm (ys.getD k 0)]
   ·rw[pw _ _ _ (by omega)]
    simp only[List.length_map,iL,List.length_eraseIdx];rw[if_pos (by omega)];omega
theorem EA (xs ys:List B) (x:B):ev (Gj xs ys) x=interp xs ys x:=Se xs ys x _ (Nat.le_refl _)
theorem Bq (xs ys:List B):(Gj xs ys).length=xs.length:=pw xs ys _ (Nat.le_refl _)
theorem NW (xs ys:List B) (hn:xs.Nodup) (j:Nat) (hj:j<xs.length):ev (Gj xs ys) (xs.getD j 0)=ys.getD j 0:=by
 rw[EA,GN xs ys hn j hj]
theorem sC (xs ys p:List B) (hn:xs.Nodup) (hp:p.length=xs.length) (h:∀j,j<xs.length→ev p (xs.getD j 0)=ys.getD j 0):p=Gj xs ys :=
 TZ xs p _ hn hp (Bq xs ys) (fun j hj=>by rw[h j hj,NW xs ys hn j hj])
theorem interp_poly (xs p:List B) (hn:xs.Nodup) (hp:p.length=xs.length) (ys:List B) (h:∀j,j<xs.length→ys.getD j 0=ev p (xs.getD j 0)) (x:B):interp xs ys x=ev p x:=by
 rw[←EA,←sC xs ys p hn hp (fun j hj=>(h j hj).symm)]
end F6
end
end Go.Proofs.YtmfiaadjdbemnaaGreatDoor
