/- bin's numbers as bytes. bin's writer: buffer.text, writer.parts. No conditions. A value's text as a plain function. No conditions. Regions that draw their order, at a world that is known outright; a class that lets bytes be pushed. No conditions. bin's writer.value. Condition: the value lies in memory below what the call owns. Reading a number off bytes, as a plain function; its laws. No conditions. bin.ReadNumber. No conditions. bin's reader: cursor.take, cursor.number, reader.many. No conditions. bin's reader.value. No conditions. bin.Write, bin.Read. Conditions: the value lies in memory; utf8's tables read as the text lays them. -/
import Derived.Test.YtcihbnpckicljaaGreatDoorrGA
import Derived.Lib.AppendStr
import Derived.Laws.Bits64b
import Derived.Deep.DeepCutAuto
import Derived.Laws.DeepNot64
import Derived.Test.YtcihbnpckicljaaGreatDoorrGC
set_option linter.unusedVariables false
set_option linter.unusedSimpArgs false
namespace Go.Proofs.YtcihbnpckicljaaGreatDoor
open Go Go.RowKit Go.BigFrame
open Go.Lib(hid)
set_option maxRecDepth 100000
def numF :Nat->Nat->List UInt8
 |0,_=>[]
 |k+1,n=>if n<128 then [UInt8.ofNat n]else UInt8.ofNat (n%128+128)::numF k (n/128)
def numL (n:Nat):List UInt8:=numF 10 n
theorem numF_small {k n:Nat} (h:n<128):numF (k+1) n=[UInt8.ofNat n]:=by rw[numF,if_pos h]
theorem numF_big {k n:Nat} (h: ¬n<128):numF (k+1) n=UInt8.ofNat (n%128+128)::numF k (n/128):=by rw[numF,if_neg h]
theorem u8_low (m:Nat) (h:m<256):((UInt8.ofNat m).toNat:Int)=(m:Int):=by
 rw[UInt8.toNat_ofNat']
 omega
set_option maxHeartbeats 1000000 in
theorem ref_number_any (n:Nat) (w:World) (hn:n<18446744073709551616):
 Calls Tryz.prog 121 #[.int .u64 n] w fun e' w'=>e'=.returned (.string (bs (numL n)))/\Below w.heap.size w w':=by
 go_enter Tryz.func121,Tryz.ntmps121
 go_wp2
 go_loopw [0,3] (fun i v wr=>∃(k m:Nat) (pre:List UInt8),i=.int .u64 m/\m<128^(k+1)/\m<18446744073709551616/\pre.length+k=9/\pre++numF (k+1) m=numL n/\wr.ownsRow w.heap.size 5 1 v pre.length (u8s pre)/\Below w.heap.size w wr) (fun i _ _=>(intOf i).toNat)
 case atStart=>exact⟨9,n,[],rfl,by omega,hn,rfl,rfl,⟨rfl,Or.inl ⟨rfl,rfl⟩⟩,Below.refl _ _⟩
 case round=>
 obtain⟨k,m,pre,rfl,hm,hm64,hpk,hnum,hown,hb⟩:=hrel
 have hsz:=hb.size
 have HO:=hid hown;clear hown
 have HB:=hid hb;clear hb
 have HN:=hid hnum;clear hnum
 by_cases hlt:m<128
 ·have hI:(m:Int)<128:=by omega
  go_wp2_with(at_builtin;refine push_at w.heap.size rfl _ _ 85 5 (.int .u8 0) 1 rfl Tryz.underlying85 (by kernel_rfl) rfl (by decide) _ pre.length _ (own_alloc HO.out _) wr.heap.size 1 [_] (IsBlk.new _ _ _) rfl rfl rfl (by simp[Value.oneCell']) (by simp;omega) (by omega) ?_)
  intro v1 w3 hown3 hg3
  have hcv:=run_string_own (l:=pre++[UInt8.ofNat m]) (P:=Tryz.prog) (w:=w3) (n:=pre.length+1) (base:=w.heap.size) (e':=5) (v:=v1) 85 5 9 Tryz.underlying85 Tryz.underlying5 Tryz.underlying9 (by rw[u8s_append,u8s_one,u8_low m (by omega)];exact hown3)
  have hg4:=World.grownBy.trans (World.grownBy_alloc _ _ _) hg3
  have hob:∀j,Value.ownBlock _=some j->w.heap.size<=j:=fun j hj=>(HO.out.lt j hj).1
  have hnum:=HN.out
  rw[numF_small hlt]at hnum
  rw[hnum]at hcv
  go_wp2
  go_ret
  exact⟨rfl,HB.out.grown hg4 (by omega) (fun j hj=>hob j hj)⟩
 ·have hI:128<=(m:Int):=by omega
  go_wp2_with(at_builtin;refine push_at w.heap.size rfl _ _ 85 5 (.int .u8 0) 1 rfl Tryz.underlying85 (by kernel_rfl) rfl (by decide) _ pre.length _ (own_alloc HO.out _) wr.heap.size 1 [_] (IsBlk.new _ _ _) rfl rfl rfl (by simp[Value.oneCell']) (by simp;omega) (by omega) ?_)
  intro v1 w3 hown3 hg3
  have hg4:=World.grownBy.trans (World.grownBy_alloc _ _ _) hg3
  have hob:∀j,Value.ownBlock _=some j->w.heap.size<=j:=fun j hj=>(HO.out.lt j hj).1
  obtain⟨k,rfl⟩:∃k',k=k'+1:=by
   cases k with
   |zero=>omega
   |succ k=>exact⟨k,rfl⟩
  have hown4:w3.ownsRow w.heap.size 5 1 v1 (pre++[UInt8.ofNat (m%128+128)]).length (u8s (pre++[UInt8.ofNat (m%128+128)])):=by
   rw[u8s_append,u8s_one,u8_low _ (by omega),List.length_append]
   exact hown3
  have hnum:=HN.out
  rw[numF_big hlt]at hnum
  clear hown3
  go_wp2
  go_roundw
  case rel=>
   refine⟨k,m/128,pre++[UInt8.ofNat (m%128+128)],by simp,?_,by omega,by simp;omega,by rw[List.append_assoc];exact hnum,hown4,HB.out.grown hg4 (by omega) (fun j hj=>hob j hj)⟩
   rw[Nat.pow_succ]at hm
   omega
  case measure=>simp[intOf];omega
def Buf (B g:Nat) (t:TypeId) (l:List UInt8) (w:World):Prop:=B<=g/\∃v,IsBlk w g #[v] t/\w.ownsRow B 5 1 v l.length (u8s l)
theorem or128 (m:Int) (h0:0<=m) (h:m<256):bits .or .u8 m 128=m%128+128:=by
 obtain⟨a,rfl⟩:=Int.eq_ofNat_of_zero_le h0
 have key:∀a:Fin 256,bits .or .u8 ((a.val:Nat):Int) 128=(a.val:Int)%128+128:=by decide+kernel
 exact key ⟨a,by omega⟩
theorem own_neW {w:World} {B:Nat} {e t:TypeId} {v:Value} {n:Nat} {xs:List Value} {g:Nat} {cs:Array Value} (hown:w.ownsRow B e 1 v n xs) (hb:IsBlk w g cs t) (hne:t≠e):v.ownBlock≠some g:=
 Lib.ownBlock_ne hown hb hne
theorem Buf.ext {B g:Nat} {t:TypeId} {l:List UInt8} {w w':World} (h:Buf B g t l w) (hb:Below w.heap.size w w'):Buf B g t l w':=by
 obtain⟨h1,v,h2,h3⟩:=h
 exact⟨h1,v,h2.ext hb,own_ext h3 hb⟩
theorem own_set {w:World} {base n g o:Nat} {e:TypeId} {v u:Value} {xs:List Value} (h:w.ownsRow base e 1 v n xs) (hne:v.ownBlock≠some g):(w.setCell ⟨g,o,none⟩ u).ownsRow base e 1 v n xs:=
 h.kept (row:=some g) ⟨rfl,rfl,rfl,by simp,fun k hk hk2=>Below.heap_setCell _ _ _ _ (fun e=>hk2 (by rw[e]))⟩ (.inr hne)
def KeptT (g:Nat) (w w':World):Prop:=w.heap.size<=w'.heap.size/\∀b,b<w.heap.size->b≠g->(∀cs fr,w.heap[b]?≠some (.cells cs 5 fr))->w'.heap[b]?=w.heap[b]?
theorem KeptT.refl (g:Nat) (w:World):KeptT g w w:=⟨Nat.le_refl _,fun _ _ _ _=>rfl⟩
theorem KeptT.trans {g:Nat} {a b c:World} (h:KeptT g a b) (k:KeptT g b c):KeptT g a c:=
 ⟨Nat.le_trans h.1 k.1,fun i hi hg ht=>by
   have e:=h.2 i hi hg ht
   rw[k.2 i (Nat.lt_of_lt_of_le hi h.1) hg (by rw[e];exact ht),e]⟩
theorem KeptT.put {B g:Nat} {v v1:Value} {n:Nat} {xs:List Value} {w w3:World} (hown:w.ownsRow B 5 1 v n xs) (hg:w.grownBy w3 v.ownBlock):KeptT g w (w3.setCell ⟨g,0,none⟩ v1):=by
 refine⟨by simpa using hg.size,fun b hb hbg ht=>?_⟩
 rw[Below.heap_setCell _ _ _ _ hbg]
 refine hg.block b hb (fun e=>?_)
 rcases hown.2 with⟨rfl,_⟩|⟨g',cap,cur,rfl,_,hg',_⟩
 ·cases e
 ·have:g'=b:=by
   have e2:some b=some g':=e
   exact(Option.some.inj e2).symm
  subst this
  exact ht _ _ hg'
theorem KeptT.blk {g b:Nat} {w w':World} {cs:Array Value} {t:TypeId} (h:KeptT g w w') (hb:IsBlk w b cs t) (ht:t≠5) (hg:b≠g):IsBlk w' b cs t:=
 (h.2 b hb.lt hg (fun cs' fr e=>by
   have e2:=(show w.heap[b]?=some (.cells cs t (0,0))from hb).symm.trans e
   simp only[Option.some.injEq,Obj.cells.injEq]at e2
   exact ht e2.2.1)).trans hb
theorem KeptT.of_below {g:Nat} {w w':World} (h:Below w.heap.size w w'):KeptT g w w':=⟨h.size,fun b hb _ _=>h.block b hb⟩
set_option maxHeartbeats 2000000 in
theorem buffer_number_any (B g:Nat) (t:TypeId) (ht:t≠5) (l:List UInt8) (n:Nat) (w:World) (hB:Buf B g t l w) (hBw:B<=w.heap.size) (hl:l.length+16<=140737488355328) (hn:n<18446744073709551616):
 Calls Tryz.prog 116 #[.pointer (some ⟨g,0,none⟩),.int .u64 n] w fun e' w'=>e'=.returned (.tuple #[])/\Buf B g t (l++numL n) w'/\Below B w w'/\KeptT g w w':=by
 have HB0:=hid hB;clear hB
 go_enter Tryz.func116,Tryz.ntmps116
 go_wp2
 go_loopw [1] (fun i wr=>∃(k m:Nat) (pre:List UInt8),i=.int .u64 m/\m<128^(k+1)/\m<18446744073709551616/\pre.length+k=9/\pre++numF (k+1) m=numL n/\Buf B g t (l++pre) wr/\Below B w wr/\KeptT g w wr) (fun i _=>(intOf i).toNat)
 case atStart=>exact⟨9,n,[],rfl,by omega,hn,rfl,rfl,by rw[List.append_nil];exact HB0.out,Below.refl _ _,KeptT.refl _ _⟩
 case round=>
 clear HB0
 obtain⟨k,m,pre,rfl,hm,hm64,hpk,hnum,⟨hBg,v,hblk,hown⟩,hb,hkt⟩:=hrel
 have HKT:=hid hkt;clear hkt
 have hsz:=hb.size
 have c0:wr.cell? ⟨g,0,none⟩=some v:=hblk.cell rfl
 have hgl:g<wr.heap.size:=hblk.lt
 have hne:=own_neW hown hblk ht
 have hlen:(l++pre).length<=l.length+9:=by rw[List.length_append];omega
 have HO:=hid hown;clear hown
 have HBK:=hid hblk;clear hblk
 have HB:=hid hb;clear hb
 have HN:=hid hnum;clear hnum
 have HNE:=hid hne;clear hne
 by_cases hlt:m<128
 ·have hI:(m:Int)<128:=by omega
  have hI2: ¬(127:Int)<(m:Int):=by omega
  go_wp2_with(at_builtin;refine push_at B rfl _ _ 85 5 (.int .u8 0) 1 rfl Tryz.underlying85 (by kernel_rfl) rfl (by decide) _ (l++pre).length _ (own_alloc HO.out _) wr.heap.size 1 [_] (IsBlk.new _ _ _) rfl rfl rfl (by simp[Value.oneCell']) (by simp;omega) (by omega) ?_)
  intro v1 w3 hown3 hg3
  have hg4:=World.grownBy.trans (World.grownBy_alloc _ _ _) hg3
  have hb3:=blk_grown HBK.out hg4 HNE.out
  have d0:w3.cell? ⟨g,0,none⟩=some v:=hb3.cell rfl
  have f0:w3.frozen? ⟨g,0,none⟩=false:=hb3.frozen 0
  have hnum:=HN.out
  rw[numF_small hlt]at hnum
  have hown4:w3.ownsRow B 5 1 v1 (l++numL n).length (u8s (l++numL n)):=by
   rw[←hnum,←List.append_assoc,u8s_append,u8s_one,u8_low m (by omega),List.length_append,List.length_append]
   exact hown3
  have hne3:=own_neW hown4 hb3 ht
  have HR:=HB.out.grown hg4 (by omega) (fun j hj=>(HO.out.lt j hj).1)
  have HK:=fun(u:Value)=>hid (HKT.out.trans (KeptT.put (g:=g) (v1:=u) HO.out hg4))
  clear hown3
  obtain⟨gg,cap,rfl,_,_,_,_⟩:=own_open hown4 (by rw[←hnum];simp only[List.length_append,List.length_cons,List.length_nil];omega)
  go_wp2
  go_end0
  exact⟨rfl,⟨hBg,_,by simpa using hb3.set 0 _,own_set hown4 hne3⟩,below_set HR hBg,(HK _).out⟩
 ·have hI:127<(m:Int):=by omega
  have hor:=or128 ((m:Int)%256) (by omega) (by omega)
  have hmm:(m:Int)%256%128=(m:Int)%128:=by omega
  rw[hmm]at hor
  go_wp2_with(at_builtin;refine push_at B rfl _ _ 85 5 (.int .u8 0) 1 rfl Tryz.underlying85 (by kernel_rfl) rfl (by decide) _ (l++pre).length _ (own_alloc HO.out _) wr.heap.size 1 [_] (IsBlk.new _ _ _) rfl rfl rfl (by simp[Value.oneCell']) (by simp;omega) (by omega) ?_)
  intro v1 w3 hown3 hg3
  have hg4:=World.grownBy.trans (World.grownBy_alloc _ _ _) hg3
  have hb3:=blk_grown HBK.out hg4 HNE.out
  have d0:w3.cell? ⟨g,0,none⟩=some v:=hb3.cell rfl
  have f0:w3.frozen? ⟨g,0,none⟩=false:=hb3.frozen 0
  obtain⟨k,rfl⟩:∃k',k=k'+1:=by
   cases k with
   |zero=>omega
   |succ k=>exact⟨k,rfl⟩
  have hown4:w3.ownsRow B 5 1 v1 (l++(pre++[UInt8.ofNat (m%128+128)])).length (u8s (l++(pre++[UInt8.ofNat (m%128+128)]))):=by
   rw[←List.append_assoc,u8s_append,u8s_one,u8_low _ (by omega),List.length_append,List.length_append]
   exact hown3
  have hnum:=HN.out
  rw[numF_big (by omega)]at hnum
  have hne3:=own_neW hown4 hb3 ht
  have HR:=HB.out.grown hg4 (by omega) (fun j hj=>(HO.out.lt j hj).1)
  have HK:=fun(u:Value)=>hid (HKT.out.trans (KeptT.put (g:=g) (v1:=u) HO.out hg4))
  clear hown3
  obtain⟨gg,cap,rfl,_,_,_,_⟩:=own_open hown4 (by simp only[List.length_append,List.length_cons,List.length_nil];omega)
  go_wp2
  go_roundw
  case rel=>
   refine⟨k,m/128,pre++[UInt8.ofNat (m%128+128)],by simp,?_,by omega,by simp;omega,by rw[List.append_assoc];exact hnum,⟨hBg,_,by simpa using hb3.set 0 _,own_set hown4 hne3⟩,below_set HR hBg,(HK _).out⟩
   rw[Nat.pow_succ]at hm
   omega
  case measure=>simp[intOf];omega
theorem numL_length (n:Nat):(numL n).length<=10:=by
 have h:∀k n,(numF k n).length<=k:=by
  intro k
  induction k with
  |zero=>intro n;exact Nat.le_refl _
  |succ k ih=>
   intro n
   by_cases hn:n<128
   ·rw[numF_small hn];simp
   ·rw[numF_big hn]
    have:=ih (n/128)
    simp only[List.length_cons]
    omega
 exact h 10 n
theorem strCells_bs (l:List UInt8):Lib.strCells (bs l)=u8s l:=rfl
section
variable {P:Program} {ops:Array Oper} {rest:List Oper} {o:Oper} {a:Act} {Q:Exit->Act->World->Prop}
theorem push_str {W:World} (base:Nat) (hgd:o.guard=none) (s x:Operand) (t u e:TypeId)
 (ho:o.op=.call {callee:=.builtin .append,args:= #[s,x],argTypes:= #[t,u]})
 (ht:P.underlying t=some (.slice e)) (hu:P.underlying u=some .string) (hinfo:(P.info? e).map (fun i=>(i.zero,i.size,i.bytes))=some (some (.int .u8 0),1,1))
 (v:Value) (l m L:List UInt8) (hL:L=l++m) (HO:W.ownsRow base e 1 v l.length (u8s l)) (hs:a.eval s=v) (hx:a.eval x=.string (bs m))
 (hbase:base<=W.heap.size) (hl:l.length+m.length<=140737488355328)
 (h:∀v1 w1,w1.ownsRow base e 1 v1 L.length (u8s L)->W.grownBy w1 v.ownBlock->wpList P ops Q rest (a.put o.dst v1) w1):
 wpList P ops Q (o::rest) a W:=by
 subst hL
 obtain⟨i0,hi,hzz⟩:=Option.map_eq_some_iff.1 hinfo
 simp only[Prod.mk.injEq]at hzz
 obtain⟨hz0,hz1,hz2⟩:=hzz
 have hsz:=bs_size m
 refine Lib.wpList_append_own_string W hgd s x t u ho base e i0 ht hu hi hz0 hz1 hz2 v l.length (u8s l) hs HO (bs m) hx (by unfold maxLen;omega) (by omega) hbase ?_
 intro v1 w1 hown hg _
 refine h v1 w1 ?_ hg
 rw[List.length_append,u8s_append,←strCells_bs m,←hsz]
 exact hown
end
section
variable {P:Program} {ops:Array Oper} {rest:List Oper} {o:Oper} {a:Act} {Q:Exit->Act->World->Prop}
theorem push_byte {W:World} (base:Nat) (hgd:o.guard=none) (s x:Operand) (t e:TypeId)
 (ho:o.op=.call {callee:=.builtin .append,args:= #[s,x],argTypes:= #[t,t]})
 (ht:P.underlying t=some (.slice e)) (hinfo:(P.info? e).map (fun i=>(i.zero,i.size,i.bytes))=some (some (.int .u8 0),1,1))
 (v:Value) (l L:List UInt8) (b:UInt8) (c:Int) (hc:c=(b.toNat:Int)) (hL:L=l++[b]) (g:Nat) (hG:IsBlk W g #[.int .u8 c] e) (HO:W.ownsRow base e 1 v l.length (u8s l)) (hs:a.eval s=v) (hx:a.eval x=.slice (some ⟨g,0,none⟩) 1 1)
 (hbase:base<=W.heap.size) (hl:l.length+1<=140737488355328)
 (h:∀v1 w1,w1.ownsRow base e 1 v1 L.length (u8s L)->W.grownBy w1 v.ownBlock->wpList P ops Q rest (a.put o.dst v1) w1):
 wpList P ops Q (o::rest) a W:=by
 subst hL
 subst hc
 refine push_at base hgd s x t e (.int .u8 0) 1 ho ht hinfo rfl (by decide) v l.length (u8s l) HO g 1 [.int .u8 (b.toNat:Int)] hG rfl hs hx (by simp[Value.oneCell']) hbase (by omega) ?_
 intro v1 w1 h1 h2
 refine h v1 w1 ?_ h2
 rw[List.length_append,u8s_append]
 exact h1
end
theorem Buf.put {B g:Nat} {t:TypeId} (ht:t≠5) {v v1:Value} {l m:List UInt8} {w w3:World} (hBg:B<=g) (hblk:IsBlk w g #[v] t) (hown:w.ownsRow B 5 1 v l.length (u8s l)) (hown3:w3.ownsRow B 5 1 v1 m.length (u8s m)) (hg:w.grownBy w3 v.ownBlock) (hB:B<=w.heap.size):
 Buf B g t m (w3.setCell ⟨g,0,none⟩ v1)/\Below B w (w3.setCell ⟨g,0,none⟩ v1)/\KeptT g w (w3.setCell ⟨g,0,none⟩ v1):=by
 have hb3:=blk_grown hblk hg (own_neW hown hblk ht)
 have hne3:=own_neW hown3 hb3 ht
 exact⟨⟨hBg,v1,by simpa using hb3.set 0 v1,own_set hown3 hne3⟩,below_set (below_grown (Below.refl _ _) hg hB (fun k hk=>(hown.lt k hk).1)) hBg,KeptT.put hown hg⟩
theorem Buf.sl {B g:Nat} {t:TypeId} {l:List UInt8} {w:World} (h:Buf B g t l w):∃(p:Option Addr) (c:Nat),IsBlk w g #[.slice p l.length c] t/\w.ownsRow B 5 1 (.slice p l.length c) l.length (u8s l):=by
 obtain⟨_,v,h2,h3⟩:=h
 rcases h3.2 with⟨rfl,h0⟩|⟨g',cap,cur,rfl,_⟩
 ·exact⟨none,0,by rw[h0];exact h2,by rw[h0];rw[h0]at h3;exact h3⟩
 ·exact⟨_,cap,h2,h3⟩
def bytesL (s:List UInt8):List UInt8:=numL s.length++s
theorem bytesL_length (s:List UInt8):(bytesL s).length<=s.length+10:=by
 have:=numL_length s.length
 rw[bytesL,List.length_append]
 omega
set_option maxHeartbeats 1000000 in
theorem buffer_text_any (B g:Nat) (t:TypeId) (ht:t≠5) (l s:List UInt8) (w:World) (hB:Buf B g t l w) (hBw:B<=w.heap.size) (hl:l.length+s.length+32<=140737488355328):
 Calls Tryz.prog 117 #[.pointer (some ⟨g,0,none⟩),.string (bs s)] w fun e' w'=>e'=.returned (.tuple #[])/\Buf B g t (l++bytesL s) w'/\Below B w w'/\KeptT g w w':=by
 have hsz:=bs_size s
 have HB:=hid hB;clear hB
 have hsl:s.length<18446744073709551616:=by omega
 have hll:l.length<=140737488355296:=by omega
 go_enter Tryz.func117,Tryz.ntmps117
 go_wp2_with fail
 go_at_call 116
 refine(buffer_number_any B g t ht l s.length w HB.out hBw (by omega) hsl).mono ?_
 rintro e' w1 ⟨rfl,hb1,hbw,hkt⟩
 have HKT:=hid hkt;clear hkt
 have hnl:=numL_length s.length
 obtain⟨L1,hL1⟩:∃L1,L1=l++numL s.length:=⟨_,rfl⟩
 obtain⟨L2,hL2⟩:∃L2,L2=L1++s:=⟨_,rfl⟩
 have hlen:L1.length<=l.length+10:=by rw[hL1,List.length_append];omega
 have hfin:l++bytesL s=L2:=by rw[hL2,hL1,bytesL,List.append_assoc]
 rw[←hL1]at hb1
 have HL2:=hid hL2;clear hL2 hL1 hnl
 have HF:=hid hfin;clear hfin
 have hszw:=hbw.size
 obtain⟨p,c,hblk,hown⟩:=hb1.sl
 have hBg:=hb1.1
 have c0:w1.cell? ⟨g,0,none⟩=some (.slice p L1.length c):=hblk.cell rfl
 have HBW:=hid hbw;clear hbw hb1
 have HBK:=hid hblk;clear hblk
 have HO:=hid hown;clear hown
 go_wp2_with(at_builtin;refine push_str B rfl _ _ 85 9 5 rfl Tryz.underlying85 Tryz.underlying9 (by kernel_rfl) _ L1 s L2 HL2.out HO.out rfl rfl (by omega) (by omega) ?_)
 intro v1 w3 hown3 hg3
 have hput:=Buf.put ht hBg HBK.out HO.out hown3 hg3 (by omega)
 have hb3:=blk_grown HBK.out hg3 (own_neW HO.out HBK.out ht)
 have f0:w3.frozen? ⟨g,0,none⟩=false:=hb3.frozen 0
 have d0:w3.cell? ⟨g,0,none⟩=some (.slice p L1.length c):=hb3.cell rfl
 have HP:=hid hput;clear hput hb3 hg3
 have hv1:∃p1 c1,v1=.slice p1 L2.length c1:=by
  rcases hown3.2 with⟨rfl,h0⟩|⟨g',cap,cur,rfl,_⟩
  ·exact⟨none,0,by rw[h0]⟩
  ·exact⟨_,_,rfl⟩
 obtain⟨p1,c1,rfl⟩:=hv1
 clear hown3
 go_wp2
 go_end0
 rw[HF.out]
 exact⟨rfl,HP.out.1,Below.trans HBW.out (HP.out.2.1.mono (by omega)),HKT.out.trans HP.out.2.2⟩
def catN (ts:Nat->List UInt8):Nat->List UInt8
 |0=>[]
 |i+1=>catN ts i++ts i
theorem catN_le (ts:Nat->List UInt8) {i n:Nat} (h:i<n):(catN ts i).length+(ts i).length<=(catN ts n).length:=by
 induction n with
 |zero=>omega
 |succ n ih=>
  rw[catN,List.length_append]
  by_cases hi:i=n
  ·subst hi;omega
  ·have:=ih (by omega);omega
set_option maxHeartbeats 1000000 in
theorem parts1_any (B g:Nat) (l:List UInt8) (w:World) (hB:Buf B g 138 l w) (hBw:B<=w.heap.size) (tag:UInt8) (tagI:Int) (htag:tagI=(tag.toNat:Int)) (n:Nat) (hn:n<=1073741824) (ts:Nat->List UInt8) (c1 c2:Value)
 (hl:l.length+(tag::(numL n++catN ts n)).length+64<=140737488355328)
 (hone:∀(i:Nat) (l':List UInt8) (wx:World),i<n->Buf B g 138 l' wx->Below B w wx->KeptT g w wx->l'.length+(ts i).length+64<=140737488355328→
   Calls Tryz.prog 119 #[.int .i64 (i:Int),c1,c2] wx fun e' w'=>e'=.returned (.tuple #[])/\Buf B g 138 (l'++ts i) w'/\Below B wx w'/\KeptT g wx w'):
 Calls Tryz.prog 118 #[.pointer (some ⟨g,0,none⟩),.int .u8 tagI,.int .i64 (n:Int),.func (.func 119) #[] #[c1,c2]] w fun e' w'=>e'=.returned (.tuple #[])/\Buf B g 138 (l++tag::(numL n++catN ts n)) w'/\Below B w w'/\KeptT g w w':=by
 have HONE:=hid hone;clear hone
 have HTAG:=hid htag;clear htag
 obtain⟨L1,hL1⟩:∃L1,L1=l++[tag]:=⟨_,rfl⟩
 obtain⟨L2,hL2⟩:∃L2,L2=L1++numL n:=⟨_,rfl⟩
 have hnl:=numL_length n
 have hl1:L1.length=l.length+1:=by rw[hL1];simp
 have hl2:L2.length+(catN ts n).length+64<=140737488355328:=by
  rw[hL2,List.length_append]
  simp only[List.length_cons,List.length_append]at hl
  omega
 have hl3:l.length+65<=140737488355328:=by
  simp only[List.length_cons,List.length_append]at hl
  omega
 clear hl
 have hfin:l++tag::(numL n++catN ts n)=L2++catN ts n:=by rw[hL2,hL1];simp
 rw[hfin]
 have HL1:=hid hL1;clear hL1 hfin
 have HL2:=hid hL2;clear hL2
 have hl1':L1.length<=l.length+1:=by omega
 clear hl1
 obtain⟨p,c,hblk,hown⟩:=hB.sl
 have hBg:=hB.1
 have c0:w.cell? ⟨g,0,none⟩=some (.slice p l.length c):=hblk.cell rfl
 have hglt:=hblk.lt
 clear hB
 have HBK:=hid hblk;clear hblk
 have HO:=hid hown;clear hown
 go_enter Tryz.func118,Tryz.ntmps118
 go_wp2_with(at_builtin;refine push_byte B rfl _ _ 85 5 rfl Tryz.underlying85 (by kernel_rfl) _ l L1 tag tagI HTAG.out HL1.out w.heap.size (IsBlk.new _ _ _) (own_alloc HO.out _) rfl rfl (by simp;omega) (by omega) ?_)
 intro v1 w3 hown3 hg3
 have hg4:=World.grownBy.trans (World.grownBy_alloc _ _ _) hg3
 have hput:=Buf.put (t:=138) (by decide) hBg HBK.out HO.out hown3 hg4 (by omega)
 have hb3:=blk_grown HBK.out hg4 (own_neW HO.out HBK.out (by decide))
 have f0:w3.frozen? ⟨g,0,none⟩=false:=hb3.frozen 0
 have d0:w3.cell? ⟨g,0,none⟩=some (.slice p l.length c):=hb3.cell rfl
 have hv1:∃p1 c1,v1=.slice p1 L1.length c1:=by
  rcases hown3.2 with⟨rfl,h0⟩|⟨g',cap,cur,rfl,_⟩
  ·exact⟨none,0,by rw[h0]⟩
  ·exact⟨_,_,rfl⟩
 obtain⟨p1,k1,rfl⟩:=hv1
 have HP:=hid hput;clear hput hb3 hg3 hg4 hown3 c0
 go_wp2_with fail
 go_at_call 116
 have hn64:n<18446744073709551616:=by omega
 have hbw1:=HP.out.2.1
 have hszw:=hbw1.size
 refine(buffer_number_any B g 138 (by decide) L1 n _ HP.out.1 (by omega) (by omega) hn64).mono ?_
 rintro e' w4 ⟨rfl,hb4,hbw4,hkt4⟩
 have HKT4:=hid (HP.out.2.2.trans hkt4);clear hkt4
 have hbw:=Below.trans hbw1 (hbw4.mono (by omega))
 rw[←HL2.out]at hb4
 clear hbw1 hbw4 d0 f0 hszw HP
 have HB4:=hid hb4;clear hb4
 have HBW4:=hid hbw;clear hbw
 go_wp2
 go_loopw [28] (fun i wr=>∃j:Nat,i=.int .i64 j/\j<=n/\Buf B g 138 (L2++catN ts j) wr/\Below B w wr/\KeptT g w wr) (fun i _=>n-(intOf i).toNat)
 case atStart=>exact⟨0,rfl,by omega,by rw[catN,List.append_nil];exact HB4.out,HBW4.out,HKT4.out⟩
 case round=>
 clear HB4 HBW4 HKT4
 obtain⟨j,rfl,hj,hbf,hbw,hkt⟩:=hrel
 have HKT:=hid hkt;clear hkt
 have HBF:=hid hbf;clear hbf
 have HBW:=hid hbw;clear hbw
 by_cases hlt:j<n
 ·have hcl:=catN_le ts hlt
  have hap:(L2++catN ts j).length=L2.length+(catN ts j).length:=List.length_append
  go_wp2_with fail
  go_at_call 119
  refine(HONE.out j (L2++catN ts j) _ hlt HBF.out HBW.out HKT.out (by omega)).mono ?_
  rintro e' w5 ⟨rfl,hb5,hbw5,hkt5⟩
  have HKT5:=hid (HKT.out.trans hkt5);clear hkt5
  have hszr:=HBW.out.size
  have HB5:=hid hb5;clear hb5
  have HBW5:=hid (Below.trans HBW.out (hbw5.mono (Nat.le_refl _)));clear hbw5
  go_wp2
  go_roundw
  case rel=>exact⟨j+1,by go_num,by omega,by rw[catN,←List.append_assoc];exact HB5.out,HBW5.out,HKT5.out⟩
  case measure=>simp[intOf];omega
 ·obtain rfl:j=n:=by omega
  go_wp2
  go_end0
  exact⟨rfl,HBF.out,HBW.out,HKT.out⟩
set_option maxHeartbeats 1000000 in
theorem parts2_any (B g:Nat) (l:List UInt8) (w:World) (hB:Buf B g 138 l w) (hBw:B<=w.heap.size) (tag:UInt8) (tagI:Int) (htag:tagI=(tag.toNat:Int)) (n:Nat) (hn:n<=1073741824) (ts:Nat->List UInt8) (c1 c2:Value)
 (hl:l.length+(tag::(numL n++catN ts n)).length+64<=140737488355328)
 (hone:∀(i:Nat) (l':List UInt8) (wx:World),i<n->Buf B g 138 l' wx->Below B w wx->KeptT g w wx->l'.length+(ts i).length+64<=140737488355328→
   Calls Tryz.prog 120 #[.int .i64 (i:Int),c1,c2] wx fun e' w'=>e'=.returned (.tuple #[])/\Buf B g 138 (l'++ts i) w'/\Below B wx w'/\KeptT g wx w'):
 Calls Tryz.prog 118 #[.pointer (some ⟨g,0,none⟩),.int .u8 tagI,.int .i64 (n:Int),.func (.func 120) #[] #[c1,c2]] w fun e' w'=>e'=.returned (.tuple #[])/\Buf B g 138 (l++tag::(numL n++catN ts n)) w'/\Below B w w'/\KeptT g w w':=by
 have HONE:=hid hone;clear hone
 have HTAG:=hid htag;clear htag
 obtain⟨L1,hL1⟩:∃L1,L1=l++[tag]:=⟨_,rfl⟩
 obtain⟨L2,hL2⟩:∃L2,L2=L1++numL n:=⟨_,rfl⟩
 have hnl:=numL_length n
 have hl1:L1.length=l.length+1:=by rw[hL1];simp
 have hl2:L2.length+(catN ts n).length+64<=140737488355328:=by
  rw[hL2,List.length_append]
  simp only[List.length_cons,List.length_append]at hl
  omega
 have hl3:l.length+65<=140737488355328:=by
  simp only[List.length_cons,List.length_append]at hl
  omega
 clear hl
 have hfin:l++tag::(numL n++catN ts n)=L2++catN ts n:=by rw[hL2,hL1];simp
 rw[hfin]
 have HL1:=hid hL1;clear hL1 hfin
 have HL2:=hid hL2;clear hL2
 have hl1':L1.length<=l.length+1:=by omega
 clear hl1
 obtain⟨p,c,hblk,hown⟩:=hB.sl
 have hBg:=hB.1
 have c0:w.cell? ⟨g,0,none⟩=some (.slice p l.length c):=hblk.cell rfl
 have hglt:=hblk.lt
 clear hB
 have HBK:=hid hblk;clear hblk
 have HO:=hid hown;clear hown
 go_enter Tryz.func118,Tryz.ntmps118
 go_wp2_with(at_builtin;refine push_byte B rfl _ _ 85 5 rfl Tryz.underlying85 (by kernel_rfl) _ l L1 tag tagI HTAG.out HL1.out w.heap.size (IsBlk.new _ _ _) (own_alloc HO.out _) rfl rfl (by simp;omega) (by omega) ?_)
 intro v1 w3 hown3 hg3
 have hg4:=World.grownBy.trans (World.grownBy_alloc _ _ _) hg3
 have hput:=Buf.put (t:=138) (by decide) hBg HBK.out HO.out hown3 hg4 (by omega)
 have hb3:=blk_grown HBK.out hg4 (own_neW HO.out HBK.out (by decide))
 have f0:w3.frozen? ⟨g,0,none⟩=false:=hb3.frozen 0
 have d0:w3.cell? ⟨g,0,none⟩=some (.slice p l.length c):=hb3.cell rfl
 have hv1:∃p1 c1,v1=.slice p1 L1.length c1:=by
  rcases hown3.2 with⟨rfl,h0⟩|⟨g',cap,cur,rfl,_⟩
  ·exact⟨none,0,by rw[h0]⟩
  ·exact⟨_,_,rfl⟩
 obtain⟨p1,k1,rfl⟩:=hv1
 have HP:=hid hput;clear hput hb3 hg3 hg4 hown3 c0
 go_wp2_with fail
 go_at_call 116
 have hn64:n<18446744073709551616:=by omega
 have hbw1:=HP.out.2.1
 have hszw:=hbw1.size
 refine(buffer_number_any B g 138 (by decide) L1 n _ HP.out.1 (by omega) (by omega) hn64).mono ?_
 rintro e' w4 ⟨rfl,hb4,hbw4,hkt4⟩
 have HKT4:=hid (HP.out.2.2.trans hkt4);clear hkt4
 have hbw:=Below.trans hbw1 (hbw4.mono (by omega))
 rw[←HL2.out]at hb4
 clear hbw1 hbw4 d0 f0 hszw HP
 have HB4:=hid hb4;clear hb4
 have HBW4:=hid hbw;clear hbw
 go_wp2
 go_loopw [28] (fun i wr=>∃j:Nat,i=.int .i64 j/\j<=n/\Buf B g 138 (L2++catN ts j) wr/\Below B w wr/\KeptT g w wr) (fun i _=>n-(intOf i).toNat)
 case atStart=>exact⟨0,rfl,by omega,by rw[catN,List.append_nil];exact HB4.out,HBW4.out,HKT4.out⟩
 case round=>
 clear HB4 HBW4 HKT4
 obtain⟨j,rfl,hj,hbf,hbw,hkt⟩:=hrel
 have HKT:=hid hkt;clear hkt
 have HBF:=hid hbf;clear hbf
 have HBW:=hid hbw;clear hbw
 by_cases hlt:j<n
 ·have hcl:=catN_le ts hlt
  have hap:(L2++catN ts j).length=L2.length+(catN ts j).length:=List.length_append
  go_wp2_with fail
  go_at_call 120
  refine(HONE.out j (L2++catN ts j) _ hlt HBF.out HBW.out HKT.out (by omega)).mono ?_
  rintro e' w5 ⟨rfl,hb5,hbw5,hkt5⟩
  have HKT5:=hid (HKT.out.trans hkt5);clear hkt5
  have hszr:=HBW.out.size
  have HB5:=hid hb5;clear hb5
  have HBW5:=hid (Below.trans HBW.out (hbw5.mono (Nat.le_refl _)));clear hbw5
  go_wp2
  go_roundw
  case rel=>exact⟨j+1,by go_num,by omega,by rw[catN,←List.append_assoc];exact HB5.out,HBW5.out,HKT5.out⟩
  case measure=>simp[intOf];omega
 ·obtain rfl:j=n:=by omega
  go_wp2
  go_end0
  exact⟨rfl,HBF.out,HBW.out,HKT.out⟩
open Go Go.RowKit
open Go.Lib(hid)
def zigN (n:Int):Nat:=if 0<=n then(2*n).toNat else(-2*n-1).toNat
mutual
def textV :DVal->List UInt8
 | .mk k b n s l f=>if k=0 then [0]else if k=1 then [if b then 2 else 1]else if k=2 then 3::numL (zigN n)else if k=3 then 4::bytesL s else if k=4 then 5::bytesL s
   else if k=5 then 6::(numL l.length++textL l)else if k=6 then 7::(numL f.length++textF f)else []
def textL :List DVal->List UInt8
 |[]=>[]
 |v::l=>textV v++textL l
def textF :List (List UInt8×DVal)->List UInt8
 |[]=>[]
 |(x,v)::l=>(bytesL x++textV v)++textF l
end
def tsL (l:List DVal) (i:Nat):List UInt8:=match l[i]? with|some v=>textV v|none=>[]
def tsF (f:List (List UInt8×DVal)) (i:Nat):List UInt8:=match f[i]? with|some p=>bytesL p.1++textV p.2|none=>[]
theorem tsL_at {l:List DVal} {i:Nat} (h:i<l.length):tsL l i=textV l[i]:=by rw[tsL,List.getElem?_eq_getElem h]
theorem tsF_at {f:List (List UInt8×DVal)} {i:Nat} (h:i<f.length):tsF f i=bytesL f[i].1++textV f[i].2:=by rw[tsF,List.getElem?_eq_getElem h]
theorem textL_app :∀(l m:List DVal),textL (l++m)=textL l++textL m
 |[],m=>by simp[textL]
 |v::l,m=>by rw[List.cons_append,textL,textL,textL_app l m,List.append_assoc]
theorem textF_app :∀(l m:List (List UInt8×DVal)),textF (l++m)=textF l++textF m
 |[],m=>by simp[textF]
 |(x,v)::l,m=>by rw[List.cons_append,textF,textF,textF_app l m,List.append_assoc (bytesL x++textV v)]
theorem catN_textL (l:List DVal):∀i,i<=l.length->catN (tsL l) i=textL (l.take i):=by
 intro i
 induction i with
 |zero=>intro _;simp[catN,textL]
 |succ i ih=>
  intro h
  rw[catN,ih (by omega),List.take_succ_eq_append_getElem (by omega),textL_app,tsL_at (by omega),textL,textL,List.append_nil]
theorem catN_textF (f:List (List UInt8×DVal)):∀i,i<=f.length->catN (tsF f) i=textF (f.take i):=by
 intro i
 induction i with
 |zero=>intro _;simp[catN,textF]
 |succ i ih=>
  intro h
  rw[catN,ih (by omega),List.take_succ_eq_append_getElem (by omega),textF_app,tsF_at (by omega)]
  generalize f[i]=p
  obtain⟨x,v⟩:=p
  rw[textF,textF,List.append_nil]
theorem catN_L (l:List DVal):catN (tsL l) l.length=textL l:=by rw[catN_textL l _ (Nat.le_refl _),List.take_length]
theorem catN_F (f:List (List UInt8×DVal)):catN (tsF f) f.length=textF f:=by rw[catN_textF f _ (Nat.le_refl _),List.take_length]
theorem zigN_lt {n:Int} (h0: -9223372036854775808<=n) (h1:n<=9223372036854775807):zigN n<18446744073709551616:=by
 unfold zigN
 split<;>omega
theorem xor_ones (a:Nat) (h:a<18446744073709551616):a^^^18446744073709551615=18446744073709551615-a:=by
 have e:=congrArg BitVec.toNat (BitVec.xor_allOnes (x:=BitVec.ofNat 64 a))
 rw[BitVec.toNat_xor,BitVec.toNat_not,BitVec.toNat_allOnes,BitVec.toNat_ofNat,Nat.mod_eq_of_lt (by omega)]at e
 exact e
theorem zig_walk (n:Int) (h0: -9223372036854775808<=n) (h1:n<=9223372036854775807):
 bits .xor .u64 (IntKind.u64.wrap (IntKind.u64.wrap n*2)) (IntKind.u64.wrap (n/9223372036854775808))=((zigN n:Nat):Int):=by
 by_cases hn:0<=n
 ·obtain⟨a,rfl⟩:=Int.eq_ofNat_of_zero_le hn
  have e1:IntKind.u64.wrap (IntKind.u64.wrap (a:Int)*2)=((2*a:Nat):Int):=by
   rw[IntKind.wrap_u64,IntKind.wrap_u64];omega
  have e2:IntKind.u64.wrap ((a:Int)/9223372036854775808)=((0:Nat):Int):=by
   rw[IntKind.wrap_u64];omega
  rw[e1,e2,bits_xor_u64_nat _ _ (by omega) (by omega),Nat.xor_zero,zigN,if_pos hn]
  omega
 ·have e1:IntKind.u64.wrap (IntKind.u64.wrap n*2)=(((2*n+18446744073709551616).toNat:Nat):Int):=by
   rw[IntKind.wrap_u64,IntKind.wrap_u64];omega
  have e2:IntKind.u64.wrap (n/9223372036854775808)=((18446744073709551615:Nat):Int):=by
   rw[IntKind.wrap_u64];omega
  rw[e1,e2,bits_xor_u64_nat _ _ (by omega) (by omega),xor_ones _ (by omega),zigN,if_neg hn]
  omega
section
variable {P:Program} {ops:Array Oper} {T:List Nat} {C:World->Prop} {Q:Exit->Act->World->Prop}
def mixW (P:Program) (ops:Array Oper) (T:List Nat) (C:World->Prop) (Q:Exit->Act->World->Prop) (fuel:Nat) (listed:Array Bool) (a:Act) (w:World):Prop:=anyK P ops T C Q fuel listed a w
def ThenW (P:Program) (ops:Array Oper) (T:List Nat) (C:World->Prop) (Q:Exit->Act->World->Prop) (fuel:Nat) (listed:Array Bool) (a:Act) (w:World):Prop:=C w/\mixW P ops T C Q fuel listed a w
theorem ThenW.mk {fuel:Nat} {listed:Array Bool} {a:Act} {w:World} (hw:C w) (h:C w->mixW P ops T C Q fuel listed a w):ThenW P ops T C Q fuel listed a w:=⟨hw,h hw⟩
theorem mixW_flt0 (hs:Region.noSelect ops=true):∀(l:List Nat) (fuel:Nat) (listed:Array Bool) (a:Act) (w:World),C w->Closed ops listed->fltB ops T l listed=true→
 wpQuiet P ops C (fun a'=>mixW P ops T C Q fuel (listAll l listed) a' w) (opsAt ops l) a->mixW P ops T C Q (l.length+fuel) listed a w
 |[],fuel,listed,a,w,_,_,_,h=>by
  rw[show([]:List Nat).length+fuel=fuel by simp]
  exact h
 |i::l,fuel,listed,a,w,hw,hcl,hB,h=>by
  simp only[fltB,Bool.and_eq_true]at hB
  obtain⟨⟨⟨⟨hr,hf⟩,ht⟩,hp⟩,hB'⟩:=hB
  cases ho:ops[i]? with
  |none=>rw[ho]at hp;cases hp
  |some o=>
   rw[ho]at hp
   have hl:opsAt ops (i::l)=o::opsAt ops l:=opsAt_cons ho
   rw[hl]at h
   obtain⟨v,hy,hK⟩:=flt_of_quiet ho (by simpa using hp) (wpQuiet_split h)
   have hm:=mixW_flt0 hs l fuel (listed.setIfInBounds i true) (a.put o.dst v) w hw (hcl.set (by simpa using hr)) hB' hK
   have:=anyK_first (T:=T) (C:=C) (Q:=Q) ho (Region.noSelect_spec hs) (tailsB_spec ht) (l.length+fuel) listed a w hw hcl (Region.free_spec ho hf) (by simpa using hr) hy hm
   rw[show(i::l).length+fuel=l.length+fuel+1 by simp;omega]
   exact this
theorem mixW_flt (hs:Region.noSelect ops=true) (l:List Nat) (fuel:Nat) (listed:Array Bool) (a:Act) {w:World} (hw:C w) (hB:(closedB ops listed&&fltB ops T l listed)=true)
 (h:wpQuiet P ops C (fun a'=>mixW P ops T C Q fuel (listAll l listed) a' w) (opsAt ops l) a):mixW P ops T C Q (l.length+fuel) listed a w:=by
 simp only[Bool.and_eq_true]at hB
 exact mixW_flt0 hs l fuel listed a w hw (closedB_spec hB.1) hB.2 h
theorem mixW_ch {i:Nat} {fuel:Nat} {listed:Array Bool} {a:Act} {w:World} (hr:Region.ready .any ops listed=[i]) (o:Oper) (ho:ops[i]?=some o)
 (h:wpList P ops (Exit.then (ThenW P ops T C Q fuel (listed.setIfInBounds i true)) (Calm Q)) [o] a w):mixW P ops T C Q (fuel+1) listed a w:=by
 refine⟨fun h0=>(by rw[h0]at hr;cases hr),fun j hj=>?_⟩
 rw[hr]at hj
 obtain rfl:j=i:=by simpa using hj
 exact wpOp_mono (fun a' w' hk=>⟨.inr hk.1,hk.2⟩) (wpOp_of_list ho h)
theorem mixW_chL {i:Nat} {fuel:Nat} {listed:Array Bool} {a:Act} {w:World} (hr:Region.ready .any ops listed=[i]) (hi:(ops[i]?).isSome=true)
 (h:wpList P ops (Exit.then (ThenW P ops T C Q fuel (listed.setIfInBounds i true)) (Calm Q)) (opsAt ops [i]) a w):mixW P ops T C Q (fuel+1) listed a w:=by
 obtain⟨o,ho⟩:=Option.isSome_iff_exists.1 hi
 rw[opsAt_cons ho]at h
 exact mixW_ch hr o ho h
theorem mixW_end (l:List Nat) {listed:Array Bool} {a:Act} {w:World} (hB:tailB ops T l listed=true) (h:wpList P ops (Calm Q) (opsAt ops l) a w):mixW P ops T C Q l.length listed a w:=
 anyK_tail l listed a w hB h
theorem mixW_start {id:Nat} {a:Act} {w:World} (T:List Nat) (C:World->Prop) (hm:P.follows .mixedOrders=true) (hC:C {w with drawn:=w.drawn+1})
 (h:C {w with drawn:=w.drawn+1}->mixW P ops T C Q ops.size (Array.replicate ops.size false) a {w with drawn:=w.drawn+1}):(Code.region id ops true).wp P Q a w:=
 wp_region_any hm (wpAny_of_anyK _ _ _ _ (h hC))
end
def KeptA (w w':World):Prop:=w.heap.size<=w'.heap.size/\∀b,b<w.heap.size->(∀cs fr,w.heap[b]?≠some (.cells cs 5 fr))->w'.heap[b]?=w.heap[b]?
theorem KeptA.refl (w:World):KeptA w w:=⟨Nat.le_refl _,fun _ _ _=>rfl⟩
theorem KeptA.trans {a b c:World} (h:KeptA a b) (k:KeptA b c):KeptA a c:=
 ⟨Nat.le_trans h.1 k.1,fun i hi ht=>by
   have e:=h.2 i hi ht
   rw[k.2 i (Nat.lt_of_lt_of_le hi h.1) (by rw[e];exact ht),e]⟩
theorem KeptA.of_below {w w':World} (h:Below w.heap.size w w'):KeptA w w':=⟨h.size,fun b hb _=>h.block b hb⟩
theorem KeptA.grown {B:Nat} {v:Value} {n:Nat} {xs:List Value} {w w3:World} (hown:w.ownsRow B 5 1 v n xs) (hg:w.grownBy w3 v.ownBlock):KeptA w w3:=by
 refine⟨hg.size,fun b hb ht=>hg.block b hb (fun e=>?_)⟩
 rcases hown.2 with⟨rfl,_⟩|⟨g',cap,cur,rfl,_,hg',_⟩
 ·cases e
 ·have:g'=b:=by
   have e2:some b=some g':=e
   exact(Option.some.inj e2).symm
  subst this
  exact ht _ _ hg'
open Classical in
noncomputable def extT (w x:World):World:=if KeptA w x then x else w
theorem extT_kept (w x:World):KeptA w (extT w x):=by
 unfold extT
 split
 ·assumption
 ·exact KeptA.refl _
theorem extT_of {w x:World} (h:KeptA w x):x=extT w x:=by
 unfold extT
 rw[if_pos h]
def ClsT (w:World):World->Prop:=fun w'=>∃x,w'=extT w x
theorem ClsT_def (w:World):ClsT w=fun w'=>∃x,w'=extT w x:=rfl
theorem ClsT.of {w x:World} (h:KeptA w x):ClsT w x:=⟨x,extT_of h⟩
theorem ClsT.kept {w x:World} (h:ClsT w x):KeptA w x:=by
 obtain⟨y,rfl⟩:=h
 exact extT_kept w y
theorem ClsT.drew (w:World):ClsT w {w with drawn:=w.drawn+1}:=.of ⟨Nat.le_refl _,fun _ _ _=>rfl⟩
theorem ClsT.trans {w x y:World} (h:ClsT w x) (k:KeptA x y):ClsT w y:=.of (h.kept.trans k)
def Nu8 (w:World) (b:Nat):Prop:=b<w.heap.size/\∀cs fr,w.heap[b]?≠some (.cells cs 5 fr)
theorem Nu8.of {w:World} {b:Nat} {cs:Array Value} {t:TypeId} (h:IsBlk w b cs t) (ht:t≠5):Nu8 w b:=⟨h.lt,fun cs' fr e=>by
 have e2:=(show w.heap[b]?=some (.cells cs t (0,0))from h).symm.trans e
 simp only[Option.some.injEq,Obj.cells.injEq]at e2
 exact ht e2.2.1⟩
@[go_sem] theorem extT_cell (w x : World) (b o : Nat) (h : Nu8 w b) : (extT w x).cell? ⟨b, o, none⟩ = w.cell? ⟨b, o, none⟩ := by
  unfold World.cell?
  rw[(extT_kept w x).2 b h.1 h.2]
@[go_sem] theorem extT_frozen (w x : World) (b o : Nat) (h : Nu8 w b) : (extT w x).frozen? ⟨b, o, none⟩ = w.frozen? ⟨b, o, none⟩ := by
  unfold World.frozen?
  rw[(extT_kept w x).2 b h.1 h.2]
def WvOk (v:DVal):Prop:=∀(S:Nat->Prop) (cs:List Value) (B g:Nat) (l:List UInt8) (w:World),Buf B g 138 l w->B<=w.heap.size->(∀b,S b->b<B)->HasVal S w v cs->l.length+(textV v).length+64<=140737488355328→
 Calls Tryz.prog 88 #[.pointer (some ⟨g,0,none⟩),.agg cs.toArray] w fun e' w'=>e'=.returned (.tuple #[])/\Buf B g 138 (l++textV v) w'/\Below B w w'/\KeptT g w w'
set_option maxHeartbeats 1000000 in
theorem wv_list (l:List DVal) (hok:∀v∈l,WvOk v) (S:Nat->Prop) (B g h1 h2:Nat) (k:Int) (b:Bool) (n:Int) (s:List UInt8) (pl:Option Addr) (cl:Nat) (pf:Option Addr) (lf cf:Nat) (hll:l.length<=1073741824) (i:Nat) (l':List UInt8) (wx:World) (hi:i<l.length)
 (hB:Buf B g 138 l' wx) (hBw:B<=wx.heap.size) (hS:∀b,S b->b<B) (hL:HasL S wx pl l)
 (hb1:IsBlk wx h1 #[.pointer (some ⟨g,0,none⟩)] 169) (hb2:IsBlk wx h2 #[.int .u8 k,.bool b,.int .i64 n,.string (bs s),.slice pl l.length cl,.slice pf lf cf] 52)
 (hl:l'.length+(tsL l i).length+64<=140737488355328):
 Calls Tryz.prog 119 #[.int .i64 (i:Int),.pointer (some ⟨h1,0,none⟩),.pointer (some ⟨h2,0,none⟩)] wx fun e' w'=>e'=.returned (.tuple #[])/\Buf B g 138 (l'++tsL l i) w'/\Below B wx w'/\KeptT g wx w':=by
 have hok1:=hok _ (List.getElem_mem hi)
 rw[tsL_at hi]at hl⊢
 obtain⟨gl,o,cs,hpl,hcells,hval⟩:=hL i hi
 generalize l[i]=v at hok1 hl hval⊢
 have hbl:=hb1.lt
 have hbl2:=hb2.lt
 have HV:=hid hval
 obtain⟨k1,b1,n1,s1,l1,f1⟩:=v
 obtain⟨pl1,cl1,pf1,cf1,rfl,hbd,_,_⟩:=hasVal_mk.1 hval
 clear hval hbd hok
 obtain⟨e0,e1,e2,e3,e4,e5⟩:=hcells.six
 have hgl:=hcells.2.1
 clear hcells
 subst hpl
 have c1:wx.cell? ⟨h1,0,none⟩=some (.pointer (some ⟨g,0,none⟩)):=hb1.cell rfl
 have c2:wx.cell? ⟨h2,4,none⟩=some (.slice (some ⟨gl,o,none⟩) l.length cl):=hb2.cell rfl
 obtain⟨ll,hlle⟩:∃ll,ll=l.length:=⟨_,rfl⟩
 rw[←hlle]at c2 hi hll
 have HOK:=hid hok1;clear hok1
 have HB:=hid hB;clear hB
 clear hb1 hb2 hL hlle
 have HSS:=hid hS;clear hS
 go_enter Tryz.func119,Tryz.ntmps119
 go_wp2
 refine mix_start [6] (Cls wx) (by kernel_rfl) (Cls.of ((Below.refl _ _).drew)) ?_
 refine mix_flt (by kernel_rfl) [0,1,2,3,4,5] 1 _ _ (by kernel_rfl) ?_
 simp only[opsAt,zo1,zo2,zo3,zo4,zo5]
 unfold Cls
 repeat(go_big_quiet_step (fail))
 refine wpQuiet_nil ?_
 (try rw[←Cls_def])
 refine mix_end [6] (by kernel_rfl) (fun w1 hw1=>?_)
 simp only[opsAt,zo1,zo2,zo3,zo4,zo5]
 go_wp2_with fail
 go_at_call 88
 refine(HOK.out S _ B g l' w1 (HB.out.ext hw1.below) (Nat.le_trans hBw hw1.below.size) HSS.out (HV.out.ext hw1.below) hl).mono ?_
 rintro e' w2 ⟨rfl,hb,hbw,hkt⟩
 have HB2:=hid hb;clear hb
 have HW2:=hid (Below.trans (hw1.below.mono hBw) (hbw.mono (Nat.le_refl _)))
 have HK2:=hid ((KeptT.of_below hw1.below).trans hkt);clear hkt
 clear hbw
 go_wp2
 refine Calm.normal ?_
 go_end0
 exact⟨rfl,HB2.out,HW2.out,HK2.out⟩
set_option maxHeartbeats 2000000 in
theorem wv_fields (f:List (List UInt8×DVal)) (hok:∀p∈f,WvOk p.2) (S:Nat->Prop) (B g h1 h2:Nat) (k:Int) (b:Bool) (n:Int) (s:List UInt8) (pl:Option Addr) (ll cl:Nat) (pf:Option Addr) (cf:Nat) (hlf:f.length<=1073741824) (i:Nat) (l':List UInt8) (wx:World) (hi:i<f.length)
 (hB:Buf B g 138 l' wx) (hBw:B<=wx.heap.size) (hS:∀b,S b->b<B) (hF:HasF S wx pf f)
 (hb1:IsBlk wx h1 #[.pointer (some ⟨g,0,none⟩)] 169) (hb2:IsBlk wx h2 #[.int .u8 k,.bool b,.int .i64 n,.string (bs s),.slice pl ll cl,.slice pf f.length cf] 52) (hg1:h1≠g) (hg2:h2≠g)
 (hl:l'.length+(tsF f i).length+64<=140737488355328):
 Calls Tryz.prog 120 #[.int .i64 (i:Int),.pointer (some ⟨h1,0,none⟩),.pointer (some ⟨h2,0,none⟩)] wx fun e' w'=>e'=.returned (.tuple #[])/\Buf B g 138 (l'++tsF f i) w'/\Below B wx w'/\KeptT g wx w':=by
 have hok1:=hok _ (List.getElem_mem hi)
 rw[tsF_at hi]at hl⊢
 obtain⟨gl,o,cs,hpf,⟨hxl,hcells⟩,hval⟩:=hF i hi
 generalize f[i]=p at hok1 hl hval hxl hcells⊢
 obtain⟨x,v⟩:=p
 simp only[]at hok1 hl hval hxl hcells⊢
 have HV:=hid hval
 obtain⟨k1,b1,n1,s1,l1,f1⟩:=v
 obtain⟨pl1,cl1,pf1,cf1,rfl,hbd,_,_⟩:=hasVal_mk.1 hval
 clear hval hbd hok
 obtain⟨e0,e1,e2,e3,e4,e5,e6⟩:=hcells.seven
 have hgl:=hcells.2.1
 have hglB:=hS _ hcells.1
 have HCE:=hid hcells;clear hcells
 subst hpf
 have c1:wx.cell? ⟨h1,0,none⟩=some (.pointer (some ⟨g,0,none⟩)):=hb1.cell rfl
 have hbl:=hb1.lt
 have hbl2:=hb2.lt
 have c2:wx.cell? ⟨h2,5,none⟩=some (.slice (some ⟨gl,o,none⟩) f.length cf):=hb2.cell rfl
 obtain⟨lf,hlfe⟩:∃lf,lf=f.length:=⟨_,rfl⟩
 rw[←hlfe]at c2 hi hlf hb2
 obtain⟨L1,hL1⟩:∃L1,L1=l'++bytesL x:=⟨_,rfl⟩
 have hfin:l'++(bytesL x++textV (.mk k1 b1 n1 s1 l1 f1))=L1++textV (.mk k1 b1 n1 s1 l1 f1):=by rw[hL1,List.append_assoc]
 have hl1:L1.length+(textV (.mk k1 b1 n1 s1 l1 f1)).length+64<=140737488355328:=by
  rw[hL1,List.length_append]
  rw[List.length_append]at hl
  omega
 have hxx:l'.length+x.length+32<=140737488355328:=by
  rw[List.length_append,bytesL,List.length_append]at hl
  omega
 rw[hfin]
 clear hl hfin
 have HL1:=hid hL1;clear hL1
 have HOK:=hid hok1;clear hok1
 have HB:=hid hB;clear hB
 have HB1:=hid hb1;clear hb1
 have HB2:=hid hb2;clear hb2
 clear hF hlfe
 have HSS:=hid hS;clear hS
 go_enter Tryz.func120,Tryz.ntmps120
 go_wp2
 refine mix_start [9] (Cls wx) (by kernel_rfl) (Cls.of ((Below.refl _ _).drew)) ?_
 refine mix_flt (by kernel_rfl) [0,1,2,3,4,5,6,7,8] 1 _ _ (by kernel_rfl) ?_
 simp only[opsAt,zo1,zo2,zo3,zo4,zo5]
 unfold Cls
 repeat(go_big_quiet_step (fail))
 refine wpQuiet_nil ?_
 (try rw[←Cls_def])
 refine mix_end [9] (by kernel_rfl) (fun w1 hw1=>?_)
 simp only[opsAt,zo1,zo2,zo3,zo4,zo5]
 go_wp2_with fail
 go_at_call 117
 refine(buffer_text_any B g 138 (by decide) l' x w1 (HB.out.ext hw1.below) (Nat.le_trans hBw hw1.below.size) hxx).mono ?_
 rintro e' w2 ⟨rfl,hb,hbw,hkt⟩
 rw[←HL1.out]at hb
 have HBB:=hid hb;clear hb
 have hw2:Below B wx w2:=Below.trans (hw1.below.mono hBw) (hbw.mono (Nat.le_refl _))
 have hk2:KeptT g wx w2:=(KeptT.of_below hw1.below).trans hkt
 have hc2:=HCE.out.kept (S':=S) (w':=w2) (fun _ h=>h) (fun b hb _=>hw2.block b (HSS.out b hb))
 have hv2:=HV.out.ext_to (S':=S) (w':=w2) (fun _ h=>h) (fun b hb _=>hw2.block b (HSS.out b hb))
 have hd1:=hk2.blk HB1.out (by decide) hg1
 have hd2:=hk2.blk HB2.out (by decide) hg2
 clear hbw hkt e0 e1 e2 e3 e4 e5 e6 c1 c2
 obtain⟨e0,e1,e2,e3,e4,e5,e6⟩:=hc2.seven
 have c1:w2.cell? ⟨h1,0,none⟩=some (.pointer (some ⟨g,0,none⟩)):=hd1.cell rfl
 have c2:w2.cell? ⟨h2,5,none⟩=some (.slice (some ⟨gl,o,none⟩) lf cf):=hd2.cell rfl
 have hsz2:=hw2.size
 have hgl2:=hc2.2.1
 have hlt1:=hd1.lt
 have hlt2:=hd2.lt
 have HW2:=hid hw2;clear hw2
 have HK2:=hid hk2;clear hk2
 have HV2:=hid hv2;clear hv2
 clear hc2 hd1 hd2 hbl hbl2 hgl
 go_wp2
 refine Calm.normal ?_
 go_wp2
 refine mix_start [7] (Cls w2) (by kernel_rfl) (Cls.of ((Below.refl _ _).drew)) ?_
 refine mix_flt (by kernel_rfl) [0,1,2,3,4,5,6] 1 _ _ (by kernel_rfl) ?_
 simp only[opsAt,zo1,zo2,zo3,zo4,zo5]
 unfold Cls
 repeat(go_big_quiet_step (fail))
 refine wpQuiet_nil ?_
 (try rw[←Cls_def])
 refine mix_end [7] (by kernel_rfl) (fun w1 hw1=>?_)
 simp only[opsAt,zo1,zo2,zo3,zo4,zo5]
 go_wp2_with fail
 go_at_call 88
 refine(HOK.out S _ B g L1 w1 (HBB.out.ext hw1.below) (Nat.le_trans (by omega) hw1.below.size) HSS.out (HV2.out.ext hw1.below) hl1).mono ?_
 rintro e' w3 ⟨rfl,hb,hbw,hkt⟩
 have HB3:=hid hb;clear hb
 have HW3:=hid (Below.trans HW2.out (Below.trans (hw1.below.mono (by omega)) (hbw.mono (Nat.le_refl _))))
 have HK3:=hid (HK2.out.trans ((KeptT.of_below hw1.below).trans hkt));clear hkt
 clear hbw
 go_wp2
 refine Calm.normal ?_
 go_end0
 exact⟨rfl,HB3.out,HW3.out,HK3.out⟩
theorem grownD (w:World) (row:Option Nat):w.grownBy w.drew row:=⟨rfl,rfl,rfl,Nat.le_refl _,fun _ _ _=>rfl⟩
set_option maxHeartbeats 8000000 in
theorem wv_step (k:Nat) (b:Bool) (n:Int) (s:List UInt8) (l:List DVal) (f:List (List UInt8×DVal)) (hokL:∀v∈l,WvOk v) (hokF:∀p∈f,WvOk p.2):WvOk (.mk k b n s l f):=by
 intro S cs B g L w hB hBw hS hv hlim
 obtain⟨pl,cl,pf,cf,rfl,hbd,hL,hF⟩:=hasVal_mk.1 hv
 obtain⟨hk256,hn0',hn1',hsl,hll,hlf,_⟩:=hbd
 clear hv
 obtain⟨LV,hLV⟩:∃LV,LV=textV (.mk k b n s l f):=⟨_,rfl⟩
 rw[←hLV]at hlim⊢
 obtain⟨FL,hFL⟩:∃FL,FL=L++LV:=⟨_,rfl⟩
 rw[←hFL]
 have HFL:=hid hFL;clear hFL
 obtain⟨ll,hlle⟩:∃ll,ll=l.length:=⟨_,rfl⟩
 obtain⟨lf,hlfe⟩:∃lf,lf=f.length:=⟨_,rfl⟩
 have hsz:=bs_size s
 have hgw:g<w.heap.size:=by obtain⟨_,v,h1,_⟩:=hB;exact h1.lt
 show Calls Tryz.prog 88 #[.pointer (some ⟨g,0,none⟩),.agg #[.int .u8 (k:Int),.bool b,.int .i64 n,.string (bs s),.slice pl l.length cl,.slice pf f.length cf]] w _
 rw[←hlle,←hlfe]
 rw[←hlle]at hll
 rw[←hlfe]at hlf
 have HLL:=hid hlle;clear hlle
 have HLF:=hid hlfe;clear hlfe
 have HLV:=hid hLV;clear hLV
 have HL:=hid hL;clear hL
 have HF:=hid hF;clear hF
 have HB:=hid hB;clear hB
 have HSS:=hid hS;clear hS
 have HOL:=hid hokL;clear hokL
 have HOF:=hid hokF;clear hokF
 go_enter Tryz.func88,Tryz.ntmps88
 go_upto_region 1 with(fail)
 generalize hW0:World.alloc (World.alloc w _) _=W0
 have hd1:IsBlk W0 w.heap.size #[.pointer (some ⟨g,0,none⟩)] 169:=by rw[←hW0];exact(IsBlk.new _ _ _).alloc _
 have hd2:IsBlk W0 (w.heap.size+1) #[.int .u8 (k:Int),.bool b,.int .i64 n,.string (bs s),.slice pl ll cl,.slice pf lf cf] 52:=by rw[←hW0];exact IsBlk.new_at (by simp)
 have hb0:Below w.heap.size w W0:=by rw[←hW0];exact((Below.refl _ _).alloc (Nat.le_refl _) _).alloc (by simp) _
 have hbuf0:=HB.out.ext hb0
 obtain⟨p,c,hblk,hown⟩:=hbuf0.sl
 have hBg:=hbuf0.1
 have hsz0:w.heap.size+2<=W0.heap.size:=by have:=hd2.lt;omega
 have hB0:B<=W0.heap.size:=by omega
 clear hW0 hbuf0
 have c1:W0.cell? ⟨w.heap.size,0,none⟩=some (.pointer (some ⟨g,0,none⟩)):=hd1.cell rfl
 have c20:W0.cell? ⟨w.heap.size+1,0,none⟩=some (.int .u8 (k:Int)):=hd2.cell rfl
 have c21:W0.cell? ⟨w.heap.size+1,1,none⟩=some (.bool b):=hd2.cell rfl
 have c22:W0.cell? ⟨w.heap.size+1,2,none⟩=some (.int .i64 n):=hd2.cell rfl
 have c23:W0.cell? ⟨w.heap.size+1,3,none⟩=some (.string (bs s)):=hd2.cell rfl
 have c24:W0.cell? ⟨w.heap.size+1,4,none⟩=some (.slice pl ll cl):=hd2.cell rfl
 have c25:W0.cell? ⟨w.heap.size+1,5,none⟩=some (.slice pf lf cf):=hd2.cell rfl
 have c3:W0.cell? ⟨g,0,none⟩=some (.slice p L.length c):=hblk.cell rfl
 have hn1:Nu8 W0 w.heap.size:=Nu8.of hd1 (by decide)
 have hn2:Nu8 W0 (w.heap.size+1):=Nu8.of hd2 (by decide)
 have hn3:Nu8 W0 g:=Nu8.of hblk (by decide)
 have HD1:=hid hd1;clear hd1
 have HD2:=hid hd2;clear hd2
 have HB0:=hid hb0;clear hb0
 have HBK:=hid hblk;clear hblk
 have HO:=hid hown;clear hown
 by_cases k0:k=0
 ·skip
  have hLV0:LV=[0]:=by rw[HLV.out,k0,textV];simp
  have q0:((k:Int)==0)=true:=by simp;omega
  clear k0
  obtain⟨L1,hL1⟩:∃L1,L1=L++[0]:=⟨_,rfl⟩
  have hl1:L1.length<=L.length+1:=by rw[hL1];simp
  have HL1:=hid hL1
  have HLV0:=hid hLV0
  clear hL1 hLV0
  have hlim2:L.length+64<=140737488355328:=by omega
  go_wp2
  refine mixW_start [11] (ClsT W0) (by kernel_rfl) (ClsT.drew W0) (fun hCw=>?_)
  refine mixW_flt (by kernel_rfl) [0,1,2,3,4,5] 6 _ _ hCw (by kernel_rfl) ?_
  simp only[opsAt,zo1,zo2,zo3,zo4,zo5]
  unfold ClsT
  repeat(go_big_quiet_step (fail))
  refine wpQuiet_nil ?_
  (try rw[←ClsT_def])
  refine mixW_ch (i:=6) (fuel:=5) (by kernel_rfl) _ rfl ?_
  go_wp2_with(fail)
  refine ThenW.mk (hCw.trans (KeptA.of_below ((Below.refl _ _).alloc (Nat.le_refl _) _))) (fun hCw=>?_)
  refine mixW_chL (i:=7) (fuel:=4) (by kernel_rfl) (by kernel_rfl) ?_
  simp only[opsAt,zo1,zo2,zo3,zo4,zo5]
  refine push_byte B rfl _ _ 85 5 rfl Tryz.underlying85 (by kernel_rfl) _ L L1 0 0 rfl HL1.out W0.heap.size ((IsBlk.new _ _ _).drew) (own_ext (own_alloc HO.out _) ((Below.refl _ _).drew)) rfl rfl (by simp;omega) (by omega) ?_
  intro v1 w3 hown3 hg3
  go_simp
  go_wp2_with(fail)
  refine ThenW.mk (hCw.trans (KeptA.grown (own_ext (own_alloc HO.out _) ((Below.refl _ _).drew)) hg3)) (fun hCw=>?_)
  refine mixW_flt (by kernel_rfl) [8,9,10] 1 _ _ hCw (by kernel_rfl) ?_
  simp only[opsAt,zo1,zo2,zo3,zo4,zo5]
  unfold ClsT
  repeat(go_big_quiet_step (fail))
  refine wpQuiet_nil ?_
  (try rw[←ClsT_def])
  refine mixW_end [11] (by kernel_rfl) ?_
  simp only[opsAt,zo1,zo2,zo3,zo4,zo5]
  have hg4:W0.grownBy w3 (Value.slice p L.length c).ownBlock:=World.grownBy.trans (World.grownBy_alloc _ _ _) (World.grownBy.trans (grownD _ _) hg3)
  have hput:=Buf.put (t:=138) (by decide) hBg HBK.out HO.out hown3 hg4 hB0
  have hb3:=blk_grown HBK.out hg4 (own_neW HO.out HBK.out (by decide))
  have f0:w3.frozen? ⟨g,0,none⟩=false:=hb3.frozen 0
  have d0:w3.cell? ⟨g,0,none⟩=some (.slice p L.length c):=hb3.cell rfl
  have hv1:∃p1 c1,v1=.slice p1 L1.length c1:=by
   rcases hown3.2 with⟨rfl,h0⟩|⟨g',cap,cur,rfl,_⟩
   ·exact⟨none,0,by rw[h0]⟩
   ·exact⟨_,_,rfl⟩
  obtain⟨p1,j1,rfl⟩:=hv1
  have HP:=hid hput
  clear hput hb3 hg3 hg4 hown3 hCw
  go_wp2
  refine Calm.normal ?_
  go_end0
  exact⟨rfl,by rw[HFL.out,HLV0.out,←HL1.out];exact HP.out.1,Below.trans (HB0.out.mono hBw) (HP.out.2.1.mono (Nat.le_refl _)),(KeptT.of_below HB0.out).trans HP.out.2.2⟩
 have q0:((k:Int)==0)=false:=by simp;omega
 by_cases k1:k=1
 ·cases b
  ·skip
   have hLV0:LV=[1]:=by rw[HLV.out,k1,textV];simp
   have q1:((k:Int)==1)=true:=by simp;omega
   clear k1
   obtain⟨L1,hL1⟩:∃L1,L1=L++[1]:=⟨_,rfl⟩
   have hl1:L1.length<=L.length+1:=by rw[hL1];simp
   have HL1:=hid hL1
   have HLV0:=hid hLV0
   clear hL1 hLV0
   have hlim2:L.length+64<=140737488355328:=by omega
   go_wp2
   refine mixW_start [12] (ClsT W0) (by kernel_rfl) (ClsT.drew W0) (fun hCw=>?_)
   refine mixW_flt (by kernel_rfl) [0,1,2,3,4,5,6] 6 _ _ hCw (by kernel_rfl) ?_
   simp only[opsAt,zo1,zo2,zo3,zo4,zo5]
   unfold ClsT
   repeat(go_big_quiet_step (fail))
   refine wpQuiet_nil ?_
   (try rw[←ClsT_def])
   refine mixW_ch (i:=7) (fuel:=5) (by kernel_rfl) _ rfl ?_
   go_wp2_with(fail)
   refine ThenW.mk (hCw.trans (KeptA.of_below ((Below.refl _ _).alloc (Nat.le_refl _) _))) (fun hCw=>?_)
   refine mixW_chL (i:=8) (fuel:=4) (by kernel_rfl) (by kernel_rfl) ?_
   simp only[opsAt,zo1,zo2,zo3,zo4,zo5]
   refine push_byte B rfl _ _ 85 5 rfl Tryz.underlying85 (by kernel_rfl) _ L L1 1 1 rfl HL1.out W0.heap.size ((IsBlk.new _ _ _).drew) (own_ext (own_alloc HO.out _) ((Below.refl _ _).drew)) rfl rfl (by simp;omega) (by omega) ?_
   intro v1 w3 hown3 hg3
   go_simp
   go_wp2_with(fail)
   refine ThenW.mk (hCw.trans (KeptA.grown (own_ext (own_alloc HO.out _) ((Below.refl _ _).drew)) hg3)) (fun hCw=>?_)
   refine mixW_flt (by kernel_rfl) [9,10,11] 1 _ _ hCw (by kernel_rfl) ?_
   simp only[opsAt,zo1,zo2,zo3,zo4,zo5]
   unfold ClsT
   repeat(go_big_quiet_step (fail))
   refine wpQuiet_nil ?_
   (try rw[←ClsT_def])
   refine mixW_end [12] (by kernel_rfl) ?_
   simp only[opsAt,zo1,zo2,zo3,zo4,zo5]
   have hg4:W0.grownBy w3 (Value.slice p L.length c).ownBlock:=World.grownBy.trans (World.grownBy_alloc _ _ _) (World.grownBy.trans (grownD _ _) hg3)
   have hput:=Buf.put (t:=138) (by decide) hBg HBK.out HO.out hown3 hg4 hB0
   have hb3:=blk_grown HBK.out hg4 (own_neW HO.out HBK.out (by decide))
   have f0:w3.frozen? ⟨g,0,none⟩=false:=hb3.frozen 0
   have d0:w3.cell? ⟨g,0,none⟩=some (.slice p L.length c):=hb3.cell rfl
   have hv1:∃p1 c1,v1=.slice p1 L1.length c1:=by
    rcases hown3.2 with⟨rfl,h0⟩|⟨g',cap,cur,rfl,_⟩
    ·exact⟨none,0,by rw[h0]⟩
    ·exact⟨_,_,rfl⟩
   obtain⟨p1,j1,rfl⟩:=hv1
   have HP:=hid hput
   clear hput hb3 hg3 hg4 hown3 hCw
   go_wp2
   refine Calm.normal ?_
   go_end0
   exact⟨rfl,by rw[HFL.out,HLV0.out,←HL1.out];exact HP.out.1,Below.trans (HB0.out.mono hBw) (HP.out.2.1.mono (Nat.le_refl _)),(KeptT.of_below HB0.out).trans HP.out.2.2⟩
  ·skip
   have hLV0:LV=[2]:=by rw[HLV.out,k1,textV];simp
   have q1:((k:Int)==1)=true:=by simp;omega
   clear k1
   obtain⟨L1,hL1⟩:∃L1,L1=L++[2]:=⟨_,rfl⟩
   have hl1:L1.length<=L.length+1:=by rw[hL1];simp
   have HL1:=hid hL1
   have HLV0:=hid hLV0
   clear hL1 hLV0
   have hlim2:L.length+64<=140737488355328:=by omega
   go_wp2
   refine mixW_start [12] (ClsT W0) (by kernel_rfl) (ClsT.drew W0) (fun hCw=>?_)
   refine mixW_flt (by kernel_rfl) [0,1,2,3,4,5,6] 6 _ _ hCw (by kernel_rfl) ?_
   simp only[opsAt,zo1,zo2,zo3,zo4,zo5]
   unfold ClsT
   repeat(go_big_quiet_step (fail))
   refine wpQuiet_nil ?_
   (try rw[←ClsT_def])
   refine mixW_ch (i:=7) (fuel:=5) (by kernel_rfl) _ rfl ?_
   go_wp2_with(fail)
   refine ThenW.mk (hCw.trans (KeptA.of_below ((Below.refl _ _).alloc (Nat.le_refl _) _))) (fun hCw=>?_)
   refine mixW_chL (i:=8) (fuel:=4) (by kernel_rfl) (by kernel_rfl) ?_
   simp only[opsAt,zo1,zo2,zo3,zo4,zo5]
   refine push_byte B rfl _ _ 85 5 rfl Tryz.underlying85 (by kernel_rfl) _ L L1 2 2 rfl HL1.out W0.heap.size ((IsBlk.new _ _ _).drew) (own_ext (own_alloc HO.out _) ((Below.refl _ _).drew)) rfl rfl (by simp;omega) (by omega) ?_
   intro v1 w3 hown3 hg3
   go_simp
   go_wp2_with(fail)
   refine ThenW.mk (hCw.trans (KeptA.grown (own_ext (own_alloc HO.out _) ((Below.refl _ _).drew)) hg3)) (fun hCw=>?_)
   refine mixW_flt (by kernel_rfl) [9,10,11] 1 _ _ hCw (by kernel_rfl) ?_
   simp only[opsAt,zo1,zo2,zo3,zo4,zo5]
   unfold ClsT
   repeat(go_big_quiet_step (fail))
   refine wpQuiet_nil ?_
   (try rw[←ClsT_def])
   refine mixW_end [12] (by kernel_rfl) ?_
   simp only[opsAt,zo1,zo2,zo3,zo4,zo5]
   have hg4:W0.grownBy w3 (Value.slice p L.length c).ownBlock:=World.grownBy.trans (World.grownBy_alloc _ _ _) (World.grownBy.trans (grownD _ _) hg3)
   have hput:=Buf.put (t:=138) (by decide) hBg HBK.out HO.out hown3 hg4 hB0
   have hb3:=blk_grown HBK.out hg4 (own_neW HO.out HBK.out (by decide))
   have f0:w3.frozen? ⟨g,0,none⟩=false:=hb3.frozen 0
   have d0:w3.cell? ⟨g,0,none⟩=some (.slice p L.length c):=hb3.cell rfl
   have hv1:∃p1 c1,v1=.slice p1 L1.length c1:=by
    rcases hown3.2 with⟨rfl,h0⟩|⟨g',cap,cur,rfl,_⟩
    ·exact⟨none,0,by rw[h0]⟩
    ·exact⟨_,_,rfl⟩
   obtain⟨p1,j1,rfl⟩:=hv1
   have HP:=hid hput
   clear hput hb3 hg3 hg4 hown3 hCw
   go_wp2
   refine Calm.normal ?_
   go_end0
   exact⟨rfl,by rw[HFL.out,HLV0.out,←HL1.out];exact HP.out.1,Below.trans (HB0.out.mono hBw) (HP.out.2.1.mono (Nat.le_refl _)),(KeptT.of_below HB0.out).trans HP.out.2.2⟩
 have q1:((k:Int)==1)=false:=by simp;omega
 by_cases k2:k=2
 ·skip
  have hLV0:LV=3::numL (zigN n):=by rw[HLV.out,k2,textV];simp
  have q2:((k:Int)==2)=true:=by simp;omega
  clear k2
  obtain⟨L1,hL1⟩:∃L1,L1=L++[3]:=⟨_,rfl⟩
  have hl1:L1.length<=L.length+1:=by rw[hL1];simp
  have HL1:=hid hL1
  have HLV0:=hid hLV0
  clear hL1 hLV0
  have hlim2:L.length+64<=140737488355328:=by omega
  go_wp2
  refine mixW_start [11] (ClsT W0) (by kernel_rfl) (ClsT.drew W0) (fun hCw=>?_)
  refine mixW_flt (by kernel_rfl) [0,1,2,3,4,5] 6 _ _ hCw (by kernel_rfl) ?_
  simp only[opsAt,zo1,zo2,zo3,zo4,zo5]
  unfold ClsT
  repeat(go_big_quiet_step (fail))
  refine wpQuiet_nil ?_
  (try rw[←ClsT_def])
  refine mixW_ch (i:=6) (fuel:=5) (by kernel_rfl) _ rfl ?_
  go_wp2_with(fail)
  refine ThenW.mk (hCw.trans (KeptA.of_below ((Below.refl _ _).alloc (Nat.le_refl _) _))) (fun hCw=>?_)
  refine mixW_chL (i:=7) (fuel:=4) (by kernel_rfl) (by kernel_rfl) ?_
  simp only[opsAt,zo1,zo2,zo3,zo4,zo5]
  refine push_byte B rfl _ _ 85 5 rfl Tryz.underlying85 (by kernel_rfl) _ L L1 3 3 rfl HL1.out W0.heap.size ((IsBlk.new _ _ _).drew) (own_ext (own_alloc HO.out _) ((Below.refl _ _).drew)) rfl rfl (by simp;omega) (by omega) ?_
  intro v1 w3 hown3 hg3
  go_simp
  go_wp2_with(fail)
  refine ThenW.mk (hCw.trans (KeptA.grown (own_ext (own_alloc HO.out _) ((Below.refl _ _).drew)) hg3)) (fun hCw=>?_)
  refine mixW_flt (by kernel_rfl) [8,9,10] 1 _ _ hCw (by kernel_rfl) ?_
  simp only[opsAt,zo1,zo2,zo3,zo4,zo5]
  unfold ClsT
  repeat(go_big_quiet_step (fail))
  refine wpQuiet_nil ?_
  (try rw[←ClsT_def])
  refine mixW_end [11] (by kernel_rfl) ?_
  simp only[opsAt,zo1,zo2,zo3,zo4,zo5]
  have hg4:W0.grownBy w3 (Value.slice p L.length c).ownBlock:=World.grownBy.trans (World.grownBy_alloc _ _ _) (World.grownBy.trans (grownD _ _) hg3)
  have hput:=Buf.put (t:=138) (by decide) hBg HBK.out HO.out hown3 hg4 hB0
  have hb3:=blk_grown HBK.out hg4 (own_neW HO.out HBK.out (by decide))
  have f0:w3.frozen? ⟨g,0,none⟩=false:=hb3.frozen 0
  have d0:w3.cell? ⟨g,0,none⟩=some (.slice p L.length c):=hb3.cell rfl
  have hv1:∃p1 c1,v1=.slice p1 L1.length c1:=by
   rcases hown3.2 with⟨rfl,h0⟩|⟨g',cap,cur,rfl,_⟩
   ·exact⟨none,0,by rw[h0]⟩
   ·exact⟨_,_,rfl⟩
  obtain⟨p1,j1,rfl⟩:=hv1
  have HP:=hid hput
  clear hput hb3 hg3 hg4 hown3 hCw
  go_wp2
  refine Calm.normal ?_
  have hkw:=(KeptT.of_below (g:=g) HB0.out).trans HP.out.2.2
  have hbw:=Below.trans (HB0.out.mono hBw) (HP.out.2.1.mono (Nat.le_refl _))
  have hd1:=HP.out.2.2.blk HD1.out (by decide) (by omega)
  have hd2:=HP.out.2.2.blk HD2.out (by decide) (by omega)
  have hbf:=HP.out.1
  clear HP d0 f0 c1 c20 c21 c22 c23 c24 c25 c3 hn1 hn2 hn3
  go_upto_region 11 with(fail)
  generalize World.setCell w3 _ _=W1 at hkw hbw hd1 hd2 hbf⊢
  have c1:W1.cell? ⟨w.heap.size,0,none⟩=some (.pointer (some ⟨g,0,none⟩)):=hd1.cell rfl
  have c22:W1.cell? ⟨w.heap.size+1,2,none⟩=some (.int .i64 n):=hd2.cell rfl
  have c23:W1.cell? ⟨w.heap.size+1,3,none⟩=some (.string (bs s)):=hd2.cell rfl
  have hlt1:=hd1.lt
  have hlt2:=hd2.lt
  have HKW:=hid hkw
  have HBW:=hid hbw
  have HBF:=hid hbf
  clear hkw hbw hbf hd1 hd2
  have hB1:B<=W1.heap.size:=by omega
  refine mix_start [12] (Cls W1) (by kernel_rfl) (Cls.of ((Below.refl _ _).drew)) ?_
  refine mix_flt (by kernel_rfl) [0,1,2,3,4,5,6,7,8,9,10,11] 1 _ _ (by kernel_rfl) ?_
  simp only[opsAt,zo1,zo2,zo3,zo4,zo5]
  unfold Cls
  repeat(go_big_quiet_step (fail))
  refine wpQuiet_nil ?_
  (try rw[←Cls_def])
  refine mix_end [12] (by kernel_rfl) (fun w1 hw1=>?_)
  simp only[opsAt,zo1,zo2,zo3,zo4,zo5]
  rw[zig_walk n hn0' hn1']
  go_wp2_with fail
  go_at_call 116
  refine(buffer_number_any B g 138 (by decide) L1 (zigN n) w1 (HBF.out.ext hw1.below) (Nat.le_trans hB1 hw1.below.size) (by omega) (zigN_lt hn0' hn1')).mono ?_
  rintro e' w4 ⟨rfl,hb4,hbw4,hkt4⟩
  have HB4:=hid hb4
  have HBW4:=hid (Below.trans HBW.out (Below.trans (hw1.below.mono hB1) (hbw4.mono (Nat.le_refl _))))
  have HK4:=hid (HKW.out.trans ((KeptT.of_below hw1.below).trans hkt4))
  clear hb4 hkt4 hbw4
  go_wp2
  refine Calm.normal ?_
  go_end0
  exact⟨rfl,by rw[HFL.out,HLV0.out];have:=HB4.out;rw[HL1.out,List.append_assoc]at this;exact this,HBW4.out,HK4.out⟩
 have q2:((k:Int)==2)=false:=by simp;omega
 by_cases k3:k=3
 ·skip
  have hLV0:LV=4::bytesL s:=by rw[HLV.out,k3,textV];simp
  have q3:((k:Int)==3)=true:=by simp;omega
  clear k3
  have hbl:s.length<=(bytesL s).length:=by rw[bytesL,List.length_append];omega
  have hLVl:LV.length=(bytesL s).length+1:=by rw[hLV0];simp
  obtain⟨L1,hL1⟩:∃L1,L1=L++[4]:=⟨_,rfl⟩
  have hl1:L1.length<=L.length+1:=by rw[hL1];simp
  have HL1:=hid hL1
  have HLV0:=hid hLV0
  clear hL1 hLV0
  have hlim2:L.length+64<=140737488355328:=by omega
  go_wp2
  refine mixW_start [11] (ClsT W0) (by kernel_rfl) (ClsT.drew W0) (fun hCw=>?_)
  refine mixW_flt (by kernel_rfl) [0,1,2,3,4,5] 6 _ _ hCw (by kernel_rfl) ?_
  simp only[opsAt,zo1,zo2,zo3,zo4,zo5]
  unfold ClsT
  repeat(go_big_quiet_step (fail))
  refine wpQuiet_nil ?_
  (try rw[←ClsT_def])
  refine mixW_ch (i:=6) (fuel:=5) (by kernel_rfl) _ rfl ?_
  go_wp2_with(fail)
  refine ThenW.mk (hCw.trans (KeptA.of_below ((Below.refl _ _).alloc (Nat.le_refl _) _))) (fun hCw=>?_)
  refine mixW_chL (i:=7) (fuel:=4) (by kernel_rfl) (by kernel_rfl) ?_
  simp only[opsAt,zo1,zo2,zo3,zo4,zo5]
  refine push_byte B rfl _ _ 85 5 rfl Tryz.underlying85 (by kernel_rfl) _ L L1 4 4 rfl HL1.out W0.heap.size ((IsBlk.new _ _ _).drew) (own_ext (own_alloc HO.out _) ((Below.refl _ _).drew)) rfl rfl (by simp;omega) (by omega) ?_
  intro v1 w3 hown3 hg3
  go_simp
  go_wp2_with(fail)
  refine ThenW.mk (hCw.trans (KeptA.grown (own_ext (own_alloc HO.out _) ((Below.refl _ _).drew)) hg3)) (fun hCw=>?_)
  refine mixW_flt (by kernel_rfl) [8,9,10] 1 _ _ hCw (by kernel_rfl) ?_
  simp only[opsAt,zo1,zo2,zo3,zo4,zo5]
  unfold ClsT
  repeat(go_big_quiet_step (fail))
  refine wpQuiet_nil ?_
  (try rw[←ClsT_def])
  refine mixW_end [11] (by kernel_rfl) ?_
  simp only[opsAt,zo1,zo2,zo3,zo4,zo5]
  have hg4:W0.grownBy w3 (Value.slice p L.length c).ownBlock:=World.grownBy.trans (World.grownBy_alloc _ _ _) (World.grownBy.trans (grownD _ _) hg3)
  have hput:=Buf.put (t:=138) (by decide) hBg HBK.out HO.out hown3 hg4 hB0
  have hb3:=blk_grown HBK.out hg4 (own_neW HO.out HBK.out (by decide))
  have f0:w3.frozen? ⟨g,0,none⟩=false:=hb3.frozen 0
  have d0:w3.cell? ⟨g,0,none⟩=some (.slice p L.length c):=hb3.cell rfl
  have hv1:∃p1 c1,v1=.slice p1 L1.length c1:=by
   rcases hown3.2 with⟨rfl,h0⟩|⟨g',cap,cur,rfl,_⟩
   ·exact⟨none,0,by rw[h0]⟩
   ·exact⟨_,_,rfl⟩
  obtain⟨p1,j1,rfl⟩:=hv1
  have HP:=hid hput
  clear hput hb3 hg3 hg4 hown3 hCw
  go_wp2
  refine Calm.normal ?_
  have hkw:=(KeptT.of_below (g:=g) HB0.out).trans HP.out.2.2
  have hbw:=Below.trans (HB0.out.mono hBw) (HP.out.2.1.mono (Nat.le_refl _))
  have hd1:=HP.out.2.2.blk HD1.out (by decide) (by omega)
  have hd2:=HP.out.2.2.blk HD2.out (by decide) (by omega)
  have hbf:=HP.out.1
  clear HP d0 f0 c1 c20 c21 c22 c23 c24 c25 c3 hn1 hn2 hn3
  go_upto_region 14 with(fail)
  generalize World.setCell w3 _ _=W1 at hkw hbw hd1 hd2 hbf⊢
  have c1:W1.cell? ⟨w.heap.size,0,none⟩=some (.pointer (some ⟨g,0,none⟩)):=hd1.cell rfl
  have c22:W1.cell? ⟨w.heap.size+1,2,none⟩=some (.int .i64 n):=hd2.cell rfl
  have c23:W1.cell? ⟨w.heap.size+1,3,none⟩=some (.string (bs s)):=hd2.cell rfl
  have hlt1:=hd1.lt
  have hlt2:=hd2.lt
  have HKW:=hid hkw
  have HBW:=hid hbw
  have HBF:=hid hbf
  clear hkw hbw hbf hd1 hd2
  have hB1:B<=W1.heap.size:=by omega
  refine mix_start [5] (Cls W1) (by kernel_rfl) (Cls.of ((Below.refl _ _).drew)) ?_
  refine mix_flt (by kernel_rfl) [0,1,2,3,4] 1 _ _ (by kernel_rfl) ?_
  simp only[opsAt,zo1,zo2,zo3,zo4,zo5]
  unfold Cls
  repeat(go_big_quiet_step (fail))
  refine wpQuiet_nil ?_
  (try rw[←Cls_def])
  refine mix_end [5] (by kernel_rfl) (fun w1 hw1=>?_)
  simp only[opsAt,zo1,zo2,zo3,zo4,zo5]
  skip
  go_wp2_with fail
  go_at_call 117
  refine(buffer_text_any B g 138 (by decide) L1 s w1 (HBF.out.ext hw1.below) (Nat.le_trans hB1 hw1.below.size) (by omega)).mono ?_
  rintro e' w4 ⟨rfl,hb4,hbw4,hkt4⟩
  have HB4:=hid hb4
  have HBW4:=hid (Below.trans HBW.out (Below.trans (hw1.below.mono hB1) (hbw4.mono (Nat.le_refl _))))
  have HK4:=hid (HKW.out.trans ((KeptT.of_below hw1.below).trans hkt4))
  clear hb4 hkt4 hbw4
  go_wp2
  refine Calm.normal ?_
  go_end0
  exact⟨rfl,by rw[HFL.out,HLV0.out];have:=HB4.out;rw[HL1.out,List.append_assoc]at this;exact this,HBW4.out,HK4.out⟩
 have q3:((k:Int)==3)=false:=by simp;omega
 by_cases k4:k=4
 ·skip
  have hLV0:LV=5::bytesL s:=by rw[HLV.out,k4,textV];simp
  have q4:((k:Int)==4)=true:=by simp;omega
  clear k4
  have hbl:s.length<=(bytesL s).length:=by rw[bytesL,List.length_append];omega
  have hLVl:LV.length=(bytesL s).length+1:=by rw[hLV0];simp
  obtain⟨L1,hL1⟩:∃L1,L1=L++[5]:=⟨_,rfl⟩
  have hl1:L1.length<=L.length+1:=by rw[hL1];simp
  have HL1:=hid hL1
  have HLV0:=hid hLV0
  clear hL1 hLV0
  have hlim2:L.length+64<=140737488355328:=by omega
  go_wp2
  refine mixW_start [11] (ClsT W0) (by kernel_rfl) (ClsT.drew W0) (fun hCw=>?_)
  refine mixW_flt (by kernel_rfl) [0,1,2,3,4,5] 6 _ _ hCw (by kernel_rfl) ?_
  simp only[opsAt,zo1,zo2,zo3,zo4,zo5]
  unfold ClsT
  repeat(go_big_quiet_step (fail))
  refine wpQuiet_nil ?_
  (try rw[←ClsT_def])
  refine mixW_ch (i:=6) (fuel:=5) (by kernel_rfl) _ rfl ?_
  go_wp2_with(fail)
  refine ThenW.mk (hCw.trans (KeptA.of_below ((Below.refl _ _).alloc (Nat.le_refl _) _))) (fun hCw=>?_)
  refine mixW_chL (i:=7) (fuel:=4) (by kernel_rfl) (by kernel_rfl) ?_
  simp only[opsAt,zo1,zo2,zo3,zo4,zo5]
  refine push_byte B rfl _ _ 85 5 rfl Tryz.underlying85 (by kernel_rfl) _ L L1 5 5 rfl HL1.out W0.heap.size ((IsBlk.new _ _ _).drew) (own_ext (own_alloc HO.out _) ((Below.refl _ _).drew)) rfl rfl (by simp;omega) (by omega) ?_
  intro v1 w3 hown3 hg3
  go_simp
  go_wp2_with(fail)
  refine ThenW.mk (hCw.trans (KeptA.grown (own_ext (own_alloc HO.out _) ((Below.refl _ _).drew)) hg3)) (fun hCw=>?_)
  refine mixW_flt (by kernel_rfl) [8,9,10] 1 _ _ hCw (by kernel_rfl) ?_
  simp only[opsAt,zo1,zo2,zo3,zo4,zo5]
  unfold ClsT
  repeat(go_big_quiet_step (fail))
  refine wpQuiet_nil ?_
  (try rw[←ClsT_def])
  refine mixW_end [11] (by kernel_rfl) ?_
  simp only[opsAt,zo1,zo2,zo3,zo4,zo5]
  have hg4:W0.grownBy w3 (Value.slice p L.length c).ownBlock:=World.grownBy.trans (World.grownBy_alloc _ _ _) (World.grownBy.trans (grownD _ _) hg3)
  have hput:=Buf.put (t:=138) (by decide) hBg HBK.out HO.out hown3 hg4 hB0
  have hb3:=blk_grown HBK.out hg4 (own_neW HO.out HBK.out (by decide))
  have f0:w3.frozen? ⟨g,0,none⟩=false:=hb3.frozen 0
  have d0:w3.cell? ⟨g,0,none⟩=some (.slice p L.length c):=hb3.cell rfl
  have hv1:∃p1 c1,v1=.slice p1 L1.length c1:=by
   rcases hown3.2 with⟨rfl,h0⟩|⟨g',cap,cur,rfl,_⟩
   ·exact⟨none,0,by rw[h0]⟩
   ·exact⟨_,_,rfl⟩
  obtain⟨p1,j1,rfl⟩:=hv1
  have HP:=hid hput
  clear hput hb3 hg3 hg4 hown3 hCw
  go_wp2
  refine Calm.normal ?_
  have hkw:=(KeptT.of_below (g:=g) HB0.out).trans HP.out.2.2
  have hbw:=Below.trans (HB0.out.mono hBw) (HP.out.2.1.mono (Nat.le_refl _))
  have hd1:=HP.out.2.2.blk HD1.out (by decide) (by omega)
  have hd2:=HP.out.2.2.blk HD2.out (by decide) (by omega)
  have hbf:=HP.out.1
  clear HP d0 f0 c1 c20 c21 c22 c23 c24 c25 c3 hn1 hn2 hn3
  go_upto_region 17 with(fail)
  generalize World.setCell w3 _ _=W1 at hkw hbw hd1 hd2 hbf⊢
  have c1:W1.cell? ⟨w.heap.size,0,none⟩=some (.pointer (some ⟨g,0,none⟩)):=hd1.cell rfl
  have c22:W1.cell? ⟨w.heap.size+1,2,none⟩=some (.int .i64 n):=hd2.cell rfl
  have c23:W1.cell? ⟨w.heap.size+1,3,none⟩=some (.string (bs s)):=hd2.cell rfl
  have hlt1:=hd1.lt
  have hlt2:=hd2.lt
  have HKW:=hid hkw
  have HBW:=hid hbw
  have HBF:=hid hbf
  clear hkw hbw hbf hd1 hd2
  have hB1:B<=W1.heap.size:=by omega
  refine mix_start [5] (Cls W1) (by kernel_rfl) (Cls.of ((Below.refl _ _).drew)) ?_
  refine mix_flt (by kernel_rfl) [0,1,2,3,4] 1 _ _ (by kernel_rfl) ?_
  simp only[opsAt,zo1,zo2,zo3,zo4,zo5]
  unfold Cls
  repeat(go_big_quiet_step (fail))
  refine wpQuiet_nil ?_
  (try rw[←Cls_def])
  refine mix_end [5] (by kernel_rfl) (fun w1 hw1=>?_)
  simp only[opsAt,zo1,zo2,zo3,zo4,zo5]
  skip
  go_wp2_with fail
  go_at_call 117
  refine(buffer_text_any B g 138 (by decide) L1 s w1 (HBF.out.ext hw1.below) (Nat.le_trans hB1 hw1.below.size) (by omega)).mono ?_
  rintro e' w4 ⟨rfl,hb4,hbw4,hkt4⟩
  have HB4:=hid hb4
  have HBW4:=hid (Below.trans HBW.out (Below.trans (hw1.below.mono hB1) (hbw4.mono (Nat.le_refl _))))
  have HK4:=hid (HKW.out.trans ((KeptT.of_below hw1.below).trans hkt4))
  clear hb4 hkt4 hbw4
  go_wp2
  refine Calm.normal ?_
  go_end0
  exact⟨rfl,by rw[HFL.out,HLV0.out];have:=HB4.out;rw[HL1.out,List.append_assoc]at this;exact this,HBW4.out,HK4.out⟩
 have q4:((k:Int)==4)=false:=by simp;omega
 by_cases k5:k=5
 ·skip
  have hLV0:LV=6::(numL l.length++textL l):=by rw[HLV.out,k5,textV];simp
  have q5:((k:Int)==5)=true:=by simp;omega
  clear k5
  have hlimP:L.length+(6::(numL ll++catN (tsL l) ll)).length+64<=140737488355328:=by rw[HLL.out,catN_L,←hLV0];exact hlim
  have hfin:L++6::(numL ll++catN (tsL l) ll)=FL:=by rw[HLL.out,catN_L,←hLV0,←HFL.out]
  have HFN:=hid hfin
  have HP:=hid hlimP
  clear hfin hlimP hLV0
  go_wp2_with fail
  go_at_call 118
  refine(parts1_any B g L W0 (HB.out.ext HB0.out) hB0 6 6 rfl ll (by omega) (tsL l) (.pointer (some ⟨w.heap.size,0,none⟩)) (.pointer (some ⟨w.heap.size+1,0,none⟩)) HP.out ?one).mono ?_
  case one=>
   intro i l' wx hi hbf hbw hkt hlx
   exact wv_list l HOL.out S B g w.heap.size (w.heap.size+1) k b n s pl cl pf lf cf (by rw[←HLL.out];omega) i l' wx (by rw[←HLL.out];exact hi) hbf (Nat.le_trans hB0 hbw.size) HSS.out (HL.out.ext_to (fun _ h=>h) (fun b hb hlt=>(hbw.block b (HSS.out b hb)).trans (HB0.out.block b hlt))) (hkt.blk HD1.out (by decide) (by omega)) (hkt.blk (by rw[←HLL.out];exact HD2.out) (by decide) (by omega)) hlx
  rintro e' w4 ⟨rfl,hb4,hbw4,hkt4⟩
  rw[HFN.out]at hb4
  have HB4:=hid hb4
  have HBW4:=hid (Below.trans (HB0.out.mono hBw) (hbw4.mono (Nat.le_refl _)))
  have HK4:=hid ((KeptT.of_below HB0.out).trans hkt4)
  clear hb4 hbw4 hkt4
  go_wp2
  go_end0
  exact⟨rfl,HB4.out,HBW4.out,HK4.out⟩
 have q5:((k:Int)==5)=false:=by simp;omega
 by_cases k6:k=6
 ·skip
  have hLV0:LV=7::(numL f.length++textF f):=by rw[HLV.out,k6,textV];simp
  have q6:((k:Int)==6)=true:=by simp;omega
  clear k6
  have hlimP:L.length+(7::(numL lf++catN (tsF f) lf)).length+64<=140737488355328:=by rw[HLF.out,catN_F,←hLV0];exact hlim
  have hfin:L++7::(numL lf++catN (tsF f) lf)=FL:=by rw[HLF.out,catN_F,←hLV0,←HFL.out]
  have HFN:=hid hfin
  have HP:=hid hlimP
  clear hfin hlimP hLV0
  go_wp2_with fail
  go_at_call 118
  refine(parts2_any B g L W0 (HB.out.ext HB0.out) hB0 7 7 rfl lf (by omega) (tsF f) (.pointer (some ⟨w.heap.size,0,none⟩)) (.pointer (some ⟨w.heap.size+1,0,none⟩)) HP.out ?one).mono ?_
  case one=>
   intro i l' wx hi hbf hbw hkt hlx
   exact wv_fields f HOF.out S B g w.heap.size (w.heap.size+1) k b n s pl ll cl pf cf (by rw[←HLF.out];omega) i l' wx (by rw[←HLF.out];exact hi) hbf (Nat.le_trans hB0 hbw.size) HSS.out (HF.out.ext_to (fun _ h=>h) (fun b hb hlt=>(hbw.block b (HSS.out b hb)).trans (HB0.out.block b hlt))) (hkt.blk HD1.out (by decide) (by omega)) (hkt.blk (by rw[←HLF.out];exact HD2.out) (by decide) (by omega)) (by omega) (by omega) hlx
  rintro e' w4 ⟨rfl,hb4,hbw4,hkt4⟩
  rw[HFN.out]at hb4
  have HB4:=hid hb4
  have HBW4:=hid (Below.trans (HB0.out.mono hBw) (hbw4.mono (Nat.le_refl _)))
  have HK4:=hid ((KeptT.of_below HB0.out).trans hkt4)
  clear hb4 hbw4 hkt4
  go_wp2
  go_end0
  exact⟨rfl,HB4.out,HBW4.out,HK4.out⟩
 have q6:((k:Int)==6)=false:=by simp;omega
 have hLV0:FL=L:=by rw[HFL.out,HLV.out,textV];simp[k0,k1,k2,k3,k4,k5,k6]
 have HF0:=hid hLV0
 clear hLV0
 go_wp2
 go_end0
 exact⟨rfl,by rw[HF0.out];exact HB.out.ext HB0.out,HB0.out.mono hBw,KeptT.of_below HB0.out⟩
theorem wv_all :∀(m:Nat) (v:DVal),SizeOf.sizeOf v<m->WvOk v:=by
 intro m
 induction m with
 |zero=>intro v h;omega
 |succ m ih=>
  intro v h
  obtain⟨k,b,n,s,l,f⟩:=v
  exact wv_step k b n s l f (fun v hv=>ih v (by have:=DVal.size_l (k:=k) (b:=b) (n:=n) (s:=s) (f:=f) v hv;omega)) (fun p hp=>ih p.2 (by have:=DVal.size_f (k:=k) (b:=b) (n:=n) (s:=s) (l:=l) p hp;omega))
theorem wv_any (v:DVal):WvOk v:=wv_all _ v (Nat.lt_succ_self _)
def readN :Bool->Nat->List UInt8->Option (Nat×Nat)
 |_,0,_=>none
 |_,_+1,[]=>none
 |first,k+1,b::s=>if b.toNat<128 then(if(k=0/\1<b.toNat)\/(first=false/\b.toNat=0)then none else some (b.toNat,1))else(readN false k s).map fun p=>(b.toNat%128+128*p.1,p.2+1)
def readNum (s:List UInt8):Option (Nat×Nat):=readN true 10 s
theorem u8_nat_low (m:Nat) (h:m<256):(UInt8.ofNat m).toNat=m:=by
 rw[UInt8.toNat_ofNat']
 omega
theorem readN_numF :∀(k n:Nat) (first:Bool) (s:List UInt8),n<2*128^k->(first=true\/0<n)->readN first (k+1) (numF (k+1) n++s)=some (n,(numF (k+1) n).length):=by
 intro k
 induction k with
 |zero=>
  intro n first s hn hf
  rw[Nat.pow_zero]at hn
  rw[numF_small (by omega),List.singleton_append,readN,u8_nat_low _ (by omega),if_pos (by omega),if_neg]
  ·rfl
  ·rintro(h|h)
   ·omega
   ·rcases hf with h1|h1
    ·rw[h1]at h;cases h.1
    ·omega
 |succ k ih=>
  intro n first s hn hf
  by_cases hlt:n<128
  ·rw[numF_small hlt,List.singleton_append,readN,u8_nat_low _ (by omega),if_pos hlt,if_neg]
   ·rfl
   ·rintro(h|h)
    ·omega
    ·rcases hf with h1|h1
     ·rw[h1]at h;cases h.1
     ·omega
  ·rw[numF_big hlt,List.cons_append,readN,u8_nat_low _ (by omega),if_neg (by omega),ih (n/128) false s (by rw[Nat.pow_succ]at hn;omega) (Or.inr (by omega))]
   simp only[Option.map_some,List.length_cons,Option.some.injEq,Prod.mk.injEq,and_true]
   omega
theorem readNum_numL (n:Nat) (h:n<18446744073709551616) (s:List UInt8):readNum (numL n++s)=some (n,(numL n).length):=readN_numF 9 n true s (by omega) (Or.inl rfl)
theorem readN_pos :∀(k:Nat) (first:Bool) (s:List UInt8) (v c:Nat),readN first k s=some (v,c)->(first=true\/0<v)/\numF k v=s.take c/\c<=s.length/\1<=c/\c<=k:=by
 intro k
 induction k with
 |zero=>intro first s v c h;cases h
 |succ k ih=>
  intro first s v c h
  cases s with
  |nil=>cases h
  |cons b s=>
   rw[readN]at h
   by_cases hb:b.toNat<128
   ·rw[if_pos hb]at h
    by_cases hc:(k=0/\1<b.toNat)\/(first=false/\b.toNat=0)
    ·rw[if_pos hc]at h;cases h
    ·rw[if_neg hc]at h
     simp only[Option.some.injEq,Prod.mk.injEq]at h
     obtain⟨rfl,rfl⟩:=h
     refine⟨?_,?_,by simp,by omega,by omega⟩
     ·cases first with
      |true=>exact Or.inl rfl
      |false=>right;have: ¬b.toNat=0:=fun e=>hc (Or.inr ⟨rfl,e⟩);omega
     ·rw[numF_small hb]
      simp
   ·rw[if_neg hb]at h
    rw[Option.map_eq_some_iff]at h
    obtain⟨p,hp,he⟩:=h
    simp only[Prod.mk.injEq]at he
    obtain⟨rfl,rfl⟩:=he
    obtain⟨h1,h2,h3,h4,h5⟩:=ih false s p.1 p.2 hp
    have hp0:0<p.1:=by
     rcases h1 with h1|h1
     ·cases h1
     ·exact h1
    have hb2:=b.toNat_lt
    refine⟨Or.inr (by omega),?_,by simp;omega,by omega,by omega⟩
    rw[numF_big (by omega),show(b.toNat%128+128*p.1)/128=p.1 by omega,h2,show(b.toNat%128+128*p.1)%128+128=b.toNat by omega,List.take_succ_cons]
    congr 1
    exact UInt8.ofNat_toNat
theorem or_join64 (a x i:Nat) (ha:a<2^i) (hx:x*2^i<18446744073709551616) (ha64:a<18446744073709551616):bits .or .u64 (a:Int) ((x*2^i:Nat):Int)=((a+x*2^i:Nat):Int):=by
 rw[bits_or_u64_nat a (x*2^i) ha64 hx]
 congr 1
 rw[Nat.or_comm,Nat.mul_comm,←Nat.two_pow_add_eq_or_of_lt ha,Nat.add_comm]
theorem and127 (m:Int) (h0:0<=m) (h:m<256):bits .and .u8 m 127=m%128:=by
 obtain⟨a,rfl⟩:=Int.eq_ofNat_of_zero_le h0
 have key:∀a:Fin 256,bits .and .u8 ((a.val:Nat):Int) 127=(a.val:Int)%128:=by decide+kernel
 exact key ⟨a,by omega⟩
theorem two_seven (k:Nat):(2:Nat)^(7*k)=128^k:=by rw[Nat.pow_mul]
theorem pow128 (k:Nat) (hk:k<=9):1<=128^k/\128^k<=9223372036854775808:=by
 match k,hk with
 |0,_|1,_|2,_|3,_|4,_|5,_|6,_|7,_|8,_|9,_=>decide
theorem step64 (a b k:Nat) (hk:k<=9) (ha:a<128^k) (hb:b<256) (h:k<9\/b%128<=1):
 bits .or .u64 (a:Int) (IntKind.u64.wrap (IntKind.u64.wrap (bits .and .u8 (b:Int) 127)*2^(7*k)))=((a+128^k*(b%128):Nat):Int):=by
 have hp:=pow128 k hk
 have hm:(b%128)*2^(7*k)<18446744073709551616:=by
  rw[two_seven]
  rcases h with h|h
  ·have h8:128^k<=72057594037927936:=by
    match k,h with
    |0,_|1,_|2,_|3,_|4,_|5,_|6,_|7,_|8,_=>decide
   calc (b%128)*128^k<=127*128^k:=Nat.mul_le_mul_right _ (by omega)
    _<_:=by omega
  ·calc (b%128)*128^k<=1*128^k:=Nat.mul_le_mul_right _ h
    _<_:=by omega
 have hm2:(0:Int)<=(b:Int)%128/\(b:Int)%128<=18446744073709551615:=by omega
 rw[and127 _ (by omega) (by omega),IntWalk.u64_in ((b:Int)%128) hm2]
 have e1:((b:Int)%128*2^(7*k))=(((b%128)*2^(7*k):Nat):Int):=by
  rw[Int.natCast_mul,Int.natCast_emod,Int.natCast_pow]
  rfl
 rw[e1,IntWalk.u64_in _ (by omega),or_join64 a (b%128) (7*k) (by rw[two_seven];exact ha) hm (by omega),two_seven,Nat.mul_comm]
def rdP :Option (Nat×Nat)->Int×Int×Int
 |some (v,c)=>((v:Int),(c:Int),0)
 |none=>(0,0,11)
theorem readN_bad {first:Bool} {k:Nat} {b:UInt8} {s:List UInt8} (hb:b.toNat<128) (h:(k=0/\1<b.toNat)\/(first=false/\b.toNat=0)):readN first (k+1) (b::s)=none:=by
 rw[readN,if_pos hb,if_pos h]
theorem readN_ok {first:Bool} {k:Nat} {b:UInt8} {s:List UInt8} (hb:b.toNat<128) (h: ¬((k=0/\1<b.toNat)\/(first=false/\b.toNat=0))):readN first (k+1) (b::s)=some (b.toNat,1):=by
 rw[readN,if_pos hb,if_neg h]
theorem readN_more {first:Bool} {k:Nat} {b:UInt8} {s:List UInt8} (hb: ¬b.toNat<128):readN first (k+1) (b::s)=(readN false k s).map fun p=>(b.toNat%128+128*p.1,p.2+1):=by
 rw[readN,if_neg hb]
theorem readN_nil {first:Bool} {k:Nat}:readN first k []=none:=by cases k<;>rfl
theorem drop_at (s:ByteArray) (k:Nat) (h:k<s.size):s.data.toList.drop k=s[k]::s.data.toList.drop (k+1):=by
 rw[List.drop_eq_getElem_cons (by simpa using h)]
 rfl
def RdAt (l:List UInt8) (k:Nat) (a:Int):Prop:=(k<10->∃a':Nat,a=a'/\a'<128^k/\readNum l=(readN (decide (k=0)) (10-k) (l.drop k)).map fun p=>(a'+128^k*p.1,k+p.2))/\(k=10->readNum l=none)
theorem rdAt_more {l:List UInt8} {k:Nat} {a:Int} {b:UInt8} (h:RdAt l k a) (hk:k<10) (hd:l.drop k=b::l.drop (k+1)) (hb:128<=b.toNat):
 RdAt l (k+1) (bits .or .u64 a (IntKind.u64.wrap (IntKind.u64.wrap (bits .and .u8 (b.toNat:Int) 127)*2^(7*k)))):=by
 obtain⟨a',rfl,ha,hr⟩:=h.1 hk
 have hb2:=b.toNat_lt
 rw[hd,show 10-k=(9-k)+1 by omega,readN_more (by omega)]at hr
 refine⟨fun h9=>⟨_,step64 a' b.toNat k (by omega) ha hb2 (Or.inl (by omega)),?_,?_⟩,fun h9=>?_⟩
 ·have hp:=pow128 k (by omega)
  have:128^k*(b.toNat%128)<=128^k*127:=Nat.mul_le_mul_left _ (by omega)
  rw[Nat.pow_succ]
  omega
 ·rw[hr,Option.map_map,show decide (k+1=0)=false by simp,show 10-(k+1)=9-k by omega]
  congr 1
  funext p
  simp only[Function.comp,Prod.mk.injEq]
  refine⟨?_,by omega⟩
  rw[Nat.pow_succ,Nat.mul_add,Nat.mul_assoc]
  omega
 ·rw[hr,show 9-k=0 by omega]
  rfl
theorem rdAt_bad {l:List UInt8} {k:Nat} {a:Int} {b:UInt8} (h:RdAt l k a) (hk:k<10) (hd:l.drop k=b::l.drop (k+1)) (hb:b.toNat<128) (hbad:(k=9/\1<b.toNat)\/(0<k/\b.toNat=0)):readNum l=none:=by
 obtain⟨a',rfl,ha,hr⟩:=h.1 hk
 rw[hr,hd,show 10-k=(9-k)+1 by omega,readN_bad hb (by rcases hbad with h|h;exact Or.inl ⟨by omega,h.2⟩;exact Or.inr ⟨by simp;omega,h.2⟩)]
 rfl
theorem rdAt_ok {l:List UInt8} {k:Nat} {a:Int} {b:UInt8} (h:RdAt l k a) (hk:k<10) (hd:l.drop k=b::l.drop (k+1)) (hb:b.toNat<128) (hbad: ¬((k=9/\1<b.toNat)\/(0<k/\b.toNat=0))):
 (rdP (readNum l))=(bits .or .u64 a (IntKind.u64.wrap (IntKind.u64.wrap (bits .and .u8 (b.toNat:Int) 127)*2^(7*k))),(k:Int)+1,0):=by
 obtain⟨a',rfl,ha,hr⟩:=h.1 hk
 rw[step64 a' b.toNat k (by omega) ha b.toNat_lt (by omega),hr,hd,show 10-k=(9-k)+1 by omega,readN_ok hb (by
  rintro(h|h)
  ·exact hbad (Or.inl ⟨by omega,h.2⟩)
  ·have:=h.1;simp at this;exact hbad (Or.inr ⟨by omega,h.2⟩))]
 show((_:Int),(_:Int),(0:Int))=_
 rw[Nat.mod_eq_of_lt hb]
 rfl
theorem rdAt_end {l:List UInt8} {k:Nat} {a:Int} (h:RdAt l k a) (hk:k<=10) (hd:k=10\/l.length<=k):readNum l=none:=by
 rcases hd with h1|h1
 ·exact h.2 h1
 ·by_cases h10:k=10
  ·exact h.2 h10
  ·obtain⟨a',_,_,hr⟩:=h.1 (by omega)
   rw[hr,List.drop_eq_nil_of_le h1,readN_nil]
   rfl
set_option maxHeartbeats 1000000 in
theorem bin_readNumber_any (s:ByteArray) (w:World) (hs:s.size<=281474976710656):
 Calls Tryz.prog 160 #[.string s] w fun e' w'=>e'=.returned (.tuple #[.int .u64 (rdP (readNum s.data.toList)).1,.int .i64 (rdP (readNum s.data.toList)).2.1,.int .i64 (rdP (readNum s.data.toList)).2.2])/\w=w':=by
 obtain⟨r,hr⟩:∃r,r=rdP (readNum s.data.toList):=⟨_,rfl⟩
 rw[←hr]
 have HL:=hid hr;clear hr
 go_enter Tryz.func160,Tryz.ntmps160
 go_wp2
 go_loop [6,5] (fun i v=>∃(k:Nat) (a:Int),i=.int .i64 k/\v=.int .u64 a/\k<=10/\k<=s.size/\RdAt s.data.toList k a) (fun i _=>10-(intOf i).toNat)
 case atStart=>
  refine⟨0,0,rfl,rfl,by omega,by omega,⟨fun _=>⟨0,rfl,by simp,?_⟩,fun h=>by cases h⟩⟩
  simp[readNum]
 case round=>
 obtain⟨k,a,rfl,rfl,hk,hks,hrd⟩:=hrel
 have HR:=hid hrd;clear hrd
 by_cases hlt:k<10/\k<s.size
 ·have i0:(k:Int)<(s.size:Int):=by omega
  have i1:(k:Int)<10:=by omega
  have hx0:(s[k]'hlt.2).toNat<256:=(s[k]'hlt.2).toNat_lt
  have HD:=hid (drop_at s k hlt.2)
  by_cases hb:s[k].toNat<128
  ·have hbI:((s[k]'hlt.2).toNat:Int)<128:=by omega
   by_cases hbad:(k=9/\1<s[k].toNat)\/(0<k/\s[k].toNat=0)
   ·have HB:=hid (rdAt_bad HR.out hlt.1 HD.out hb hbad)
    go_wp2
    all_goals first|(exfalso;(try simp only[beq_iff_eq,beq_eq_false_iff_ne,ne_eq]at*);omega)|(have hr:=HL.out;rw[HB.out]at hr;exact bodyPost_ret (v:=.tuple #[.int .u64 r.1,.int .i64 r.2.1,.int .i64 r.2.2]) (by rw[hr];simp[results,Tryz.results160,go_sem,rdP]<;>omega) rfl ⟨rfl,rfl⟩)|trace_state
   ·have HB:=hid (rdAt_ok HR.out hlt.1 HD.out hb hbad)
    go_wp2
    all_goals first|(exfalso;(try simp only[beq_iff_eq,beq_eq_false_iff_ne,ne_eq]at*);omega)|(have hr:=HL.out;rw[HB.out]at hr;exact bodyPost_ret (v:=.tuple #[.int .u64 r.1,.int .i64 r.2.1,.int .i64 r.2.2]) (by rw[hr];simp[results,Tryz.results160,go_sem,rdP]<;>omega) rfl ⟨rfl,rfl⟩)|trace_state
  ·have hbI:(128:Int)<=((s[k]'hlt.2).toNat:Int):=by omega
   go_wp2
   all_goals
    go_round
    case rel=>exact⟨k+1,_,by go_num,rfl,by omega,by omega,rdAt_more HR.out hlt.1 HD.out (by omega)⟩
    case measure=>simp[intOf];omega
 ·have HE:=hid (rdAt_end HR.out hk (by rcases Nat.lt_or_ge k 10 with h|h;exact Or.inr (by rw[←ba_size];omega);exact Or.inl (by omega)))
  go_wp2
  all_goals first|(exfalso;(try simp only[beq_iff_eq,beq_eq_false_iff_ne,ne_eq]at*);omega)|(have hr:=HL.out;rw[HE.out]at hr;exact bodyPost_ret (v:=.tuple #[.int .u64 r.1,.int .i64 r.2.1,.int .i64 r.2.2]) (by rw[hr];simp[results,Tryz.results160,go_sem,rdP]<;>omega) rfl ⟨rfl,rfl⟩)|trace_state
def Rd (B g:Nat) (w w':World):Prop:=Below B w w'/\w.heap.size<=w'.heap.size/\∀b,b<w.heap.size->b≠g->w'.heap[b]?=w.heap[b]?
theorem Rd.refl (B g:Nat) (w:World):Rd B g w w:=⟨Below.refl _ _,Nat.le_refl _,fun _ _ _=>rfl⟩
theorem Rd.trans {B g:Nat} {a b c:World} (h:Rd B g a b) (k:Rd B g b c):Rd B g a c:=
 ⟨Below.trans h.1 (k.1.mono (Nat.le_refl _)),Nat.le_trans h.2.1 k.2.1,fun i hi hg=>by rw[k.2.2 i (Nat.lt_of_lt_of_le hi h.2.1) hg,h.2.2 i hi hg]⟩
theorem Rd.of_below {B g:Nat} {w w':World} (h:Below w.heap.size w w') (hB:B<=w.heap.size):Rd B g w w':=⟨h.mono hB,h.size,fun b hb _=>h.block b hb⟩
theorem Rd.set {B g o:Nat} {w w':World} (h:Rd B g w w') (hB:B<=g) (u:Value):Rd B g w (w'.setCell ⟨g,o,none⟩ u):=
 ⟨below_set h.1 hB,by simpa using h.2.1,fun b hb hg=>by rw[Below.heap_setCell _ _ _ _ hg];exact h.2.2 b hb hg⟩
theorem Rd.blk {B g b:Nat} {w w':World} {cs:Array Value} {t:TypeId} (h:Rd B g w w') (hb:IsBlk w b cs t) (hg:b≠g):IsBlk w' b cs t:=(h.2.2 b hb.lt hg).trans hb
abbrev St :=List UInt8×Bool
def takeP (n:Nat) (st:St):List UInt8×St:=if st.2=true\/st.1.length<n then([],(st.1,true))else(st.1.take n,(st.1.drop n,false))
def numP (st:St):Nat×St:=match readNum st.1 with
 |some (v,k)=>(v,if st.2 then st else(st.1.drop k,false))
 |none=>(0,(st.1,true))
def manyP (st:St):Nat×St:=if(numP st).2.2=true\/64<(numP st).1 then(0,((numP st).2.1,true))else numP st
def RdBlk (w:World) (g:Nat) (t:TypeId) (st:St):Prop:=IsBlk w g #[.string (bs st.1),.bool st.2] t
theorem rdBlk_mk {w:World} {g:Nat} {t:TypeId} {l:List UInt8} {b:Bool} (h:IsBlk w g #[.string (bs l),.bool b] t):RdBlk w g t (l,b):=h
set_option maxHeartbeats 1000000 in
theorem take_any (B g:Nat) (t:TypeId) (n:Nat) (st:St) (w:World) (hB:B<=g) (h:RdBlk w g t st) (hl:st.1.length<=281474976710656) (hn:n<18446744073709551616):
 Calls Tryz.prog 135 #[.pointer (some ⟨g,0,none⟩),.int .u64 n] w fun e' w'=>e'=.returned (.string (bs (takeP n st).1))/\RdBlk w' g t (takeP n st).2/\Rd B g w w':=by
 obtain⟨l,bad⟩:=st
 have hsz:=bs_size l
 simp only[]at hl
 have hblk:IsBlk w g #[.string (bs l),.bool bad] t:=h
 have c0:w.cell? ⟨g,0,none⟩=some (.string (bs l)):=hblk.cell rfl
 have c1:w.cell? ⟨g,1,none⟩=some (.bool bad):=hblk.cell rfl
 have f0:w.frozen? ⟨g,0,none⟩=false:=hblk.frozen 0
 have f1:w.frozen? ⟨g,1,none⟩=false:=hblk.frozen 1
 have HK:=hid hblk
 clear hblk h
 obtain⟨R,hR⟩:∃R,R=takeP n (l,bad):=⟨_,rfl⟩
 rw[←hR]
 have HR:=hid hR;clear hR
 cases bad
 ·by_cases hlt:l.length<n
  ·have hltI:(l.length:Int)<(n:Int):=by omega
   have hr:R=([],(l,true)):=by rw[HR.out,takeP,if_pos (Or.inr hlt)]
   clear HR
   subst hr
   go_enter Tryz.func135,Tryz.ntmps135
   go_wp2
   go_ret
   exact⟨rfl,rdBlk_mk (by simpa using HK.out.set 1 (.bool true)),(Rd.refl _ _ _).set hB _⟩
  ·have hltI:(n:Int)<=(l.length:Int):=by omega
   have hr:R=(l.take n,(l.drop n,false)):=by rw[HR.out,takeP,if_neg (by simp;omega)]
   clear HR
   subst hr
   have he1:(bs l).extract 0 n=bs (l.take n):=bs_head l n
   have he2:(bs l).extract n l.length=bs (l.drop n):=by rw[bs_extract,List.take_length]
   have HE1:=hid he1
   have HE2:=hid he2
   clear he1 he2
   go_enter Tryz.func135,Tryz.ntmps135
   go_wp2
   go_ret
   exact⟨by rw[←HE1.out];rfl,rdBlk_mk (by rw[←HE2.out];simpa using HK.out.set 0 (.string ((bs l).extract n l.length))),(Rd.refl _ _ _).set hB _⟩
 ·have hr:R=([],(l,true)):=by rw[HR.out,takeP,if_pos (Or.inl rfl)]
  clear HR
  subst hr
  go_enter Tryz.func135,Tryz.ntmps135
  go_wp2
  go_ret
  exact⟨rfl,rdBlk_mk (by simpa using HK.out.set 1 (.bool true)),(Rd.refl _ _ _).set hB _⟩
theorem takeP_len (n:Nat) (st:St):(takeP n st).2.1.length<=st.1.length:=by
 unfold takeP
 split
 ·exact Nat.le_refl _
 ·simp
theorem readNum_some {l:List UInt8} {v k:Nat} (h:readNum l=some (v,k)):numL v=l.take k/\k<=l.length/\1<=k/\k<=10:=by
 have:=readN_pos 10 true l v k h
 exact⟨this.2.1,this.2.2.1,this.2.2.2.1,this.2.2.2.2⟩
theorem readN_lt :∀(k:Nat) (first:Bool) (s:List UInt8) (v c:Nat),k<=10->readN first k s=some (v,c)->v<2*128^(k-1):=by
 intro k
 induction k with
 |zero=>intro first s v c _ h;cases h
 |succ k ih=>
  intro first s v c hk h
  cases s with
  |nil=>cases h
  |cons b s=>
   rw[readN]at h
   by_cases hb:b.toNat<128
   ·rw[if_pos hb]at h
    by_cases hc:(k=0/\1<b.toNat)\/(first=false/\b.toNat=0)
    ·rw[if_pos hc]at h;cases h
    ·rw[if_neg hc]at h
     simp only[Option.some.injEq,Prod.mk.injEq]at h
     obtain⟨rfl,rfl⟩:=h
     by_cases h0:k=0
     ·subst h0;simp;omega
     ·have:128^1<=128^k:=Nat.pow_le_pow_right (by omega) (by omega)
      rw[show k+1-1=k by omega]
      omega
   ·rw[if_neg hb]at h
    rw[Option.map_eq_some_iff]at h
    obtain⟨p,hp,he⟩:=h
    simp only[Prod.mk.injEq]at he
    obtain⟨rfl,rfl⟩:=he
    have hk0:k≠0:=fun h0=>by subst h0;cases hp
    have:=ih false s p.1 p.2 (by omega) hp
    rw[show k+1-1=(k-1)+1 by omega,Nat.pow_succ]
    omega
theorem readNum_lt {l:List UInt8} {v k:Nat} (h:readNum l=some (v,k)):v<18446744073709551616:=by
 have:=readN_lt 10 true l v k (Nat.le_refl _) h
 simpa using this
theorem numP_lt (st:St):(numP st).1<18446744073709551616:=by
 unfold numP
 split
 ·rename_i v k h
  exact readNum_lt h
 ·exact(by decide:(0:Nat)<18446744073709551616)
theorem numP_len (st:St):(numP st).2.1.length<=st.1.length:=by
 unfold numP
 split
 ·split
  ·exact Nat.le_refl _
  ·simp
 ·exact Nat.le_refl _
set_option maxHeartbeats 1000000 in
theorem number_any (B g:Nat) (t:TypeId) (st:St) (w:World) (hB:B<=g) (h:RdBlk w g t st) (hl:st.1.length<=281474976710656):
 Calls Tryz.prog 136 #[.pointer (some ⟨g,0,none⟩)] w fun e' w'=>e'=.returned (.int .u64 ((numP st).1:Int))/\RdBlk w' g t (numP st).2/\Rd B g w w':=by
 obtain⟨l,bad⟩:=st
 have hsz:=bs_size l
 simp only[]at hl
 have hblk:IsBlk w g #[.string (bs l),.bool bad] t:=h
 have c0:w.cell? ⟨g,0,none⟩=some (.string (bs l)):=hblk.cell rfl
 have c1:w.cell? ⟨g,1,none⟩=some (.bool bad):=hblk.cell rfl
 have f1:w.frozen? ⟨g,1,none⟩=false:=hblk.frozen 1
 have HK:=hid hblk
 clear hblk h
 obtain⟨R,hR⟩:∃R,R=numP (l,bad):=⟨_,rfl⟩
 rw[←hR]
 cases hrn:readNum l with
 |none=>
  rw[numP]at hR
  simp only[hrn]at hR
  subst hR
  have HN:=hid hrn
  clear hrn
  cases bad
  all_goals
   go_enter Tryz.func136,Tryz.ntmps136
   go_wp2_with fail
   go_at_call 160
   refine(bin_readNumber_any (bs l) w (by omega)).mono ?_
   rintro e' w1 ⟨he,rfl⟩
   rw[bs_toList,HN.out,rdP]at he
   subst he
   go_wp2_with fail
   go_at_call 135
   refine(take_any B g t 0 (l,true) _ hB (rdBlk_mk (by simpa using HK.out.set 1 (.bool true))) hl (by omega)).mono ?_
   rintro e' w2 ⟨rfl,hb,hrd⟩
   have HB:=hid hb
   have HR2:=hid (((Rd.refl B g _).set hB (.bool true)).trans hrd)
   clear hb hrd
   go_wp2
   go_ret
   exact⟨rfl,by simpa[takeP]using HB.out,HR2.out⟩
 |some p=>
  obtain⟨v,k⟩:=p
  have hk:=readNum_some hrn
  have hv:=readNum_lt hrn
  rw[numP]at hR
  simp only[hrn]at hR
  subst hR
  have HN:=hid hrn
  have hk10:=hk.2.2.2
  have hkl:=hk.2.1
  clear hrn hk
  cases bad
  ·go_enter Tryz.func136,Tryz.ntmps136
   go_wp2_with fail
   go_at_call 160
   refine(bin_readNumber_any (bs l) w (by omega)).mono ?_
   rintro e' w1 ⟨he,rfl⟩
   rw[bs_toList,HN.out,rdP]at he
   subst he
   go_wp2_with fail
   go_at_call 135
   refine(take_any B g t k (l,false) _ hB (rdBlk_mk (by simpa using HK.out.set 1 (.bool false))) hl (by omega)).mono ?_
   rintro e' w2 ⟨rfl,hb,hrd⟩
   have HB:=hid hb
   have HR2:=hid (((Rd.refl B g _).set hB (.bool false)).trans hrd)
   clear hb hrd
   go_wp2
   go_ret
   exact⟨rfl,by have:=HB.out;rw[takeP,if_neg (by simp;omega)]at this;exact this,HR2.out⟩
  ·go_enter Tryz.func136,Tryz.ntmps136
   go_wp2_with fail
   go_at_call 160
   refine(bin_readNumber_any (bs l) w (by omega)).mono ?_
   rintro e' w1 ⟨he,rfl⟩
   rw[bs_toList,HN.out,rdP]at he
   subst he
   go_wp2_with fail
   go_at_call 135
   refine(take_any B g t k (l,true) _ hB (rdBlk_mk (by simpa using HK.out.set 1 (.bool true))) hl (by omega)).mono ?_
   rintro e' w2 ⟨rfl,hb,hrd⟩
   have HB:=hid hb
   have HR2:=hid (((Rd.refl B g _).set hB (.bool true)).trans hrd)
   clear hb hrd
   go_wp2
   go_ret
   exact⟨rfl,by have:=HB.out;rw[takeP,if_pos (Or.inl rfl)]at this;exact this,HR2.out⟩
theorem manyP_len (st:St):(manyP st).2.1.length<=st.1.length:=by
 unfold manyP
 split<;>exact numP_len st
theorem manyP_le (st:St):(manyP st).1<=64:=by
 unfold manyP
 split<;>omega
set_option maxHeartbeats 1000000 in
theorem many_any (B g:Nat) (st:St) (w:World) (hB:B<=g) (h:RdBlk w g 157 st) (hl:st.1.length<=281474976710656):
 Calls Tryz.prog 137 #[.pointer (some ⟨g,0,none⟩)] w fun e' w'=>e'=.returned (.int .i64 ((manyP st).1:Int))/\RdBlk w' g 157 (manyP st).2/\Rd B g w w':=by
 have HH:=hid h;clear h
 obtain⟨R,hR⟩:∃R,R=manyP st:=⟨_,rfl⟩
 rw[←hR]
 have hn64:=numP_lt st
 go_enter Tryz.func137,Tryz.ntmps137
 go_wp2_with fail
 go_at_call 136
 refine(number_any B g _ st w hB HH.out hl).mono ?_
 rintro e' w1 ⟨rfl,hb,hrd⟩
 rw[manyP]at hR
 obtain⟨n,l1,bad1,hnp⟩:∃n l1 bad1,numP st=(n,l1,bad1):=⟨_,_,_,rfl⟩
 rw[hnp]at hb hR hn64⊢
 simp only[]at hb hR hn64⊢
 have hblk:IsBlk w1 g #[.string (bs l1),.bool bad1] 157:=hb
 have c1:w1.cell? ⟨g,1,none⟩=some (.bool bad1):=hblk.cell rfl
 have f1:w1.frozen? ⟨g,1,none⟩=false:=hblk.frozen 1
 have HK:=hid hblk
 have HRD:=hid hrd
 have HR:=hid hR
 clear hb hblk hrd hR hnp
 cases bad1
 ·by_cases h64:64<n
  ·have hI:(64:Int)<(n:Int):=by omega
   have hr:R=(0,(l1,true)):=by rw[HR.out,if_pos (Or.inr h64)]
   clear HR
   subst hr
   go_wp2
   go_ret
   exact⟨rfl,rdBlk_mk (by simpa using HK.out.set 1 (.bool true)),HRD.out.set hB _⟩
  ·have hI:(n:Int)<=64:=by omega
   have hd:decide ((64:Int)<(n:Int))=false:=decide_eq_false (by omega)
   have hr:R=(n,(l1,false)):=by rw[HR.out,if_neg (by simp;omega)]
   clear HR
   subst hr
   go_wp2
   go_ret
   exact⟨rfl,rdBlk_mk (by simpa using HK.out.set 1 (.bool false)),HRD.out.set hB _⟩
 ·have hr:R=(0,(l1,true)):=by rw[HR.out,if_pos (Or.inl rfl)]
  clear HR
  subst hr
  go_wp2
  go_ret
  exact⟨rfl,rdBlk_mk (by simpa using HK.out.set 1 (.bool true)),HRD.out.set hB _⟩
def repN {α:Type} (f:St->α×St):Nat->St->List α×St
 |0,st=>([],st)
 |n+1,st=>if st.2=true then([],st)else((f st).1::(repN f n (f st).2).1,(repN f n (f st).2).2)
def fieldP (f:St->DVal×St) (st:St):(List UInt8×DVal)×St:=
 (((takeP (numP st).1 (numP st).2).1,(f (takeP (numP st).1 (numP st).2).2).1),(f (takeP (numP st).1 (numP st).2).2).2)
def zagN (n:Nat):Int:=if n%2=0 then((n/2:Nat):Int)else-((n/2:Nat):Int)-1
def valueP :Nat->St->DVal×St
 |0,st=>(.zero,(st.1,true))
 |k+1,(l,bad)=>if bad=true then(.zero,(l,true))else match l with
  |[]=>(.zero,([],true))
  |b::l=>
   if b=0 then(.zero,(l,false))
   else if b=1 then(.mk 1 false 0 [] [] [],(l,false))
   else if b=2 then(.mk 1 true 0 [] [] [],(l,false))
   else if b=3 then(.mk 2 false (zagN (numP (l,false)).1) [] [] [],(numP (l,false)).2)
   else if b=4 then(.mk 3 false 0 (takeP (numP (l,false)).1 (numP (l,false)).2).1 [] [],(takeP (numP (l,false)).1 (numP (l,false)).2).2)
   else if b=5 then(.mk 4 false 0 (takeP (numP (l,false)).1 (numP (l,false)).2).1 [] [],(takeP (numP (l,false)).1 (numP (l,false)).2).2)
   else if b=6 then(.mk 5 false 0 [] (repN (valueP k) (manyP (l,false)).1 (manyP (l,false)).2).1 [],(repN (valueP k) (manyP (l,false)).1 (manyP (l,false)).2).2)
   else if b=7 then(.mk 6 false 0 [] [] (repN (fieldP (valueP k)) (manyP (l,false)).1 (manyP (l,false)).2).1,(repN (fieldP (valueP k)) (manyP (l,false)).1 (manyP (l,false)).2).2)
   else(.zero,(l,true))
def RvPost (B g:Nat) (w:World) (r:DVal×St) (e':Ending) (w':World):Prop:=∃cs,e'=.returned (.agg cs.toArray)/\HasVal (fun b=>w.heap.size<=b) w' r.1 cs/\RdBlk w' g 157 r.2/\Rd B g w w'
def RvOk (k:Nat):Prop:=∀(st:St) (dI:Int) (B g:Nat) (w:World),dI=7-(k:Int)->B<=g->RdBlk w g 157 st->st.1.length<=16384→
 Calls Tryz.prog 108 #[.pointer (some ⟨g,0,none⟩),.int .i64 dI] w (RvPost B g w (valueP k st))
def KeptGW (g:Nat) (w w':World):Prop:=w.heap.size<=w'.heap.size/\∀b,b<w.heap.size->b≠g->w'.heap[b]?=w.heap[b]?
theorem KeptGW.refl (g:Nat) (w:World):KeptGW g w w:=⟨Nat.le_refl _,fun _ _ _=>rfl⟩
theorem KeptGW.trans {g:Nat} {a b c:World} (h:KeptGW g a b) (k:KeptGW g b c):KeptGW g a c:=⟨Nat.le_trans h.1 k.1,fun i hi hg=>by rw[k.2 i (Nat.lt_of_lt_of_le hi h.1) hg,h.2 i hi hg]⟩
theorem KeptGW.of_rd {B g:Nat} {w w':World} (h:Rd B g w w'):KeptGW g w w':=⟨h.2.1,h.2.2⟩
theorem KeptGW.of_below {g:Nat} {w w':World} (h:Below w.heap.size w w'):KeptGW g w w':=⟨h.size,fun b hb _=>h.block b hb⟩
open Classical in
noncomputable def extGW (g:Nat) (w x:World):World:=if KeptGW g w x then x else w
theorem extGW_kept (g:Nat) (w x:World):KeptGW g w (extGW g w x):=by
 unfold extGW
 split
 ·assumption
 ·exact KeptGW.refl _ _
theorem extGW_of {g:Nat} {w x:World} (h:KeptGW g w x):x=extGW g w x:=by
 unfold extGW
 rw[if_pos h]
def ClsGW (g:Nat) (w:World):World->Prop:=fun w'=>∃x,w'=extGW g w x
theorem ClsGW_def (g:Nat) (w:World):ClsGW g w=fun w'=>∃x,w'=extGW g w x:=rfl
theorem ClsGW.of {g:Nat} {w x:World} (h:KeptGW g w x):ClsGW g w x:=⟨x,extGW_of h⟩
theorem ClsGW.kept {g:Nat} {w x:World} (h:ClsGW g w x):KeptGW g w x:=by
 obtain⟨y,rfl⟩:=h
 exact extGW_kept g w y
theorem ClsGW.drew (g:Nat) (w:World):ClsGW g w {w with drawn:=w.drawn+1}:=.of ⟨Nat.le_refl _,fun _ _ _=>rfl⟩
theorem ClsGW.trans {g:Nat} {w x y:World} (h:ClsGW g w x) (k:KeptGW g x y):ClsGW g w y:=.of (h.kept.trans k)
def OgW (g:Nat) (w:World) (b:Nat):Prop:=b<w.heap.size/\b≠g
@[go_sem] theorem extGW_cell (g : Nat) (w x : World) (b o : Nat) (h : OgW g w b) : (extGW g w x).cell? ⟨b, o, none⟩ = w.cell? ⟨b, o, none⟩ := by
  unfold World.cell?
  rw[(extGW_kept g w x).2 b h.1 h.2]
theorem xor_comm64 (a b:Int):bits .xor .i64 a b=bits .xor .i64 b a:=by
 show IntKind.i64.wrap ((BitVec.ofInt 64 a^^^BitVec.ofInt 64 b).toNat:Int)=IntKind.i64.wrap ((BitVec.ofInt 64 b^^^BitVec.ofInt 64 a).toNat:Int)
 rw[BitVec.xor_comm]
theorem xor_zero64 (a:Nat) (ha:a<9223372036854775808):bits .xor .i64 (a:Int) 0=(a:Int):=by
 show IntKind.i64.wrap ((BitVec.ofInt 64 (a:Int)^^^BitVec.ofInt 64 0).toNat:Int)=_
 have h1:BitVec.ofInt 64 0=0#64:=by decide
 rw[h1,BitVec.xor_zero,ofInt_u64 a (by omega)]
 simp[IntKind.wrap,IntKind.bits,IntKind.signed]
 omega
theorem zag_walk (n:Nat) (hn:n<18446744073709551616):bits .xor .i64 ((n:Int)/2) (wrap64 (-wrap64 (bits .and .u64 (n:Int) 1)))=zagN n:=by
 have e:bits .and .u64 (n:Int) ((1:Nat):Int)=((n%2:Nat):Int):=by
  rw[bits_and_u64_nat n 1 hn (by decide),Nat.and_one_is_mod]
 have e':bits .and .u64 (n:Int) 1=((n%2:Nat):Int):=e
 have e2:(n:Int)/2=((n/2:Nat):Int):=by omega
 rw[e',e2,zagN]
 rcases Nat.mod_two_eq_zero_or_one n with h|h
 ·rw[h,if_pos rfl]
  have:wrap64 (-wrap64 ((0:Nat):Int))=0:=by unfold wrap64;decide
  rw[this,xor_zero64 _ (by omega)]
 ·rw[h,if_neg (by decide)]
  have:wrap64 (-wrap64 ((1:Nat):Int))= -1:=by unfold wrap64;decide
  rw[this,xor_comm64,i64_not _ (by omega)]
  omega
theorem zagN_range (n:Nat) (hn:n<18446744073709551616): -9223372036854775808<=zagN n/\zagN n<=9223372036854775807:=by
 unfold zagN
 split<;>omega
theorem results_cW {P:Program} {fn:Func} {p:Tmp} {ty:TypeId} (h:fn.results= #[.cell p ty]) {tmps:Array Value} {w:World} {g:Nat} {t:TypeId} {cs:Array Value} {d:TypeDesc}
 (hp:tmps.getD p undef=.pointer (some ⟨g,0,none⟩)) (hg:IsBlk w g cs t) (hu:P.underlying ty=some d) (hd:(match d with| .struct _| .array _ _=>true|_=>false)=true) (hi:(P.info? ty).map (·.size)=some cs.size):
 (results fn tmps).run P w=.ok (.agg cs) w:=by
 have hp':tmps[p]?.getD undef=.pointer (some ⟨g,0,none⟩):=by simpa using hp
 simp[results,h,hp',asAddr,run_loadVar_row w g t ty cs (0,0) d hg hu hd hi]
theorem zero_hasW (S:Nat->Prop) (w:World):HasVal S w .zero [.int .u8 0,.bool false,.int .i64 0,.string (bs []),.slice none 0 0,.slice none 0 0]:=
 hasVal_mk.2 ⟨none,0,none,0,rfl,⟨by omega,by omega,by omega,by simp,by simp,by simp,by simp,by unfold maxLen;omega,by simp,by unfold maxLen;omega⟩,fun i hi=>by simp at hi,fun i hi=>by simp at hi⟩
theorem flat_has (S:Nat->Prop) (w:World) (k:Nat) (hk:k<256) (b:Bool) (n:Int) (h0: -9223372036854775808<=n) (h1:n<=9223372036854775807) (s:List UInt8) (hs:s.length<=1073741824):HasVal S w (.mk k b n s [] []) [.int .u8 (k:Int),.bool b,.int .i64 n,.string (bs s),.slice none 0 0,.slice none 0 0]:=
 hasVal_mk.2 ⟨none,0,none,0,rfl,⟨hk,h0,h1,hs,by simp,by simp,by simp,by unfold maxLen;omega,by simp,by unfold maxLen;omega⟩,fun i hi=>by simp at hi,fun i hi=>by simp at hi⟩
theorem set6 {w:World} {g:Nat} {t:TypeId} {a0 a1 a2 a3 a4 a5:Value} (h:IsBlk w g #[a0,a1,a2,a3,a4,a5] t) (c0 c1 c2 c3 c4 c5:Value):
 IsBlk ((((((w.setCell ⟨g,0,none⟩ c0).setCell ⟨g,1,none⟩ c1).setCell ⟨g,2,none⟩ c2).setCell ⟨g,3,none⟩ c3).setCell ⟨g,4,none⟩ c4).setCell ⟨g,5,none⟩ c5) g #[c0,c1,c2,c3,c4,c5] t:=by
 simpa using(((((h.set 0 c0).set 1 c1).set 2 c2).set 3 c3).set 4 c4).set 5 c5
theorem Rd.setN {B g b o:Nat} {w w':World} (h:Rd B g w w') (hB:B<=w.heap.size) (hb:w.heap.size<=b) (u:Value):Rd B g w (w'.setCell ⟨b,o,none⟩ u):=
 ⟨below_set h.1 (by omega),by simpa using h.2.1,fun i hi hg=>by rw[Below.heap_setCell _ _ _ _ (show i≠b by omega)];exact h.2.2 i hi hg⟩
theorem Rd.set6 {B g b:Nat} {w w':World} (h:Rd B g w w') (hB:B<=w.heap.size) (hb:w.heap.size<=b) (c0 c1 c2 c3 c4 c5:Value):
 Rd B g w ((((((w'.setCell ⟨b,0,none⟩ c0).setCell ⟨b,1,none⟩ c1).setCell ⟨b,2,none⟩ c2).setCell ⟨b,3,none⟩ c3).setCell ⟨b,4,none⟩ c4).setCell ⟨b,5,none⟩ c5):=
 (((((h.setN hB hb c0).setN hB hb c1).setN hB hb c2).setN hB hb c3).setN hB hb c4).setN hB hb c5
theorem Rd.alloc {B g:Nat} {w w':World} (h:Rd B g w w') (hB:B<=w'.heap.size) (o:Obj):Rd B g w (w'.alloc o):=h.trans (Rd.of_below ((Below.refl _ _).alloc (Nat.le_refl _) o) hB)
theorem oth6 {w:World} {g b:Nat} {cs:Array Value} {t:TypeId} (h:IsBlk w g cs t) (hne:b≠g) (c0 c1 c2 c3 c4 c5:Value):
 IsBlk ((((((w.setCell ⟨b,0,none⟩ c0).setCell ⟨b,1,none⟩ c1).setCell ⟨b,2,none⟩ c2).setCell ⟨b,3,none⟩ c3).setCell ⟨b,4,none⟩ c4).setCell ⟨b,5,none⟩ c5) g cs t:=
 (((((h.set_other hne c0).set_other hne c1).set_other hne c2).set_other hne c3).set_other hne c4).set_other hne c5
theorem Rd.grown {B g:Nat} {w w1 w2:World} {row:Option Nat} (h:Rd B g w w1) (hg:w1.grownBy w2 row) (hB:B<=w.heap.size) (hr:∀k,row=some k->w.heap.size<=k):Rd B g w w2:=
 ⟨h.1.grown hg (by have:=h.2.1;omega) (fun k hk=>by have:=hr k hk;omega),Nat.le_trans h.2.1 hg.size,fun b hb hbg=>by
   rw[hg.block b (Nat.lt_of_lt_of_le hb h.2.1) (fun e=>by have:=hr b e.symm;omega),h.2.2 b hb hbg]⟩
theorem repN_zero {α:Type} (f:St->α×St) (st:St):repN f 0 st=([],st):=rfl
theorem repN_bad {α:Type} (f:St->α×St) (n:Nat) (l:List UInt8):repN f n (l,true)=([],(l,true)):=by cases n<;>rfl
theorem repN_more {α:Type} (f:St->α×St) (n:Nat) (l:List UInt8):repN f (n+1) (l,false)=((f (l,false)).1::(repN f n (f (l,false)).2).1,(repN f n (f (l,false)).2).2):=rfl
theorem repN_len {α:Type} (f:St->α×St) (hf:∀st,(f st).2.1.length<=st.1.length):∀(n:Nat) (st:St),(repN f n st).2.1.length<=st.1.length
 |0,st=>Nat.le_refl _
 |n+1,st=>by
  rw[repN]
  split
  ·exact Nat.le_refl _
  ·exact Nat.le_trans (repN_len f hf n _) (hf st)
theorem valueP_len :∀(k:Nat) (st:St),(valueP k st).2.1.length<=st.1.length:=by
 intro k
 induction k with
 |zero=>intro st;exact Nat.le_refl _
 |succ k ih=>
  rintro⟨l,bad⟩
  cases bad
  ·cases l with
   |nil=>exact Nat.le_refl _
   |cons b l=>
    have h1:=numP_len (l,false)
    have h2:=takeP_len (numP (l,false)).1 (numP (l,false)).2
    have h3:=manyP_len (l,false)
    have h4:=repN_len (valueP k) ih (manyP (l,false)).1 (manyP (l,false)).2
    have h5:=repN_len (fieldP (valueP k)) (fun st=>Nat.le_trans (ih _) (Nat.le_trans (takeP_len _ _) (numP_len st))) (manyP (l,false)).1 (manyP (l,false)).2
    simp only[]at h1 h2 h3 h4 h5
    rw[valueP,if_neg (by decide)]
    simp only[List.length_cons]
    repeat' split
    all_goals(simp only[];omega)
  ·exact Nat.le_refl _
theorem rv_fin {tmps:Array Value} {w w2:World} {B g h:Nat} {r:DVal×St} {a0 a1 a2 a3 a4 a5 c0 c1 c2 c3 c4 c5:Value} (hp:tmps.getD 4 undef=.pointer (some ⟨h,0,none⟩)) (hz:IsBlk w2 h #[a0,a1,a2,a3,a4,a5] 52) (hne:h≠g) (hrb:RdBlk w2 g 157 r.2) (hrd:Rd B g w w2) (hB:B<=w.heap.size) (hh:w.heap.size<=h)
 (hv:∀w',(∀b,b≠h->w'.heap[b]?=w2.heap[b]?)->HasVal (fun b=>w.heap.size<=b) w' r.1 [c0,c1,c2,c3,c4,c5]):
 bodyPost Tryz.prog Tryz.f108 (RvPost B g w r) Exit.ret {tmps:=tmps,defers:=[]}
  ((((((w2.setCell ⟨h,0,none⟩ c0).setCell ⟨h,1,none⟩ c1).setCell ⟨h,2,none⟩ c2).setCell ⟨h,3,none⟩ c3).setCell ⟨h,4,none⟩ c4).setCell ⟨h,5,none⟩ c5):=by
 have hz6:=Go.Proofs.YtcihbnpckicljaaGreatDoor.set6 hz c0 c1 c2 c3 c4 c5
 refine bodyPost_ret (v:=.agg #[c0,c1,c2,c3,c4,c5]) (results_cW (p:=4) (ty:=52) Tryz.results108 hp hz6 Tryz.underlying52 rfl (by kernel_rfl)) rfl ⟨[c0,c1,c2,c3,c4,c5],rfl,hv _ (fun b hb=>?_),oth6 hrb hne c0 c1 c2 c3 c4 c5,hrd.set6 hB hh c0 c1 c2 c3 c4 c5⟩
 have e:∀(W:World) (o:Nat) (u:Value),(W.setCell ⟨h,o,none⟩ u).heap[b]?=W.heap[b]?:=fun W o u=>Below.heap_setCell _ _ _ _ hb
 rw[e,e,e,e,e,e]
set_option maxHeartbeats 4000000 in
theorem rv_step (k:Nat) (ih:∀k',k=k'+1->RvOk k') (hk7:k<=7):RvOk k:=by
 intro st dI B g w hdI hBg hrb hl
 obtain⟨l,bad⟩:=st
 simp only[]at hl
 obtain⟨R,hR⟩:∃R,R=valueP k (l,bad):=⟨_,rfl⟩
 rw[←hR]
 have hblk:IsBlk w g #[.string (bs l),.bool bad] 157:=hrb
 clear hrb
 have hglt:=hblk.lt
 have hsz:=bs_size l
 by_cases hA:bad=true\/k=0
 ·have hR2:R=(.zero,(l,true)):=by
   rw[hR]
   cases k with
   |zero=>rfl
   |succ k=>
    have hb:bad=true:=hA.resolve_right (by omega)
    subst hb
    rfl
  have hd6:bad=false->(6:Int)<dI:=fun hb=>by
   have:k=0:=hA.resolve_left (by rw[hb];decide)
   omega
  clear hR
  subst hR2
  have HD:=hid hdI
  have HI:=hid ih
  clear hdI hA ih
  have c1:w.cell? ⟨g,1,none⟩=some (.bool bad):=hblk.cell rfl
  have f1:w.frozen? ⟨g,1,none⟩=false:=hblk.frozen 1
  have HK:=hid hblk
  clear hblk
  have hW:∀x,RdBlk ((w.setCell ⟨g,1,none⟩ (.bool true)).alloc x) g 157 (l,true):=fun x=>rdBlk_mk (by simpa using(HK.out.set 1 (.bool true)).alloc x)
  have hBw:B<=w.heap.size:=by omega
  have hRW:∀x,Rd B g w ((w.setCell ⟨g,1,none⟩ (.bool true)).alloc x):=fun x=>((Rd.refl B g w).set hBg _).alloc (by simpa using hBw) x
  have HW:=hid hW
  have HRW:=hid hRW
  clear hW hRW
  have hd:bad=true\/(bad=false/\(6:Int)<dI):=by
   cases bad
   ·exact Or.inr ⟨rfl,hd6 rfl⟩
   ·exact Or.inl rfl
  clear hd6
  rcases hd with hd|⟨hd,hd2⟩
  all_goals
   subst hd
   go_enter Tryz.func108,Tryz.ntmps108
   go_wp2_with fail
   go_at_call 135
   refine(take_any B g 157 1 (l,true) _ hBg (HW.out _) (show l.length<=281474976710656 by omega) (by omega)).mono ?_
   rintro e' w2 ⟨rfl,hb,hrd⟩
   have hb2:IsBlk w2 g #[.string (bs l),.bool true] 157:=by
    have:RdBlk w2 g 157 (takeP 1 (l,true)).2:=hb
    rw[takeP,if_pos (Or.inl rfl)]at this
    exact this
   have hz:=hrd.blk (IsBlk.new_at (by simp)) (by omega:w.heap.size≠g)
   have hr2:=(HRW.out _).trans hrd
   have c1:w2.cell? ⟨g,1,none⟩=some (.bool true):=hb2.cell rfl
   have fz:∀i,w2.frozen? ⟨w.heap.size,i,none⟩=false:=fun i=>hz.frozen i
   have f0:=fz 0
   have f1:=fz 1
   have f2:=fz 2
   have f3:=fz 3
   have f4:=fz 4
   have f5:=fz 5
   have z0:w2.cell? ⟨w.heap.size,0,none⟩=some (.int .u8 0):=hz.cell rfl
   have z1:w2.cell? ⟨w.heap.size,1,none⟩=some (.bool false):=hz.cell rfl
   have z2:w2.cell? ⟨w.heap.size,2,none⟩=some (.int .i64 0):=hz.cell rfl
   have z3:w2.cell? ⟨w.heap.size,3,none⟩=some (.string (bs [])):=hz.cell rfl
   have z4:w2.cell? ⟨w.heap.size,4,none⟩=some (.slice none 0 0):=hz.cell rfl
   have z5:w2.cell? ⟨w.heap.size,5,none⟩=some (.slice none 0 0):=hz.cell rfl
   have HZ:=hid hz
   have HB2:=hid hb2
   have HR2:=hid hr2
   clear hb hrd hb2 hz hr2 fz
   go_wp2
   exact rv_fin (r:=(.zero,(l,true))) rfl HZ.out (by omega) HB2.out HR2.out hBw (Nat.le_refl _) (fun w' _=>zero_hasW _ w')
 ·skip
  have hbad:bad=false:=by cases bad<;>simp_all
  have hk0:k≠0:=fun h=>hA (Or.inr h)
  obtain⟨k,rfl⟩:∃k',k=k'+1:=⟨k-1,by omega⟩
  have IH:=hid (ih k rfl)
  have hd6:dI<=6:=by omega
  have hd0:0<=dI:=by omega
  have hdb:decide ((6:Int)<dI)=false:=decide_eq_false (by omega)
  have HD:=hid hdI
  clear hA ih hk0 hdI
  subst hbad
  have c1:w.cell? ⟨g,1,none⟩=some (.bool false):=hblk.cell rfl
  have f1:w.frozen? ⟨g,1,none⟩=false:=hblk.frozen 1
  have hW:∀x,RdBlk ((w.setCell ⟨g,1,none⟩ (.bool false)).alloc x) g 157 (l,false):=fun x=>rdBlk_mk (by simpa using(hblk.set 1 (.bool false)).alloc x)
  have hBw:B<=w.heap.size:=by omega
  have hRW:∀x,Rd B g w ((w.setCell ⟨g,1,none⟩ (.bool false)).alloc x):=fun x=>((Rd.refl B g w).set hBg _).alloc (by simpa using hBw) x
  have HW:=hid hW
  have HRW:=hid hRW
  clear hW hRW hblk
  cases l with
  |nil=>
   have hRe:R=(.zero,([],true)):=by rw[hR];rfl
   clear hR
   subst hRe
   go_enter Tryz.func108,Tryz.ntmps108
   go_wp2_with fail
   go_at_call 135
   refine(take_any B g 157 1 ([],false) _ hBg (HW.out _) (show([]).length<=281474976710656 by(try rw[List.length_cons]);omega) (by omega)).mono ?_
   rintro e' w2 ⟨he,hb,hrd⟩
   rw[show takeP 1 ([],false)=([],([],true))from rfl]at he hb
   subst he
   have hb2:IsBlk w2 g #[.string (bs []),.bool true] 157:=hb
   have hz:=hrd.blk (IsBlk.new_at (by simp)) (by omega:w.heap.size≠g)
   have hr2:=(HRW.out _).trans hrd
   have c1:w2.cell? ⟨g,1,none⟩=some (.bool true):=hb2.cell rfl
   have fz:∀i,w2.frozen? ⟨w.heap.size,i,none⟩=false:=fun i=>hz.frozen i
   have f0:=fz 0
   have f1:=fz 1
   have f2:=fz 2
   have f3:=fz 3
   have f4:=fz 4
   have f5:=fz 5
   have z0:w2.cell? ⟨w.heap.size,0,none⟩=some (.int .u8 0):=hz.cell rfl
   have z1:w2.cell? ⟨w.heap.size,1,none⟩=some (.bool false):=hz.cell rfl
   have z2:w2.cell? ⟨w.heap.size,2,none⟩=some (.int .i64 0):=hz.cell rfl
   have z3:w2.cell? ⟨w.heap.size,3,none⟩=some (.string (bs [])):=hz.cell rfl
   have z4:w2.cell? ⟨w.heap.size,4,none⟩=some (.slice none 0 0):=hz.cell rfl
   have z5:w2.cell? ⟨w.heap.size,5,none⟩=some (.slice none 0 0):=hz.cell rfl
   have hg2:=hb2.lt
   have hh2:=hz.lt
   have HZ:=hid hz
   have HB2:=hid hb2
   have HR2:=hid hr2
   clear hb hrd hb2 hz hr2 fz
   go_wp2
   exact rv_fin (r:=(.zero,([],true))) rfl HZ.out (by omega) HB2.out HR2.out hBw (Nat.le_refl _) (fun w' _=>zero_hasW _ w')
  |cons b l=>
   simp only[List.length_cons]at hl hsz
   have h01:0<(bs [b]).size:=by rw[bs_size];simp
   have hs1:(bs [b]).size=1:=bs_size [b]
   obtain⟨q,hq⟩:∃q,q=b.toNat:=⟨_,rfl⟩
   have hbx:(bs [b])[0].toNat=q:=by rw[hq];rfl
   have hq256:q<256:=by rw[hq];exact b.toNat_lt
   have hbq:∀n:Nat,n<256->(b=UInt8.ofNat n↔q=n):=fun n hn=>by
    rw[hq]
    constructor
    ·intro h;rw[h,UInt8.toNat_ofNat'];omega
    ·intro h;rw[←h];exact(UInt8.ofNat_toNat).symm
   have HQ:=hid hq
   have HB0q:Hid (b=0↔q=0):=hid (hbq 0 (by decide))
   have HB1q:Hid (b=1↔q=1):=hid (hbq 1 (by decide))
   have HB2q:Hid (b=2↔q=2):=hid (hbq 2 (by decide))
   have HB3q:Hid (b=3↔q=3):=hid (hbq 3 (by decide))
   have HB4q:Hid (b=4↔q=4):=hid (hbq 4 (by decide))
   have HB5q:Hid (b=5↔q=5):=hid (hbq 5 (by decide))
   have HB6q:Hid (b=6↔q=6):=hid (hbq 6 (by decide))
   have HB7q:Hid (b=7↔q=7):=hid (hbq 7 (by decide))
   clear hq hbq
   by_cases k0:q=0
   ·skip
    have hRe:R=(.zero,(l,false)):=by
     rw[hR,valueP,if_neg (by decide)]
     (try simp only[])
     rw[if_pos (HB0q.out.2 k0)]
    clear hR
    subst hRe
    have q0:((q:Int)==0)=true:=by simp;omega
    go_enter Tryz.func108,Tryz.ntmps108
    go_wp2_with fail
    go_at_call 135
    refine(take_any B g 157 1 (b::l,false) _ hBg (HW.out _) (show(b::l).length<=281474976710656 by(try rw[List.length_cons]);omega) (by omega)).mono ?_
    rintro e' w2 ⟨he,hb,hrd⟩
    rw[show takeP 1 (b::l,false)=([b],(l,false))by rw[takeP,if_neg (by simp)];rfl]at he hb
    subst he
    have hb2:IsBlk w2 g #[.string (bs l),.bool false] 157:=hb
    have hz:=hrd.blk (IsBlk.new_at (by simp)) (by omega:w.heap.size≠g)
    have hr2:=(HRW.out _).trans hrd
    have c1:w2.cell? ⟨g,1,none⟩=some (.bool false):=hb2.cell rfl
    have fz:∀i,w2.frozen? ⟨w.heap.size,i,none⟩=false:=fun i=>hz.frozen i
    have f0:=fz 0
    have f1:=fz 1
    have f2:=fz 2
    have f3:=fz 3
    have f4:=fz 4
    have f5:=fz 5
    have z0:w2.cell? ⟨w.heap.size,0,none⟩=some (.int .u8 0):=hz.cell rfl
    have z1:w2.cell? ⟨w.heap.size,1,none⟩=some (.bool false):=hz.cell rfl
    have z2:w2.cell? ⟨w.heap.size,2,none⟩=some (.int .i64 0):=hz.cell rfl
    have z3:w2.cell? ⟨w.heap.size,3,none⟩=some (.string (bs [])):=hz.cell rfl
    have z4:w2.cell? ⟨w.heap.size,4,none⟩=some (.slice none 0 0):=hz.cell rfl
    have z5:w2.cell? ⟨w.heap.size,5,none⟩=some (.slice none 0 0):=hz.cell rfl
    have hg2:=hb2.lt
    have hh2:=hz.lt
    have HZ:=hid hz
    have HB2:=hid hb2
    have HR2:=hid hr2
    clear hb hrd hb2 hz hr2 fz
    clear c1
    have c1:w2.cell? ⟨g,1,none⟩=some (.bool false):=HB2.out.cell rfl
    go_wp2
    exact rv_fin (r:=(.zero,(l,false))) rfl HZ.out (by omega) HB2.out HR2.out hBw (Nat.le_refl _) (fun w' _=>zero_hasW _ w')
   by_cases k1:q=1
   ·skip
    have hRe:R=(.mk 1 false 0 [] [] [],(l,false)):=by
     rw[hR,valueP,if_neg (by decide)]
     (try simp only[])
     rw[if_neg (fun h=>k0 (HB0q.out.1 h)),if_pos (HB1q.out.2 k1)]
    clear hR
    subst hRe
    have q0:((q:Int)==0)=false:=by simp;omega
    have q1:((q:Int)==1)=true:=by simp;omega
    go_enter Tryz.func108,Tryz.ntmps108
    go_wp2_with fail
    go_at_call 135
    refine(take_any B g 157 1 (b::l,false) _ hBg (HW.out _) (show(b::l).length<=281474976710656 by(try rw[List.length_cons]);omega) (by omega)).mono ?_
    rintro e' w2 ⟨he,hb,hrd⟩
    rw[show takeP 1 (b::l,false)=([b],(l,false))by rw[takeP,if_neg (by simp)];rfl]at he hb
    subst he
    have hb2:IsBlk w2 g #[.string (bs l),.bool false] 157:=hb
    have hz:=hrd.blk (IsBlk.new_at (by simp)) (by omega:w.heap.size≠g)
    have hr2:=(HRW.out _).trans hrd
    have c1:w2.cell? ⟨g,1,none⟩=some (.bool false):=hb2.cell rfl
    have fz:∀i,w2.frozen? ⟨w.heap.size,i,none⟩=false:=fun i=>hz.frozen i
    have f0:=fz 0
    have f1:=fz 1
    have f2:=fz 2
    have f3:=fz 3
    have f4:=fz 4
    have f5:=fz 5
    have z0:w2.cell? ⟨w.heap.size,0,none⟩=some (.int .u8 0):=hz.cell rfl
    have z1:w2.cell? ⟨w.heap.size,1,none⟩=some (.bool false):=hz.cell rfl
    have z2:w2.cell? ⟨w.heap.size,2,none⟩=some (.int .i64 0):=hz.cell rfl
    have z3:w2.cell? ⟨w.heap.size,3,none⟩=some (.string (bs [])):=hz.cell rfl
    have z4:w2.cell? ⟨w.heap.size,4,none⟩=some (.slice none 0 0):=hz.cell rfl
    have z5:w2.cell? ⟨w.heap.size,5,none⟩=some (.slice none 0 0):=hz.cell rfl
    have hg2:=hb2.lt
    have hh2:=hz.lt
    have HZ:=hid hz
    have HB2:=hid hb2
    have HR2:=hid hr2
    clear hb hrd hb2 hz hr2 fz
    clear c1
    have c1:w2.cell? ⟨g,1,none⟩=some (.bool false):=HB2.out.cell rfl
    go_wp2
    exact rv_fin (r:=(.mk 1 false 0 [] [] [],(l,false))) rfl HZ.out (by omega) HB2.out HR2.out hBw (Nat.le_refl _) (fun w' _=>flat_has _ w' 1 (by decide) false 0 (by decide) (by decide) [] (by decide))
   by_cases k2:q=2
   ·skip
    have hRe:R=(.mk 1 true 0 [] [] [],(l,false)):=by
     rw[hR,valueP,if_neg (by decide)]
     (try simp only[])
     rw[if_neg (fun h=>k0 (HB0q.out.1 h)),if_neg (fun h=>k1 (HB1q.out.1 h)),if_pos (HB2q.out.2 k2)]
    clear hR
    subst hRe
    have q0:((q:Int)==0)=false:=by simp;omega
    have q1:((q:Int)==1)=false:=by simp;omega
    have q2:((q:Int)==2)=true:=by simp;omega
    go_enter Tryz.func108,Tryz.ntmps108
    go_wp2_with fail
    go_at_call 135
    refine(take_any B g 157 1 (b::l,false) _ hBg (HW.out _) (show(b::l).length<=281474976710656 by(try rw[List.length_cons]);omega) (by omega)).mono ?_
    rintro e' w2 ⟨he,hb,hrd⟩
    rw[show takeP 1 (b::l,false)=([b],(l,false))by rw[takeP,if_neg (by simp)];rfl]at he hb
    subst he
    have hb2:IsBlk w2 g #[.string (bs l),.bool false] 157:=hb
    have hz:=hrd.blk (IsBlk.new_at (by simp)) (by omega:w.heap.size≠g)
    have hr2:=(HRW.out _).trans hrd
    have c1:w2.cell? ⟨g,1,none⟩=some (.bool false):=hb2.cell rfl
    have fz:∀i,w2.frozen? ⟨w.heap.size,i,none⟩=false:=fun i=>hz.frozen i
    have f0:=fz 0
    have f1:=fz 1
    have f2:=fz 2
    have f3:=fz 3
    have f4:=fz 4
    have f5:=fz 5
    have z0:w2.cell? ⟨w.heap.size,0,none⟩=some (.int .u8 0):=hz.cell rfl
    have z1:w2.cell? ⟨w.heap.size,1,none⟩=some (.bool false):=hz.cell rfl
    have z2:w2.cell? ⟨w.heap.size,2,none⟩=some (.int .i64 0):=hz.cell rfl
    have z3:w2.cell? ⟨w.heap.size,3,none⟩=some (.string (bs [])):=hz.cell rfl
    have z4:w2.cell? ⟨w.heap.size,4,none⟩=some (.slice none 0 0):=hz.cell rfl
    have z5:w2.cell? ⟨w.heap.size,5,none⟩=some (.slice none 0 0):=hz.cell rfl
    have hg2:=hb2.lt
    have hh2:=hz.lt
    have HZ:=hid hz
    have HB2:=hid hb2
    have HR2:=hid hr2
    clear hb hrd hb2 hz hr2 fz
    clear c1
    have c1:w2.cell? ⟨g,1,none⟩=some (.bool false):=HB2.out.cell rfl
    go_wp2
    exact rv_fin (r:=(.mk 1 true 0 [] [] [],(l,false))) rfl HZ.out (by omega) HB2.out HR2.out hBw (Nat.le_refl _) (fun w' _=>flat_has _ w' 1 (by decide) true 0 (by decide) (by decide) [] (by decide))
   by_cases k3:q=3
   ·skip
    have hRe:R=(.mk 2 false (zagN (numP (l,false)).1) [] [] [],(numP (l,false)).2):=by
     rw[hR,valueP,if_neg (by decide)]
     (try simp only[])
     rw[if_neg (fun h=>k0 (HB0q.out.1 h)),if_neg (fun h=>k1 (HB1q.out.1 h)),if_neg (fun h=>k2 (HB2q.out.1 h)),if_pos (HB3q.out.2 k3)]
    clear hR
    have q0:((q:Int)==0)=false:=by simp;omega
    have q1:((q:Int)==1)=false:=by simp;omega
    have q2:((q:Int)==2)=false:=by simp;omega
    have q3:((q:Int)==3)=true:=by simp;omega
    go_enter Tryz.func108,Tryz.ntmps108
    go_wp2_with fail
    go_at_call 135
    refine(take_any B g 157 1 (b::l,false) _ hBg (HW.out _) (show(b::l).length<=281474976710656 by(try rw[List.length_cons]);omega) (by omega)).mono ?_
    rintro e' w2 ⟨he,hb,hrd⟩
    rw[show takeP 1 (b::l,false)=([b],(l,false))by rw[takeP,if_neg (by simp)];rfl]at he hb
    subst he
    have hb2:IsBlk w2 g #[.string (bs l),.bool false] 157:=hb
    have hz:=hrd.blk (IsBlk.new_at (by simp)) (by omega:w.heap.size≠g)
    have hr2:=(HRW.out _).trans hrd
    have c1:w2.cell? ⟨g,1,none⟩=some (.bool false):=hb2.cell rfl
    have fz:∀i,w2.frozen? ⟨w.heap.size,i,none⟩=false:=fun i=>hz.frozen i
    have f0:=fz 0
    have f1:=fz 1
    have f2:=fz 2
    have f3:=fz 3
    have f4:=fz 4
    have f5:=fz 5
    have z0:w2.cell? ⟨w.heap.size,0,none⟩=some (.int .u8 0):=hz.cell rfl
    have z1:w2.cell? ⟨w.heap.size,1,none⟩=some (.bool false):=hz.cell rfl
    have z2:w2.cell? ⟨w.heap.size,2,none⟩=some (.int .i64 0):=hz.cell rfl
    have z3:w2.cell? ⟨w.heap.size,3,none⟩=some (.string (bs [])):=hz.cell rfl
    have z4:w2.cell? ⟨w.heap.size,4,none⟩=some (.slice none 0 0):=hz.cell rfl
    have z5:w2.cell? ⟨w.heap.size,5,none⟩=some (.slice none 0 0):=hz.cell rfl
    have hg2:=hb2.lt
    have hh2:=hz.lt
    have HZ:=hid hz
    have HB2:=hid hb2
    have HR2:=hid hr2
    clear hb hrd hb2 hz hr2 fz
    clear f0 f1 f2 f3 f4 f5 z0 z1 z2 z3 z4 z5 c1
    have c1:w2.cell? ⟨g,1,none⟩=some (.bool false):=HB2.out.cell rfl
    go_wp2_with fail
    go_at_call 136
    have hnl:=numP_lt (l,false)
    refine(number_any B g 157 (l,false) w2 hBg HB2.out (show l.length<=281474976710656 by omega)).mono ?_
    rintro e' w3 ⟨rfl,hb,hrd⟩
    generalize numP (l,false)=np at hb hRe hnl⊢
    obtain⟨n3,st3⟩:=np
    simp only[]at hb hRe hnl⊢
    subst hRe
    have HZ3:=hid (hrd.blk HZ.out (by omega))
    have HR3:=hid (HR2.out.trans hrd)
    have HB3:=hid hb
    clear hb hrd c1
    have fz:∀i,w3.frozen? ⟨w.heap.size,i,none⟩=false:=fun i=>HZ3.out.frozen i
    have f0:=fz 0
    have f1:=fz 1
    have f2:=fz 2
    have f3:=fz 3
    have f4:=fz 4
    have f5:=fz 5
    have z0:w3.cell? ⟨w.heap.size,0,none⟩=some (.int .u8 0):=HZ3.out.cell rfl
    have z1:w3.cell? ⟨w.heap.size,1,none⟩=some (.bool false):=HZ3.out.cell rfl
    have z2:w3.cell? ⟨w.heap.size,2,none⟩=some (.int .i64 0):=HZ3.out.cell rfl
    have z3:w3.cell? ⟨w.heap.size,3,none⟩=some (.string (bs [])):=HZ3.out.cell rfl
    have z4:w3.cell? ⟨w.heap.size,4,none⟩=some (.slice none 0 0):=HZ3.out.cell rfl
    have z5:w3.cell? ⟨w.heap.size,5,none⟩=some (.slice none 0 0):=HZ3.out.cell rfl
    clear fz
    go_wp2
    rw[zag_walk n3 hnl]
    exact rv_fin (r:=(.mk 2 false (zagN n3) [] [] [],st3)) rfl HZ3.out (by omega) HB3.out HR3.out hBw (Nat.le_refl _) (fun w' _=>flat_has _ w' 2 (by decide) false _ (zagN_range n3 hnl).1 (zagN_range n3 hnl).2 [] (by decide))
   by_cases k4:q=4
   ·skip
    have hRe:R=(.mk 3 false 0 (takeP (numP (l,false)).1 (numP (l,false)).2).1 [] [],(takeP (numP (l,false)).1 (numP (l,false)).2).2):=by
     rw[hR,valueP,if_neg (by decide)]
     (try simp only[])
     rw[if_neg (fun h=>k0 (HB0q.out.1 h)),if_neg (fun h=>k1 (HB1q.out.1 h)),if_neg (fun h=>k2 (HB2q.out.1 h)),if_neg (fun h=>k3 (HB3q.out.1 h)),if_pos (HB4q.out.2 k4)]
    clear hR
    have q0:((q:Int)==0)=false:=by simp;omega
    have q1:((q:Int)==1)=false:=by simp;omega
    have q2:((q:Int)==2)=false:=by simp;omega
    have q3:((q:Int)==3)=false:=by simp;omega
    have q4:((q:Int)==4)=true:=by simp;omega
    go_enter Tryz.func108,Tryz.ntmps108
    go_wp2_with fail
    go_at_call 135
    refine(take_any B g 157 1 (b::l,false) _ hBg (HW.out _) (show(b::l).length<=281474976710656 by(try rw[List.length_cons]);omega) (by omega)).mono ?_
    rintro e' w2 ⟨he,hb,hrd⟩
    rw[show takeP 1 (b::l,false)=([b],(l,false))by rw[takeP,if_neg (by simp)];rfl]at he hb
    subst he
    have hb2:IsBlk w2 g #[.string (bs l),.bool false] 157:=hb
    have hz:=hrd.blk (IsBlk.new_at (by simp)) (by omega:w.heap.size≠g)
    have hr2:=(HRW.out _).trans hrd
    have c1:w2.cell? ⟨g,1,none⟩=some (.bool false):=hb2.cell rfl
    have fz:∀i,w2.frozen? ⟨w.heap.size,i,none⟩=false:=fun i=>hz.frozen i
    have f0:=fz 0
    have f1:=fz 1
    have f2:=fz 2
    have f3:=fz 3
    have f4:=fz 4
    have f5:=fz 5
    have z0:w2.cell? ⟨w.heap.size,0,none⟩=some (.int .u8 0):=hz.cell rfl
    have z1:w2.cell? ⟨w.heap.size,1,none⟩=some (.bool false):=hz.cell rfl
    have z2:w2.cell? ⟨w.heap.size,2,none⟩=some (.int .i64 0):=hz.cell rfl
    have z3:w2.cell? ⟨w.heap.size,3,none⟩=some (.string (bs [])):=hz.cell rfl
    have z4:w2.cell? ⟨w.heap.size,4,none⟩=some (.slice none 0 0):=hz.cell rfl
    have z5:w2.cell? ⟨w.heap.size,5,none⟩=some (.slice none 0 0):=hz.cell rfl
    have hg2:=hb2.lt
    have hh2:=hz.lt
    have HZ:=hid hz
    have HB2:=hid hb2
    have HR2:=hid hr2
    clear hb hrd hb2 hz hr2 fz
    clear f0 f1 f2 f3 f4 f5 z0 z1 z2 z3 z4 z5 c1
    have c1:w2.cell? ⟨g,1,none⟩=some (.bool false):=HB2.out.cell rfl
    go_upto_region 15 with(fail)
    refine mixW_start [7,8,9] (ClsGW g w2) (by kernel_rfl) (ClsGW.drew g w2) (fun hCw=>?_)
    refine mixW_flt (by kernel_rfl) [0,1,2,3,4,5] 4 _ _ hCw (by kernel_rfl) ?_
    simp only[opsAt,zo1,zo2,zo3,zo4,zo5]
    unfold ClsGW
    repeat(go_big_quiet_step (fail))
    refine wpQuiet_nil ?_
    (try rw[←ClsGW_def])
    refine mixW_ch (i:=6) (fuel:=3) (by kernel_rfl) _ rfl ?_
    go_wp2_with(go_at_call 136;refine(number_any B g 157 (l,false) _ hBg (HB2.out.drew) (show l.length<=281474976710656 by omega)).mono ?_;rintro e' w3 ⟨rfl,hb,hrd⟩)
    refine ThenW.mk (hCw.trans (KeptGW.of_rd hrd)) (fun hCw=>?_)
    refine mixW_end [7,8,9] (by kernel_rfl) ?_
    simp only[opsAt,zo1,zo2,zo3,zo4,zo5]
    have hr3:=(HR2.out.trans (Rd.of_below ((Below.refl _ _).drew) (by omega))).trans hrd
    have hz3:=hrd.blk (HZ.out.drew) (by omega:w.heap.size≠g)
    have hnl:=numP_lt (l,false)
    have hnn:=numP_len (l,false)
    generalize numP (l,false)=np at hb hRe hnl hnn⊢
    obtain⟨n3,st3⟩:=np
    simp only[]at hb hRe hnl hnn⊢
    have HR3:=hid hr3
    have HZ3:=hid hz3
    have HB3:=hid hb
    clear hb hrd hr3 hz3 hCw c1
    go_wp2_with fail
    go_at_call 135
    refine(take_any B g 157 n3 st3 w3 hBg HB3.out (by omega) hnl).mono ?_
    rintro e' w4 ⟨rfl,hb,hrd⟩
    have htl:(takeP n3 st3).1.length<=1073741824:=by
     unfold takeP
     split
     ·simp
     ·simp only[List.length_take];omega
    have HZ4:=hid (hrd.blk HZ3.out (by omega))
    have HR4:=hid (HR3.out.trans hrd)
    generalize takeP n3 st3=tp at hb hRe htl⊢
    obtain⟨s4,st4⟩:=tp
    simp only[]at hb hRe htl⊢
    subst hRe
    have HB4:=hid hb
    clear hb hrd
    have fz:∀i,w4.frozen? ⟨w.heap.size,i,none⟩=false:=fun i=>HZ4.out.frozen i
    have f0:=fz 0
    have f1:=fz 1
    have f2:=fz 2
    have f3:=fz 3
    have f4:=fz 4
    have f5:=fz 5
    have z0:w4.cell? ⟨w.heap.size,0,none⟩=some (.int .u8 0):=HZ4.out.cell rfl
    have z1:w4.cell? ⟨w.heap.size,1,none⟩=some (.bool false):=HZ4.out.cell rfl
    have z2:w4.cell? ⟨w.heap.size,2,none⟩=some (.int .i64 0):=HZ4.out.cell rfl
    have z3:w4.cell? ⟨w.heap.size,3,none⟩=some (.string (bs [])):=HZ4.out.cell rfl
    have z4:w4.cell? ⟨w.heap.size,4,none⟩=some (.slice none 0 0):=HZ4.out.cell rfl
    have z5:w4.cell? ⟨w.heap.size,5,none⟩=some (.slice none 0 0):=HZ4.out.cell rfl
    clear fz
    go_wp2
    refine Calm.normal ?_
    go_wp2
    exact rv_fin (r:=(.mk 3 false 0 s4 [] [],st4)) rfl HZ4.out (by omega) HB4.out HR4.out hBw (Nat.le_refl _) (fun w' _=>flat_has _ w' 3 (by decide) false 0 (by decide) (by decide) s4 htl)
   by_cases k5:q=5
   ·skip
    have hRe:R=(.mk 4 false 0 (takeP (numP (l,false)).1 (numP (l,false)).2).1 [] [],(takeP (numP (l,false)).1 (numP (l,false)).2).2):=by
     rw[hR,valueP,if_neg (by decide)]
     (try simp only[])
     rw[if_neg (fun h=>k0 (HB0q.out.1 h)),if_neg (fun h=>k1 (HB1q.out.1 h)),if_neg (fun h=>k2 (HB2q.out.1 h)),if_neg (fun h=>k3 (HB3q.out.1 h)),if_neg (fun h=>k4 (HB4q.out.1 h)),if_pos (HB5q.out.2 k5)]
    clear hR
    have q0:((q:Int)==0)=false:=by simp;omega
    have q1:((q:Int)==1)=false:=by simp;omega
    have q2:((q:Int)==2)=false:=by simp;omega
    have q3:((q:Int)==3)=false:=by simp;omega
    have q4:((q:Int)==4)=false:=by simp;omega
    have q5:((q:Int)==5)=true:=by simp;omega
    go_enter Tryz.func108,Tryz.ntmps108
    go_wp2_with fail
    go_at_call 135
    refine(take_any B g 157 1 (b::l,false) _ hBg (HW.out _) (show(b::l).length<=281474976710656 by(try rw[List.length_cons]);omega) (by omega)).mono ?_
    rintro e' w2 ⟨he,hb,hrd⟩
    rw[show takeP 1 (b::l,false)=([b],(l,false))by rw[takeP,if_neg (by simp)];rfl]at he hb
    subst he
    have hb2:IsBlk w2 g #[.string (bs l),.bool false] 157:=hb
    have hz:=hrd.blk (IsBlk.new_at (by simp)) (by omega:w.heap.size≠g)
    have hr2:=(HRW.out _).trans hrd
    have c1:w2.cell? ⟨g,1,none⟩=some (.bool false):=hb2.cell rfl
    have fz:∀i,w2.frozen? ⟨w.heap.size,i,none⟩=false:=fun i=>hz.frozen i
    have f0:=fz 0
    have f1:=fz 1
    have f2:=fz 2
    have f3:=fz 3
    have f4:=fz 4
    have f5:=fz 5
    have z0:w2.cell? ⟨w.heap.size,0,none⟩=some (.int .u8 0):=hz.cell rfl
    have z1:w2.cell? ⟨w.heap.size,1,none⟩=some (.bool false):=hz.cell rfl
    have z2:w2.cell? ⟨w.heap.size,2,none⟩=some (.int .i64 0):=hz.cell rfl
    have z3:w2.cell? ⟨w.heap.size,3,none⟩=some (.string (bs [])):=hz.cell rfl
    have z4:w2.cell? ⟨w.heap.size,4,none⟩=some (.slice none 0 0):=hz.cell rfl
    have z5:w2.cell? ⟨w.heap.size,5,none⟩=some (.slice none 0 0):=hz.cell rfl
    have hg2:=hb2.lt
    have hh2:=hz.lt
    have HZ:=hid hz
    have HB2:=hid hb2
    have HR2:=hid hr2
    clear hb hrd hb2 hz hr2 fz
    clear f0 f1 f2 f3 f4 f5 z0 z1 z2 z3 z4 z5 c1
    have c1:w2.cell? ⟨g,1,none⟩=some (.bool false):=HB2.out.cell rfl
    go_upto_region 17 with(fail)
    refine mixW_start [7,8,9] (ClsGW g w2) (by kernel_rfl) (ClsGW.drew g w2) (fun hCw=>?_)
    refine mixW_flt (by kernel_rfl) [0,1,2,3,4,5] 4 _ _ hCw (by kernel_rfl) ?_
    simp only[opsAt,zo1,zo2,zo3,zo4,zo5]
    unfold ClsGW
    repeat(go_big_quiet_step (fail))
    refine wpQuiet_nil ?_
    (try rw[←ClsGW_def])
    refine mixW_ch (i:=6) (fuel:=3) (by kernel_rfl) _ rfl ?_
    go_wp2_with(go_at_call 136;refine(number_any B g 157 (l,false) _ hBg (HB2.out.drew) (show l.length<=281474976710656 by omega)).mono ?_;rintro e' w3 ⟨rfl,hb,hrd⟩)
    refine ThenW.mk (hCw.trans (KeptGW.of_rd hrd)) (fun hCw=>?_)
    refine mixW_end [7,8,9] (by kernel_rfl) ?_
    simp only[opsAt,zo1,zo2,zo3,zo4,zo5]
    have hr3:=(HR2.out.trans (Rd.of_below ((Below.refl _ _).drew) (by omega))).trans hrd
    have hz3:=hrd.blk (HZ.out.drew) (by omega:w.heap.size≠g)
    have hnl:=numP_lt (l,false)
    have hnn:=numP_len (l,false)
    generalize numP (l,false)=np at hb hRe hnl hnn⊢
    obtain⟨n3,st3⟩:=np
    simp only[]at hb hRe hnl hnn⊢
    have HR3:=hid hr3
    have HZ3:=hid hz3
    have HB3:=hid hb
    clear hb hrd hr3 hz3 hCw c1
    go_wp2_with fail
    go_at_call 135
    refine(take_any B g 157 n3 st3 w3 hBg HB3.out (by omega) hnl).mono ?_
    rintro e' w4 ⟨rfl,hb,hrd⟩
    have htl:(takeP n3 st3).1.length<=1073741824:=by
     unfold takeP
     split
     ·simp
     ·simp only[List.length_take];omega
    have HZ4:=hid (hrd.blk HZ3.out (by omega))
    have HR4:=hid (HR3.out.trans hrd)
    generalize takeP n3 st3=tp at hb hRe htl⊢
    obtain⟨s4,st4⟩:=tp
    simp only[]at hb hRe htl⊢
    subst hRe
    have HB4:=hid hb
    clear hb hrd
    have fz:∀i,w4.frozen? ⟨w.heap.size,i,none⟩=false:=fun i=>HZ4.out.frozen i
    have f0:=fz 0
    have f1:=fz 1
    have f2:=fz 2
    have f3:=fz 3
    have f4:=fz 4
    have f5:=fz 5
    have z0:w4.cell? ⟨w.heap.size,0,none⟩=some (.int .u8 0):=HZ4.out.cell rfl
    have z1:w4.cell? ⟨w.heap.size,1,none⟩=some (.bool false):=HZ4.out.cell rfl
    have z2:w4.cell? ⟨w.heap.size,2,none⟩=some (.int .i64 0):=HZ4.out.cell rfl
    have z3:w4.cell? ⟨w.heap.size,3,none⟩=some (.string (bs [])):=HZ4.out.cell rfl
    have z4:w4.cell? ⟨w.heap.size,4,none⟩=some (.slice none 0 0):=HZ4.out.cell rfl
    have z5:w4.cell? ⟨w.heap.size,5,none⟩=some (.slice none 0 0):=HZ4.out.cell rfl
    clear fz
    go_wp2
    refine Calm.normal ?_
    go_wp2
    exact rv_fin (r:=(.mk 4 false 0 s4 [] [],st4)) rfl HZ4.out (by omega) HB4.out HR4.out hBw (Nat.le_refl _) (fun w' _=>flat_has _ w' 4 (by decide) false 0 (by decide) (by decide) s4 htl)
   by_cases k6:q=6
   ·skip
    have hRe:R=(.mk 5 false 0 [] (repN (valueP k) (manyP (l,false)).1 (manyP (l,false)).2).1 [],(repN (valueP k) (manyP (l,false)).1 (manyP (l,false)).2).2):=by
     rw[hR,valueP,if_neg (by decide)]
     (try simp only[])
     rw[if_neg (fun h=>k0 (HB0q.out.1 h)),if_neg (fun h=>k1 (HB1q.out.1 h)),if_neg (fun h=>k2 (HB2q.out.1 h)),if_neg (fun h=>k3 (HB3q.out.1 h)),if_neg (fun h=>k4 (HB4q.out.1 h)),if_neg (fun h=>k5 (HB5q.out.1 h)),if_pos (HB6q.out.2 k6)]
    clear hR
    have q0:((q:Int)==0)=false:=by simp;omega
    have q1:((q:Int)==1)=false:=by simp;omega
    have q2:((q:Int)==2)=false:=by simp;omega
    have q3:((q:Int)==3)=false:=by simp;omega
    have q4:((q:Int)==4)=false:=by simp;omega
    have q5:((q:Int)==5)=false:=by simp;omega
    have q6:((q:Int)==6)=true:=by simp;omega
    go_enter Tryz.func108,Tryz.ntmps108
    go_wp2_with fail
    go_at_call 135
    refine(take_any B g 157 1 (b::l,false) _ hBg (HW.out _) (show(b::l).length<=281474976710656 by(try rw[List.length_cons]);omega) (by omega)).mono ?_
    rintro e' w2 ⟨he,hb,hrd⟩
    rw[show takeP 1 (b::l,false)=([b],(l,false))by rw[takeP,if_neg (by simp)];rfl]at he hb
    subst he
    have hb2:IsBlk w2 g #[.string (bs l),.bool false] 157:=hb
    have hz:=hrd.blk (IsBlk.new_at (by simp)) (by omega:w.heap.size≠g)
    have hr2:=(HRW.out _).trans hrd
    have c1:w2.cell? ⟨g,1,none⟩=some (.bool false):=hb2.cell rfl
    have fz:∀i,w2.frozen? ⟨w.heap.size,i,none⟩=false:=fun i=>hz.frozen i
    have f0:=fz 0
    have f1:=fz 1
    have f2:=fz 2
    have f3:=fz 3
    have f4:=fz 4
    have f5:=fz 5
    have z0:w2.cell? ⟨w.heap.size,0,none⟩=some (.int .u8 0):=hz.cell rfl
    have z1:w2.cell? ⟨w.heap.size,1,none⟩=some (.bool false):=hz.cell rfl
    have z2:w2.cell? ⟨w.heap.size,2,none⟩=some (.int .i64 0):=hz.cell rfl
    have z3:w2.cell? ⟨w.heap.size,3,none⟩=some (.string (bs [])):=hz.cell rfl
    have z4:w2.cell? ⟨w.heap.size,4,none⟩=some (.slice none 0 0):=hz.cell rfl
    have z5:w2.cell? ⟨w.heap.size,5,none⟩=some (.slice none 0 0):=hz.cell rfl
    have hg2:=hb2.lt
    have hh2:=hz.lt
    have HZ:=hid hz
    have HB2:=hid hb2
    have HR2:=hid hr2
    clear hb hrd hb2 hz hr2 fz
    clear f0 f1 f2 f3 f4 f5 z0 z1 z2 z3 z4 z5 c1
    have c1:w2.cell? ⟨g,1,none⟩=some (.bool false):=HB2.out.cell rfl
    go_upto_region 20 with(fail)
    generalize hW3:World.alloc w2 _=W3
    have hb3:RdBlk W3 g 157 (l,false):=by rw[←hW3];exact HB2.out.alloc _
    have hz3:IsBlk W3 w.heap.size #[.int .u8 0,.bool false,.int .i64 0,.string (bs []),.slice none 0 0,.slice none 0 0] 52:=by rw[←hW3];exact HZ.out.alloc _
    have hv3:IsBlk W3 w2.heap.size #[.int .u8 5,.bool false,.int .i64 0,.string (bs []),.slice none 0 0,.slice none 0 0] 52:=by rw[←hW3];exact IsBlk.new _ _ _
    have hr3:Rd B g w W3:=by rw[←hW3];exact HR2.out.alloc (by omega) _
    clear hW3 c1
    obtain⟨h7,hh7⟩:∃h7,h7=w2.heap.size:=⟨_,rfl⟩
    rw[←hh7]at hv3⊢
    have hh7l:w.heap.size<h7:=by omega
    have hh7g:g<h7:=by omega
    clear hh7 HZ HB2 HR2 hg2 hh2
    have HB3:=hid hb3
    have HZ3:=hid hz3
    have HV3:=hid hv3
    have HR3:=hid hr3
    clear hb3 hz3 hv3 hr3
    go_wp2_with fail
    go_at_call 137
    have hml:=manyP_len (l,false)
    have hmm:=manyP_le (l,false)
    refine(many_any B g (l,false) W3 hBg HB3.out (show l.length<=281474976710656 by omega)).mono ?_
    rintro e' w4 ⟨rfl,hb,hrd⟩
    generalize manyP (l,false)=mp at hb hRe hml hmm⊢
    obtain⟨m,st4⟩:=mp
    simp only[]at hb hRe hml hmm⊢
    have hv4:=hrd.blk HV3.out (by omega)
    have hh4:=hv4.lt
    have HB4:=hid hb
    have HZ4:=hid (hrd.blk HZ3.out (by omega))
    have HV4:=hid hv4
    have HR4:=hid (HR3.out.trans hrd)
    clear hb hrd hv4 HB3 HZ3 HV3 HR3
    have hRl:R=(.mk 5 false 0 [] ([]++(repN (valueP k) m st4).1) [],(repN (valueP k) m st4).2):=by rw[hRe];rfl
    have HRL:=hid hRl
    clear hRe hRl
    go_wp2
    go_loopw [8] (fun i wr=>∃(r:Nat) (vs:List DVal) (st:St) (lv:Value),i=.int .i64 r/\vs.length+r<=64/\IsBlk wr h7 #[.int .u8 5,.bool false,.int .i64 0,.string (bs []),lv,.slice none 0 0] 52/\Acc HasVal (h7+1) 52 6 wr lv vs/\RdBlk wr g 157 st/\st.1.length<=16384/\IsBlk wr w.heap.size #[.int .u8 0,.bool false,.int .i64 0,.string (bs []),.slice none 0 0,.slice none 0 0] 52/\Rd B g w wr/\R=(.mk 5 false 0 [] (vs++(repN (valueP k) r st).1) [],(repN (valueP k) r st).2)) (fun i _=>(intOf i).toNat)
    case atStart=>exact⟨m,[],st4,.slice none 0 0,rfl,by simpa using hmm,HV4.out,Acc.nil _ _ _,HB4.out,by omega,HZ4.out,HR4.out,HRL.out⟩
    case round=>
    clear HV4 HB4 HZ4 HR4 HRL hml hmm hh4
    obtain⟨r,vs,⟨lr,badr⟩,lv,rfl,hvr,hv7,hacc,hrb,hsl,hz7,hr7,hRR⟩:=hrel
    simp only[]at hsl
    have hb7:IsBlk wr g #[.string (bs lr),.bool badr] 157:=hrb
    have c1:wr.cell? ⟨g,1,none⟩=some (.bool badr):=hb7.cell rfl
    have hh7r:=hv7.lt
    have hwr:=hr7.2.1
    by_cases hgo:0<r/\badr=false
    ·obtain⟨hr0,hbad⟩:=hgo
     subst hbad
     obtain⟨r,rfl⟩:∃r',r=r'+1:=⟨r-1,by omega⟩
     rw[repN_more]at hRR
     have hvl:=valueP_len k (lr,false)
     simp only[]at hvl
     obtain⟨p7,c7,hlv⟩:=hacc.slice
     subst hlv
     have hown:=hacc.lt
     have c4:wr.cell? ⟨h7,4,none⟩=some (.slice p7 vs.length c7):=hv7.cell rfl
     have hog:OgW g wr h7:=⟨hh7r,by omega⟩
     have HV7:=hid hv7
     have HAC:=hid hacc
     have HB7:=hid hb7
     have HZ7:=hid hz7
     have HR7:=hid hr7
     have HRR:=hid hRR
     have HOW:=hid hown
     clear hv7 hacc hb7 hz7 hr7 hRR hown hrb
     have hrI:(0:Int)<((r+1:Nat):Int):=by omega
     obtain⟨r5,hr5⟩:∃r5,r5=valueP k (lr,false):=⟨_,rfl⟩
     rw[←hr5]at HRR hvl
     have HR5:=hid hr5
     clear hr5
     go_upto_region 23 with(fail)
     refine mixW_start [7,8,9] (ClsGW g wr) (by kernel_rfl) (ClsGW.drew g wr) (fun hCw=>?_)
     refine mixW_flt (by kernel_rfl) [0,1,2,3,4] 5 _ _ hCw (by kernel_rfl) ?_
     simp only[opsAt,zo1,zo2,zo3,zo4,zo5]
     unfold ClsGW
     repeat(go_big_quiet_step (fail))
     refine wpQuiet_nil ?_
     (try rw[←ClsGW_def])
     refine mixW_ch (i:=5) (fuel:=4) (by kernel_rfl) _ rfl ?_
     go_wp2_with(go_at_call 108;refine(IH.out (lr,false) (dI+1) B g _ (by have:=HD.out;omega) hBg (HB7.out.drew) (show lr.length<=16384 by omega)).mono ?_;rintro e' w5 ⟨cs,rfl,hval,hrb5,hrd5⟩;rw[←HR5.out]at hval hrb5;obtain⟨⟨k1,b1,n1,s1,l1,f1⟩,st5⟩:=r5;obtain⟨pl1,cl1,pf1,cf1,hcs,hrest⟩:=hasVal_mk.1 hval;subst hcs)
     refine ThenW.mk (hCw.trans (KeptGW.of_rd hrd5)) (fun hCw=>?_)
     refine mixW_ch (i:=6) (fuel:=3) (by kernel_rfl) _ rfl ?_
     go_wp2_with(fail)
     refine ThenW.mk (hCw.trans (KeptGW.of_below ((Below.refl _ _).alloc (Nat.le_refl _) _))) (fun hCw=>?_)
     refine mixW_end [7,8,9] (by kernel_rfl) ?_
     simp only[opsAt,zo1,zo2,zo3,zo4,zo5]
     have hrd:Rd B g wr w5:=(Rd.of_below ((Below.refl _ _).drew) (by omega)).trans hrd5
     have hs5:=hrd.2.1
     have hb6:Below w5.heap.size w5 (w5.alloc (.cells #[.int .u8 (k1:Int),.bool b1,.int .i64 n1,.string (bs s1),.slice pl1 l1.length cl1,.slice pf1 f1.length cf1] 52)):=(Below.refl _ _).alloc (Nat.le_refl _) _
     have hac6:=(HAC.out.kept relV (fun b hb hlt=>hrd.2.2 b hlt (by omega))).kept relV (w':=w5.alloc (.cells #[.int .u8 (k1:Int),.bool b1,.int .i64 n1,.string (bs s1),.slice pl1 l1.length cl1,.slice pf1 f1.length cf1] 52)) (fun b _ hlt=>hb6.block b hlt)
     have hv6:=((hrd.blk HV7.out (by omega)).ext hb6)
     have hz6:=((hrd.blk HZ7.out (by omega)).ext hb6)
     have hrb6:RdBlk _ g 157 st5:=IsBlk.ext hrb5 hb6
     have hr6:=(HR7.out.trans hrd).trans (Rd.of_below hb6 (by omega))
     have hy:HasVal (fun b=>h7+1<=b/\(Value.slice p7 vs.length c7).ownBlock≠some b) (w5.alloc (.cells #[.int .u8 (k1:Int),.bool b1,.int .i64 n1,.string (bs s1),.slice pl1 l1.length cl1,.slice pf1 f1.length cf1] 52)) (.mk k1 b1 n1 s1 l1 f1) [.int .u8 (k1:Int),.bool b1,.int .i64 n1,.string (bs s1),.slice pl1 l1.length cl1,.slice pf1 f1.length cf1]:=
      HasVal.ext_to (S:=fun b=>wr.heap.size<=b) hval (fun b hb=>⟨by omega,fun e=>by have:=(HOW.out b e).2;omega⟩) (fun b _ hlt=>hb6.block b hlt)
     have HA6:=hid hac6
     have HV6:=hid hv6
     have HZ6:=hid hz6
     have HB6:=hid hrb6
     have HR6:=hid hr6
     have HY:=hid hy
     have hvl2:st5.1.length<=lr.length:=hvl
     have HRS:Hid (R=(.mk 5 false 0 [] ((vs++[.mk k1 b1 n1 s1 l1 f1])++(repN (valueP k) r st5).1) [],(repN (valueP k) r st5).2)):=hid (by rw[HRR.out];simp)
     clear hac6 hv6 hz6 hrb6 hr6 hy hval hrb5 hrd5 hrd hrest hb6 hCw HAC HV7 HZ7 HR7 HB7 HR5 c4 c1 hvl
     refine push_acc relV (h7+1) rfl _ _ 49 52 (.agg #[.int .u8 0,.bool false,.int .i64 0,.string ⟨#[]⟩,.slice none 0 0,.slice none 0 0]) 80 rfl Tryz.underlying49 (by kernel_rfl) rfl (by decide) _ vs HA6.out w5.heap.size [.int .u8 (k1:Int),.bool b1,.int .i64 n1,.string (bs s1),.slice pl1 l1.length cl1,.slice pf1 f1.length cf1] (.mk k1 b1 n1 s1 l1 f1) (IsBlk.new _ _ _) HY.out rfl rfl (by simp;omega) (by omega) (by unfold maxLen;omega) ?_
     intro g1 cap w7 hacc7 hg7 hB1 hor hlt7
     have hrow:∀j,(Value.slice p7 vs.length c7).ownBlock=some j->h7+1<=j:=fun j hj=>(HA6.out.lt j hj).1
     have hv7:=blk_grown HV6.out hg7 (fun e=>by have:=hrow _ e;omega)
     have hz7:=blk_grown HZ6.out hg7 (fun e=>by have:=hrow _ e;omega)
     have hb7:IsBlk w7 g #[.string (bs st5.1),.bool st5.2] 157:=blk_grown HB6.out hg7 (fun e=>by have:=hrow _ e;omega)
     have hr7:=HR6.out.grown hg7 (by omega) (fun j hj=>by have:=hrow j hj;omega)
     have f7:w7.frozen? ⟨h7,4,none⟩=false:=hv7.frozen 4
     have d7:w7.cell? ⟨h7,4,none⟩=some (.slice p7 vs.length c7):=hv7.cell rfl
     have hacs:Acc HasVal (h7+1) 52 6 (w7.setCell ⟨h7,4,none⟩ (.slice (some ⟨g1,0,none⟩) (vs.length+1) cap)) (.slice (some ⟨g1,0,none⟩) (vs.length+1) cap) (vs++[.mk k1 b1 n1 s1 l1 f1]):=
      hacc7.kept relV (fun b hb _=>Below.heap_setCell _ _ _ _ (show b≠h7 by omega))
     have hvs:=hv7.set 4 (.slice (some ⟨g1,0,none⟩) (vs.length+1) cap)
     have hzs:=hz7.set_other (a:=⟨h7,4,none⟩) (show h7≠w.heap.size by omega) (.slice (some ⟨g1,0,none⟩) (vs.length+1) cap)
     have hbs:=hb7.set_other (a:=⟨h7,4,none⟩) (show h7≠g by omega) (.slice (some ⟨g1,0,none⟩) (vs.length+1) cap)
     have hrs:=hr7.setN (b:=h7) (o:=4) hBw (by omega) (.slice (some ⟨g1,0,none⟩) (vs.length+1) cap)
     have HAS:=hid hacs
     have HVS:=hid hvs
     have HZS:=hid hzs
     have HBS:=hid hbs
     have HRS2:=hid hrs
     clear hacs hvs hzs hbs hrs hacc7 hg7 hv7 hz7 hb7 hr7 hrow hor
     go_wp2
     refine Calm.normal ?_
     go_wp2
     go_roundw
     case rel=>exact⟨r,vs++[.mk k1 b1 n1 s1 l1 f1],st5,.slice (some ⟨g1,0,none⟩) (vs.length+1) cap,by go_num,by simp;omega,by simpa using HVS.out,HAS.out,HBS.out,by omega,HZS.out,HRS2.out,HRS.out⟩
     case measure=>simp[intOf]
    ·have hRE:R=(.mk 5 false 0 [] vs [],(lr,badr)):=by
      rw[hRR]
      cases badr
      ·have:r=0:=by
        rcases Nat.eq_zero_or_pos r with h|h
        ·exact h
        ·exact absurd ⟨h,rfl⟩ hgo
       subst this
       rw[repN_zero]
       simp
      ·rw[repN_bad]
       simp
     subst hRE
     obtain⟨p7,c7,hlv⟩:=hacc.slice
     subst hlv
     have hvl:vs.length<=64:=by omega
     have hfin:∀w',(∀b,b≠w.heap.size->w'.heap[b]?=wr.heap[b]?)->HasVal (fun b=>w.heap.size<=b) w' (.mk 5 false 0 [] vs []) [.int .u8 5,.bool false,.int .i64 0,.string (bs []),.slice p7 vs.length c7,.slice none 0 0]:=by
      intro w' hw'
      obtain⟨p,c,hpc,h1,h2,hcl⟩:=(hacc.kept relV (w':=w') (fun b hb _=>hw' b (by omega))).cells relV (S:=fun b=>w.heap.size<=b) (fun b hb=>by omega)
      injection hpc with e1 _ e2
      subst e1
      subst e2
      refine hasVal_mk.2 ⟨p7,c7,none,0,rfl,⟨by decide,by decide,by decide,by simp,by omega,by simp,h1,h2,by simp,by unfold maxLen;omega⟩,fun i hi=>?_,fun i hi=>by simp at hi⟩
      obtain⟨gg,cs,e1,e2,e3⟩:=hcl i hi
      exact⟨gg,0,cs,e1,e2,e3⟩
     have HFIN:=hid hfin
     have hcond:((r:Int)<=0)\/((0:Int)<(r:Int)/\badr=true):=by
      rcases Nat.eq_zero_or_pos r with h|h
      ·exact Or.inl (by omega)
      ·refine Or.inr ⟨by omega,?_⟩
       cases badr
       ·exact absurd ⟨h,rfl⟩ hgo
       ·rfl
     have d0:wr.cell? ⟨h7,0,none⟩=some (.int .u8 5):=hv7.cell rfl
     have d1:wr.cell? ⟨h7,1,none⟩=some (.bool false):=hv7.cell rfl
     have d2:wr.cell? ⟨h7,2,none⟩=some (.int .i64 0):=hv7.cell rfl
     have d3:wr.cell? ⟨h7,3,none⟩=some (.string (bs [])):=hv7.cell rfl
     have d4:wr.cell? ⟨h7,4,none⟩=some (.slice p7 vs.length c7):=hv7.cell rfl
     have d5:wr.cell? ⟨h7,5,none⟩=some (.slice none 0 0):=hv7.cell rfl
     have HZZ:=hid hz7
     have HBB:=hid hb7
     have HRR2:=hid hr7
     clear hgo hfin hacc hv7 hz7 hb7 hr7 hrb hRR
     have fz:∀i,wr.frozen? ⟨w.heap.size,i,none⟩=false:=fun i=>HZZ.out.frozen i
     have f0:=fz 0
     have f1:=fz 1
     have f2:=fz 2
     have f3:=fz 3
     have f4:=fz 4
     have f5:=fz 5
     have z0:wr.cell? ⟨w.heap.size,0,none⟩=some (.int .u8 0):=HZZ.out.cell rfl
     have z1:wr.cell? ⟨w.heap.size,1,none⟩=some (.bool false):=HZZ.out.cell rfl
     have z2:wr.cell? ⟨w.heap.size,2,none⟩=some (.int .i64 0):=HZZ.out.cell rfl
     have z3:wr.cell? ⟨w.heap.size,3,none⟩=some (.string (bs [])):=HZZ.out.cell rfl
     have z4:wr.cell? ⟨w.heap.size,4,none⟩=some (.slice none 0 0):=HZZ.out.cell rfl
     have z5:wr.cell? ⟨w.heap.size,5,none⟩=some (.slice none 0 0):=HZZ.out.cell rfl
     clear fz
     rcases hcond with hcond|⟨hcond,hcond2⟩
     ·go_wp2
      exact rv_fin (r:=(.mk 5 false 0 [] vs [],(lr,badr))) rfl HZZ.out (by omega) HBB.out HRR2.out hBw (Nat.le_refl _) HFIN.out
     ·subst hcond2
      go_wp2
      exact rv_fin (r:=(.mk 5 false 0 [] vs [],(lr,true))) rfl HZZ.out (by omega) HBB.out HRR2.out hBw (Nat.le_refl _) HFIN.out
   by_cases k7:q=7
   ·skip
    have hRe:R=(.mk 6 false 0 [] [] (repN (fieldP (valueP k)) (manyP (l,false)).1 (manyP (l,false)).2).1,(repN (fieldP (valueP k)) (manyP (l,false)).1 (manyP (l,false)).2).2):=by
     rw[hR,valueP,if_neg (by decide)]
     (try simp only[])
     rw[if_neg (fun h=>k0 (HB0q.out.1 h)),if_neg (fun h=>k1 (HB1q.out.1 h)),if_neg (fun h=>k2 (HB2q.out.1 h)),if_neg (fun h=>k3 (HB3q.out.1 h)),if_neg (fun h=>k4 (HB4q.out.1 h)),if_neg (fun h=>k5 (HB5q.out.1 h)),if_neg (fun h=>k6 (HB6q.out.1 h)),if_pos (HB7q.out.2 k7)]
    clear hR
    have q0:((q:Int)==0)=false:=by simp;omega
    have q1:((q:Int)==1)=false:=by simp;omega
    have q2:((q:Int)==2)=false:=by simp;omega
    have q3:((q:Int)==3)=false:=by simp;omega
    have q4:((q:Int)==4)=false:=by simp;omega
    have q5:((q:Int)==5)=false:=by simp;omega
    have q6:((q:Int)==6)=false:=by simp;omega
    have q7:((q:Int)==7)=true:=by simp;omega
    go_enter Tryz.func108,Tryz.ntmps108
    go_wp2_with fail
    go_at_call 135
    refine(take_any B g 157 1 (b::l,false) _ hBg (HW.out _) (show(b::l).length<=281474976710656 by(try rw[List.length_cons]);omega) (by omega)).mono ?_
    rintro e' w2 ⟨he,hb,hrd⟩
    rw[show takeP 1 (b::l,false)=([b],(l,false))by rw[takeP,if_neg (by simp)];rfl]at he hb
    subst he
    have hb2:IsBlk w2 g #[.string (bs l),.bool false] 157:=hb
    have hz:=hrd.blk (IsBlk.new_at (by simp)) (by omega:w.heap.size≠g)
    have hr2:=(HRW.out _).trans hrd
    have c1:w2.cell? ⟨g,1,none⟩=some (.bool false):=hb2.cell rfl
    have fz:∀i,w2.frozen? ⟨w.heap.size,i,none⟩=false:=fun i=>hz.frozen i
    have f0:=fz 0
    have f1:=fz 1
    have f2:=fz 2
    have f3:=fz 3
    have f4:=fz 4
    have f5:=fz 5
    have z0:w2.cell? ⟨w.heap.size,0,none⟩=some (.int .u8 0):=hz.cell rfl
    have z1:w2.cell? ⟨w.heap.size,1,none⟩=some (.bool false):=hz.cell rfl
    have z2:w2.cell? ⟨w.heap.size,2,none⟩=some (.int .i64 0):=hz.cell rfl
    have z3:w2.cell? ⟨w.heap.size,3,none⟩=some (.string (bs [])):=hz.cell rfl
    have z4:w2.cell? ⟨w.heap.size,4,none⟩=some (.slice none 0 0):=hz.cell rfl
    have z5:w2.cell? ⟨w.heap.size,5,none⟩=some (.slice none 0 0):=hz.cell rfl
    have hg2:=hb2.lt
    have hh2:=hz.lt
    have HZ:=hid hz
    have HB2:=hid hb2
    have HR2:=hid hr2
    clear hb hrd hb2 hz hr2 fz
    clear f0 f1 f2 f3 f4 f5 z0 z1 z2 z3 z4 z5 c1
    have c1:w2.cell? ⟨g,1,none⟩=some (.bool false):=HB2.out.cell rfl
    go_upto_region 27 with(fail)
    generalize hW3:World.alloc w2 _=W3
    have hb3:RdBlk W3 g 157 (l,false):=by rw[←hW3];exact HB2.out.alloc _
    have hz3:IsBlk W3 w.heap.size #[.int .u8 0,.bool false,.int .i64 0,.string (bs []),.slice none 0 0,.slice none 0 0] 52:=by rw[←hW3];exact HZ.out.alloc _
    have hv3:IsBlk W3 w2.heap.size #[.int .u8 6,.bool false,.int .i64 0,.string (bs []),.slice none 0 0,.slice none 0 0] 52:=by rw[←hW3];exact IsBlk.new _ _ _
    have hr3:Rd B g w W3:=by rw[←hW3];exact HR2.out.alloc (by omega) _
    clear hW3 c1
    obtain⟨h7,hh7⟩:∃h7,h7=w2.heap.size:=⟨_,rfl⟩
    rw[←hh7]at hv3⊢
    have hh7l:w.heap.size<h7:=by omega
    have hh7g:g<h7:=by omega
    clear hh7 HZ HB2 HR2 hg2 hh2
    have HB3:=hid hb3
    have HZ3:=hid hz3
    have HV3:=hid hv3
    have HR3:=hid hr3
    clear hb3 hz3 hv3 hr3
    go_wp2_with fail
    go_at_call 137
    have hml:=manyP_len (l,false)
    have hmm:=manyP_le (l,false)
    refine(many_any B g (l,false) W3 hBg HB3.out (show l.length<=281474976710656 by omega)).mono ?_
    rintro e' w4 ⟨rfl,hb,hrd⟩
    generalize manyP (l,false)=mp at hb hRe hml hmm⊢
    obtain⟨m,st4⟩:=mp
    simp only[]at hb hRe hml hmm⊢
    have hv4:=hrd.blk HV3.out (by omega)
    have hh4:=hv4.lt
    have HB4:=hid hb
    have HZ4:=hid (hrd.blk HZ3.out (by omega))
    have HV4:=hid hv4
    have HR4:=hid (HR3.out.trans hrd)
    clear hb hrd hv4 HB3 HZ3 HV3 HR3
    have hRl:R=(.mk 6 false 0 [] [] ([]++(repN (fieldP (valueP k)) m st4).1),(repN (fieldP (valueP k)) m st4).2):=by rw[hRe];rfl
    have HRL:=hid hRl
    clear hRe hRl
    go_wp2
    go_loopw [10] (fun i wr=>∃(r:Nat) (vs:List (List UInt8×DVal)) (st:St) (lv:Value),i=.int .i64 r/\vs.length+r<=64/\IsBlk wr h7 #[.int .u8 6,.bool false,.int .i64 0,.string (bs []),.slice none 0 0,lv] 52/\Acc HasFld (h7+1) 66 7 wr lv vs/\RdBlk wr g 157 st/\st.1.length<=16384/\IsBlk wr w.heap.size #[.int .u8 0,.bool false,.int .i64 0,.string (bs []),.slice none 0 0,.slice none 0 0] 52/\Rd B g w wr/\R=(.mk 6 false 0 [] [] (vs++(repN (fieldP (valueP k)) r st).1),(repN (fieldP (valueP k)) r st).2)) (fun i _=>(intOf i).toNat)
    case atStart=>exact⟨m,[],st4,.slice none 0 0,rfl,by simpa using hmm,HV4.out,Acc.nil _ _ _,HB4.out,by omega,HZ4.out,HR4.out,HRL.out⟩
    case round=>
    clear HV4 HB4 HZ4 HR4 HRL hml hmm hh4
    obtain⟨r,vs,⟨lr,badr⟩,lv,rfl,hvr,hv7,hacc,hrb,hsl,hz7,hr7,hRR⟩:=hrel
    simp only[]at hsl
    have hb7:IsBlk wr g #[.string (bs lr),.bool badr] 157:=hrb
    have c1:wr.cell? ⟨g,1,none⟩=some (.bool badr):=hb7.cell rfl
    have hh7r:=hv7.lt
    have hwr:=hr7.2.1
    by_cases hgo:0<r/\badr=false
    ·obtain⟨hr0,hbad⟩:=hgo
     subst hbad
     obtain⟨r,rfl⟩:∃r',r=r'+1:=⟨r-1,by omega⟩
     rw[repN_more]at hRR
     obtain⟨n5,st5,hnp⟩:∃n5 st5,numP (lr,false)=(n5,st5):=⟨_,_,rfl⟩
     obtain⟨x5,st6,htp⟩:∃x5 st6,takeP n5 st5=(x5,st6):=⟨_,_,rfl⟩
     obtain⟨v7,st7,hvp⟩:∃v7 st7,valueP k st6=(v7,st7):=⟨_,_,rfl⟩
     have hfp:fieldP (valueP k) (lr,false)=((x5,v7),st7):=by simp only[fieldP,hnp,htp,hvp]
     rw[hfp]at hRR
     have hn5:=numP_lt (lr,false)
     have hl5:=numP_len (lr,false)
     have hl6:=takeP_len n5 st5
     have hl7:=valueP_len k st6
     have hx5:x5.length<=st5.1.length:=by
      have:x5=(takeP n5 st5).1:=by rw[htp]
      rw[this,takeP]
      split
      ·simp
      ·simp only[List.length_take];omega
     rw[hnp]at hn5 hl5
     rw[htp]at hl6
     rw[hvp]at hl7
     simp only[]at hn5 hl5 hl6 hl7
     have HNP:=hid hnp
     have HTP:=hid htp
     have HVP:=hid hvp
     clear hnp htp hvp hfp
     obtain⟨p7,c7,hlv⟩:=hacc.slice
     subst hlv
     have hown:=hacc.lt
     have HV7:=hid hv7
     have HAC:=hid hacc
     have HB7:=hid hb7
     have HZ7:=hid hz7
     have HR7:=hid hr7
     have HRR:=hid hRR
     have HOW:=hid hown
     clear hv7 hacc hb7 hz7 hr7 hRR hown hrb
     have hrI:(0:Int)<((r+1:Nat):Int):=by omega
     go_upto_region 30 with(fail)
     refine mixW_start [] (ClsGW g wr) (by kernel_rfl) (ClsGW.drew g wr) (fun hCw=>?_)
     refine mixW_flt (by kernel_rfl) [0,1,2,3,4,5] 3 _ _ hCw (by kernel_rfl) ?_
     simp only[opsAt,zo1,zo2,zo3,zo4,zo5]
     unfold ClsGW
     repeat(go_big_quiet_step (fail))
     refine wpQuiet_nil ?_
     (try rw[←ClsGW_def])
     refine mixW_ch (i:=6) (fuel:=2) (by kernel_rfl) _ rfl ?_
     go_wp2_with(go_at_call 136;refine(number_any B g 157 (lr,false) _ hBg (HB7.out.drew) (show lr.length<=281474976710656 by omega)).mono ?_;rintro e' w5 ⟨he5,hrb5,hrd5⟩;rw[HNP.out]at he5 hrb5;subst he5)
     refine ThenW.mk (hCw.trans (KeptGW.of_rd hrd5)) (fun hCw=>?_)
     refine mixW_ch (i:=7) (fuel:=1) (by kernel_rfl) _ rfl ?_
     go_wp2_with(go_at_call 135;refine(take_any B g 157 n5 st5 w5 hBg hrb5 (by omega) hn5).mono ?_;rintro e' w6 ⟨he6,hrb6,hrd6⟩;rw[HTP.out]at he6 hrb6;subst he6)
     refine ThenW.mk (hCw.trans (KeptGW.of_rd hrd6)) (fun hCw=>?_)
     refine mixW_flt (by kernel_rfl) [8] 0 _ _ hCw (by kernel_rfl) ?_
     simp only[opsAt,zo1,zo2,zo3,zo4,zo5]
     unfold ClsGW
     repeat(go_big_quiet_step (fail))
     refine wpQuiet_nil ?_
     (try rw[←ClsGW_def])
     refine mixW_end [] (by kernel_rfl) ?_
     refine wpList_nil ?_
     refine Calm.normal ?_
     have hrd:Rd B g wr w6:=((Rd.of_below ((Below.refl _ _).drew) (by omega)).trans hrd5).trans hrd6
     have hs6:=hrd.2.1
     have hrbX:IsBlk w6 g #[.string (bs st6.1),.bool st6.2] 157:=hrb6
     have hvX:=hrd.blk HV7.out (by omega)
     have hzX:=hrd.blk HZ7.out (by omega)
     have haX:=HAC.out.kept relF (w':=w6) (fun b hb hlt=>hrd.2.2 b hlt (by omega))
     have hrX:=HR7.out.trans hrd
     have hog:OgW g w6 h7:=⟨by omega,by omega⟩
     clear hCw hrb5 hrd5 hrb6 hrd6 c1 HV7 HAC HZ7 HR7 HB7
     have c4:w6.cell? ⟨h7,5,none⟩=some (.slice p7 vs.length c7):=hvX.cell rfl
     have hw6:=hrX.2.1
     have HRX:=hid hrX
     have HBX:=hid hrbX
     have HVX:=hid hvX
     have HZX:=hid hzX
     have HAX:=hid haX
     have HOX:Hid (∀k,(Value.slice p7 vs.length c7).ownBlock=some k->h7+1<=k/\k<w6.heap.size):=hid (fun k hk=>by have:=HOW.out k hk;omega)
     clear hrX hrbX hvX hzX haX hrd HOW
     go_upto_region 31 with(fail)
     refine mixW_start [9,10,11] (ClsGW g w6) (by kernel_rfl) (ClsGW.drew g w6) (fun hCw=>?_)
     refine mixW_flt (by kernel_rfl) [0,1,2,3,4,5] 6 _ _ hCw (by kernel_rfl) ?_
     simp only[opsAt,zo1,zo2,zo3,zo4,zo5]
     unfold ClsGW
     repeat(go_big_quiet_step (fail))
     refine wpQuiet_nil ?_
     (try rw[←ClsGW_def])
     refine mixW_ch (i:=6) (fuel:=5) (by kernel_rfl) _ rfl ?_
     go_wp2_with(go_at_call 108;refine(IH.out st6 (dI+1) B g _ (by have:=HD.out;omega) hBg (HBX.out.drew) (by omega)).mono ?_;rintro e' w8 ⟨cs,rfl,hval,hrb8,hrd8⟩;rw[HVP.out]at hval hrb8;obtain⟨k1,b1,n1,s1,l1,f1⟩:=v7;obtain⟨pl1,cl1,pf1,cf1,hcs,hrest⟩:=hasVal_mk.1 hval;subst hcs)
     refine ThenW.mk (hCw.trans (KeptGW.of_rd hrd8)) (fun hCw=>?_)
     refine mixW_ch (i:=7) (fuel:=4) (by kernel_rfl) _ rfl ?_
     go_wp2_with(fail)
     refine ThenW.mk (hCw) (fun hCw=>?_)
     refine mixW_ch (i:=8) (fuel:=3) (by kernel_rfl) _ rfl ?_
     go_wp2_with(fail)
     refine ThenW.mk (hCw.trans (KeptGW.of_below ((Below.refl _ _).alloc (Nat.le_refl _) _))) (fun hCw=>?_)
     refine mixW_end [9,10,11] (by kernel_rfl) ?_
     simp only[opsAt,zo1,zo2,zo3,zo4,zo5]
     have hrd:Rd B g w6 w8:=(Rd.of_below ((Below.refl _ _).drew) (by omega)).trans hrd8
     have hs8:=hrd.2.1
     have hb9:Below w8.heap.size w8 (w8.alloc (.cells #[.string (bs x5),.int .u8 (k1:Int),.bool b1,.int .i64 n1,.string (bs s1),.slice pl1 l1.length cl1,.slice pf1 f1.length cf1] 66)):=(Below.refl _ _).alloc (Nat.le_refl _) _
     have hac9:=(HAX.out.kept relF (fun b hb hlt=>hrd.2.2 b hlt (by omega))).kept relF (w':=w8.alloc (.cells #[.string (bs x5),.int .u8 (k1:Int),.bool b1,.int .i64 n1,.string (bs s1),.slice pl1 l1.length cl1,.slice pf1 f1.length cf1] 66)) (fun b _ hlt=>hb9.block b hlt)
     have hv9:=((hrd.blk HVX.out (by omega)).ext hb9)
     have hz9:=((hrd.blk HZX.out (by omega)).ext hb9)
     have hrb9:RdBlk _ g 157 st7:=IsBlk.ext hrb8 hb9
     have hr9:=(HRX.out.trans hrd).trans (Rd.of_below hb9 (by omega))
     have hy0:HasVal (fun b=>h7+1<=b/\(Value.slice p7 vs.length c7).ownBlock≠some b) (w8.alloc (.cells #[.string (bs x5),.int .u8 (k1:Int),.bool b1,.int .i64 n1,.string (bs s1),.slice pl1 l1.length cl1,.slice pf1 f1.length cf1] 66)) (.mk k1 b1 n1 s1 l1 f1) [.int .u8 (k1:Int),.bool b1,.int .i64 n1,.string (bs s1),.slice pl1 l1.length cl1,.slice pf1 f1.length cf1]:=
      HasVal.ext_to (S:=fun b=>w6.heap.size<=b) hval (fun b hb=>⟨by omega,fun e=>by have:=(HOX.out b e).2;omega⟩) (fun b _ hlt=>hb9.block b hlt)
     have hy:HasFld (fun b=>h7+1<=b/\(Value.slice p7 vs.length c7).ownBlock≠some b) (w8.alloc (.cells #[.string (bs x5),.int .u8 (k1:Int),.bool b1,.int .i64 n1,.string (bs s1),.slice pl1 l1.length cl1,.slice pf1 f1.length cf1] 66)) (x5,.mk k1 b1 n1 s1 l1 f1) [.string (bs x5),.int .u8 (k1:Int),.bool b1,.int .i64 n1,.string (bs s1),.slice pl1 l1.length cl1,.slice pf1 f1.length cf1]:=⟨_,rfl,(by show x5.length<=1073741824;omega),hy0⟩
     have HA6:=hid hac9
     have HV6:=hid hv9
     have HZ6:=hid hz9
     have HB6:=hid hrb9
     have HR6:=hid hr9
     have HY:=hid hy
     have HRS:Hid (R=(.mk 6 false 0 [] [] ((vs++[(x5,.mk k1 b1 n1 s1 l1 f1)])++(repN (fieldP (valueP k)) r st7).1),(repN (fieldP (valueP k)) r st7).2)):=hid (by rw[HRR.out];simp)
     clear hac9 hv9 hz9 hrb9 hr9 hy hy0 hval hrb8 hrd8 hrd hrest hb9 hCw HAX HVX HZX HRX HBX c4
     refine push_acc relF (h7+1) rfl _ _ 50 66 (.agg #[.string ⟨#[]⟩,.int .u8 0,.bool false,.int .i64 0,.string ⟨#[]⟩,.slice none 0 0,.slice none 0 0]) 96 rfl Tryz.underlying50 (by kernel_rfl) rfl (by decide) _ vs HA6.out w8.heap.size [.string (bs x5),.int .u8 (k1:Int),.bool b1,.int .i64 n1,.string (bs s1),.slice pl1 l1.length cl1,.slice pf1 f1.length cf1] (x5,.mk k1 b1 n1 s1 l1 f1) (IsBlk.new _ _ _) HY.out rfl rfl (by simp;omega) (by omega) (by unfold maxLen;omega) ?_
     intro g1 cap wn hacc7 hg7 hB1 hor hlt7
     have hrow:∀j,(Value.slice p7 vs.length c7).ownBlock=some j->h7+1<=j:=fun j hj=>(HA6.out.lt j hj).1
     have hv7:=blk_grown HV6.out hg7 (fun e=>by have:=hrow _ e;omega)
     have hz7:=blk_grown HZ6.out hg7 (fun e=>by have:=hrow _ e;omega)
     have hb7:IsBlk wn g #[.string (bs st7.1),.bool st7.2] 157:=blk_grown HB6.out hg7 (fun e=>by have:=hrow _ e;omega)
     have hr7:=HR6.out.grown hg7 (by omega) (fun j hj=>by have:=hrow j hj;omega)
     have f7:wn.frozen? ⟨h7,5,none⟩=false:=hv7.frozen 5
     have d7:wn.cell? ⟨h7,5,none⟩=some (.slice p7 vs.length c7):=hv7.cell rfl
     have hacs:Acc HasFld (h7+1) 66 7 (wn.setCell ⟨h7,5,none⟩ (.slice (some ⟨g1,0,none⟩) (vs.length+1) cap)) (.slice (some ⟨g1,0,none⟩) (vs.length+1) cap) (vs++[(x5,.mk k1 b1 n1 s1 l1 f1)]):=
      hacc7.kept relF (fun b hb _=>Below.heap_setCell _ _ _ _ (show b≠h7 by omega))
     have hvs:=hv7.set 5 (.slice (some ⟨g1,0,none⟩) (vs.length+1) cap)
     have hzs:=hz7.set_other (a:=⟨h7,5,none⟩) (show h7≠w.heap.size by omega) (.slice (some ⟨g1,0,none⟩) (vs.length+1) cap)
     have hbs:=hb7.set_other (a:=⟨h7,5,none⟩) (show h7≠g by omega) (.slice (some ⟨g1,0,none⟩) (vs.length+1) cap)
     have hrs:=hr7.setN (b:=h7) (o:=5) hBw (by omega) (.slice (some ⟨g1,0,none⟩) (vs.length+1) cap)
     have HAS:=hid hacs
     have HVS:=hid hvs
     have HZS:=hid hzs
     have HBS:=hid hbs
     have HRS2:=hid hrs
     clear hacs hvs hzs hbs hrs hacc7 hg7 hv7 hz7 hb7 hr7 hrow hor
     go_wp2
     refine Calm.normal ?_
     go_wp2
     go_roundw
     case rel=>exact⟨r,vs++[(x5,.mk k1 b1 n1 s1 l1 f1)],st7,.slice (some ⟨g1,0,none⟩) (vs.length+1) cap,by go_num,by simp;omega,by simpa using HVS.out,HAS.out,HBS.out,by omega,HZS.out,HRS2.out,HRS.out⟩
     case measure=>simp[intOf]
    ·have hRE:R=(.mk 6 false 0 [] [] vs,(lr,badr)):=by
      rw[hRR]
      cases badr
      ·have:r=0:=by
        rcases Nat.eq_zero_or_pos r with h|h
        ·exact h
        ·exact absurd ⟨h,rfl⟩ hgo
       subst this
       rw[repN_zero]
       simp
      ·rw[repN_bad]
       simp
     subst hRE
     obtain⟨p7,c7,hlv⟩:=hacc.slice
     subst hlv
     have hvl:vs.length<=64:=by omega
     have hfin:∀w',(∀b,b≠w.heap.size->w'.heap[b]?=wr.heap[b]?)->HasVal (fun b=>w.heap.size<=b) w' (.mk 6 false 0 [] [] vs) [.int .u8 6,.bool false,.int .i64 0,.string (bs []),.slice none 0 0,.slice p7 vs.length c7]:=by
      intro w' hw'
      obtain⟨p,c,hpc,h1,h2,hcl⟩:=(hacc.kept relF (w':=w') (fun b hb _=>hw' b (by omega))).cells relF (S:=fun b=>w.heap.size<=b) (fun b hb=>by omega)
      injection hpc with e1 _ e2
      subst e1
      subst e2
      refine hasVal_mk.2 ⟨none,0,p7,c7,rfl,⟨by decide,by decide,by decide,by simp,by simp,by omega,by simp,by unfold maxLen;omega,h1,h2⟩,fun i hi=>by simp at hi,fun i hi=>?_⟩
      obtain⟨gg,cs,e1,e2,e3⟩:=hcl i hi
      obtain⟨cs',hcs,hxl,hv⟩:=e3
      subst hcs
      exact⟨gg,0,cs',e1,⟨hxl,e2⟩,hv⟩
     have HFIN:=hid hfin
     have hcond:((r:Int)<=0)\/((0:Int)<(r:Int)/\badr=true):=by
      rcases Nat.eq_zero_or_pos r with h|h
      ·exact Or.inl (by omega)
      ·refine Or.inr ⟨by omega,?_⟩
       cases badr
       ·exact absurd ⟨h,rfl⟩ hgo
       ·rfl
     have d0:wr.cell? ⟨h7,0,none⟩=some (.int .u8 6):=hv7.cell rfl
     have d1:wr.cell? ⟨h7,1,none⟩=some (.bool false):=hv7.cell rfl
     have d2:wr.cell? ⟨h7,2,none⟩=some (.int .i64 0):=hv7.cell rfl
     have d3:wr.cell? ⟨h7,3,none⟩=some (.string (bs [])):=hv7.cell rfl
     have d4:wr.cell? ⟨h7,4,none⟩=some (.slice none 0 0):=hv7.cell rfl
     have d5:wr.cell? ⟨h7,5,none⟩=some (.slice p7 vs.length c7):=hv7.cell rfl
     have HZZ:=hid hz7
     have HBB:=hid hb7
     have HRR2:=hid hr7
     clear hgo hfin hacc hv7 hz7 hb7 hr7 hrb hRR
     have fz:∀i,wr.frozen? ⟨w.heap.size,i,none⟩=false:=fun i=>HZZ.out.frozen i
     have f0:=fz 0
     have f1:=fz 1
     have f2:=fz 2
     have f3:=fz 3
     have f4:=fz 4
     have f5:=fz 5
     have z0:wr.cell? ⟨w.heap.size,0,none⟩=some (.int .u8 0):=HZZ.out.cell rfl
     have z1:wr.cell? ⟨w.heap.size,1,none⟩=some (.bool false):=HZZ.out.cell rfl
     have z2:wr.cell? ⟨w.heap.size,2,none⟩=some (.int .i64 0):=HZZ.out.cell rfl
     have z3:wr.cell? ⟨w.heap.size,3,none⟩=some (.string (bs [])):=HZZ.out.cell rfl
     have z4:wr.cell? ⟨w.heap.size,4,none⟩=some (.slice none 0 0):=HZZ.out.cell rfl
     have z5:wr.cell? ⟨w.heap.size,5,none⟩=some (.slice none 0 0):=HZZ.out.cell rfl
     clear fz
     rcases hcond with hcond|⟨hcond,hcond2⟩
     ·go_wp2
      exact rv_fin (r:=(.mk 6 false 0 [] [] vs,(lr,badr))) rfl HZZ.out (by omega) HBB.out HRR2.out hBw (Nat.le_refl _) HFIN.out
     ·subst hcond2
      go_wp2
      exact rv_fin (r:=(.mk 6 false 0 [] [] vs,(lr,true))) rfl HZZ.out (by omega) HBB.out HRR2.out hBw (Nat.le_refl _) HFIN.out
   have hRe:R=(.zero,(l,true)):=by
    rw[hR,valueP,if_neg (by decide)]
    (try simp only[])
    rw[if_neg (fun h=>k0 (HB0q.out.1 h)),if_neg (fun h=>k1 (HB1q.out.1 h)),if_neg (fun h=>k2 (HB2q.out.1 h)),if_neg (fun h=>k3 (HB3q.out.1 h)),if_neg (fun h=>k4 (HB4q.out.1 h)),if_neg (fun h=>k5 (HB5q.out.1 h)),if_neg (fun h=>k6 (HB6q.out.1 h)),if_neg (fun h=>k7 (HB7q.out.1 h))]
   clear hR
   subst hRe
   have q0:((q:Int)==0)=false:=by simp;omega
   have q1:((q:Int)==1)=false:=by simp;omega
   have q2:((q:Int)==2)=false:=by simp;omega
   have q3:((q:Int)==3)=false:=by simp;omega
   have q4:((q:Int)==4)=false:=by simp;omega
   have q5:((q:Int)==5)=false:=by simp;omega
   have q6:((q:Int)==6)=false:=by simp;omega
   have q7:((q:Int)==7)=false:=by simp;omega
   go_enter Tryz.func108,Tryz.ntmps108
   go_wp2_with fail
   go_at_call 135
   refine(take_any B g 157 1 (b::l,false) _ hBg (HW.out _) (show(b::l).length<=281474976710656 by(try rw[List.length_cons]);omega) (by omega)).mono ?_
   rintro e' w2 ⟨he,hb,hrd⟩
   rw[show takeP 1 (b::l,false)=([b],(l,false))by rw[takeP,if_neg (by simp)];rfl]at he hb
   subst he
   have hb2:IsBlk w2 g #[.string (bs l),.bool false] 157:=hb
   have hz:=hrd.blk (IsBlk.new_at (by simp)) (by omega:w.heap.size≠g)
   have hr2:=(HRW.out _).trans hrd
   have c1:w2.cell? ⟨g,1,none⟩=some (.bool false):=hb2.cell rfl
   have fz:∀i,w2.frozen? ⟨w.heap.size,i,none⟩=false:=fun i=>hz.frozen i
   have f0:=fz 0
   have f1:=fz 1
   have f2:=fz 2
   have f3:=fz 3
   have f4:=fz 4
   have f5:=fz 5
   have z0:w2.cell? ⟨w.heap.size,0,none⟩=some (.int .u8 0):=hz.cell rfl
   have z1:w2.cell? ⟨w.heap.size,1,none⟩=some (.bool false):=hz.cell rfl
   have z2:w2.cell? ⟨w.heap.size,2,none⟩=some (.int .i64 0):=hz.cell rfl
   have z3:w2.cell? ⟨w.heap.size,3,none⟩=some (.string (bs [])):=hz.cell rfl
   have z4:w2.cell? ⟨w.heap.size,4,none⟩=some (.slice none 0 0):=hz.cell rfl
   have z5:w2.cell? ⟨w.heap.size,5,none⟩=some (.slice none 0 0):=hz.cell rfl
   have hg2:=hb2.lt
   have hh2:=hz.lt
   have HZ:=hid hz
   have HB2:=hid hb2
   have HR2:=hid hr2
   clear hb hrd hb2 hz hr2 fz
   clear c1
   have c1:w2.cell? ⟨g,1,none⟩=some (.bool false):=HB2.out.cell rfl
   have f9:w2.frozen? ⟨g,1,none⟩=false:=HB2.out.frozen 1
   go_upto_region 34 with(fail)
   have hb3:IsBlk (w2.setCell ⟨g,1,none⟩ (.bool true)) g #[.string (bs l),.bool true] 157:=by simpa using HB2.out.set 1 (.bool true)
   have hz3:=HZ.out.set_other (a:=⟨g,1,none⟩) (show g≠w.heap.size by omega) (.bool true)
   have hr3:=HR2.out.set (o:=1) hBg (.bool true)
   clear f0 f1 f2 f3 f4 f5 z0 z1 z2 z3 z4 z5 c1 f9
   generalize World.setCell w2 _ _=w3 at hb3 hz3 hr3⊢
   have HB3:=hid hb3
   have HZ3:=hid hz3
   have HR3:=hid hr3
   clear hb3 hz3 hr3
   have fz:∀i,w3.frozen? ⟨w.heap.size,i,none⟩=false:=fun i=>HZ3.out.frozen i
   have f0:=fz 0
   have f1:=fz 1
   have f2:=fz 2
   have f3:=fz 3
   have f4:=fz 4
   have f5:=fz 5
   have z0:w3.cell? ⟨w.heap.size,0,none⟩=some (.int .u8 0):=HZ3.out.cell rfl
   have z1:w3.cell? ⟨w.heap.size,1,none⟩=some (.bool false):=HZ3.out.cell rfl
   have z2:w3.cell? ⟨w.heap.size,2,none⟩=some (.int .i64 0):=HZ3.out.cell rfl
   have z3:w3.cell? ⟨w.heap.size,3,none⟩=some (.string (bs [])):=HZ3.out.cell rfl
   have z4:w3.cell? ⟨w.heap.size,4,none⟩=some (.slice none 0 0):=HZ3.out.cell rfl
   have z5:w3.cell? ⟨w.heap.size,5,none⟩=some (.slice none 0 0):=HZ3.out.cell rfl
   clear fz
   go_wp2
   exact rv_fin (r:=(.zero,(l,true))) rfl HZ3.out (by omega) HB3.out HR3.out hBw (Nat.le_refl _) (fun w' _=>zero_hasW _ w')
theorem rv_any :∀(k:Nat),k<=7->RvOk k:=by
 intro k
 induction k with
 |zero=>intro h;exact rv_step 0 (fun k' h'=>by omega) h
 |succ k ih=>
  intro h
  refine rv_step (k+1) (fun k' h'=>?_) h
  obtain rfl:k'=k:=by omega
  exact ih (by omega)
def wrP (v:DVal):List UInt8×Int:=if checkV 0 v≠0 then([],checkV 0 v)else if 16384<(textV v).length then([],4)else(textV v,0)
set_option maxHeartbeats 2000000 in
theorem write_any (v:DVal) (S:Nat->Prop) (cs:List Value) (w:World) (hv:HasVal S w v cs) (hT:U8T w) (hl:(textV v).length<=1099511627776):
 Calls Tryz.prog 52 #[.agg cs.toArray] w fun e' w'=>e'=.returned (.tuple #[.string (bs (wrP v).1),.int .i64 (wrP v).2])/\Below w.heap.size w w':=by
 have HV:=hid hv
 have HT:=hid hT
 clear hT
 obtain⟨V,hV⟩:∃V,V=v:=⟨_,rfl⟩
 rw[←hV]at HV hl⊢
 obtain⟨T,hTx⟩:∃T,T=textV V:=⟨_,rfl⟩
 obtain⟨C,hC⟩:∃C,C=checkV 0 V:=⟨_,rfl⟩
 obtain⟨R,hR⟩:∃R,R=wrP V:=⟨_,rfl⟩
 rw[←hR]
 rw[wrP,←hTx,←hC]at hR
 rw[←hTx]at hl
 obtain⟨k,b,n,s,l,f⟩:=v
 obtain⟨pl,cl,pf,cf,rfl,_,_,_⟩:=hasVal_mk.1 hv
 clear hv hV
 have HTX:=hid hTx
 have HC:=hid hC
 have HR:=hid hR
 clear hTx hC hR
 obtain⟨nl,hnl⟩:∃nl,nl=l.length:=⟨_,rfl⟩
 obtain⟨nf,hnf⟩:∃nf,nf=f.length:=⟨_,rfl⟩
 show Calls Tryz.prog 52 #[.agg #[.int .u8 (k:Int),.bool b,.int .i64 n,.string (bs s),.slice pl l.length cl,.slice pf f.length cf]] w _
 rw[←hnl,←hnf]at HV⊢
 clear hnl hnf
 go_enter Tryz.func52,Tryz.ntmps52
 go_wp2_with fail
 go_at_call 87
 have hb1:Below w.heap.size w (w.alloc (.cells #[.int .u8 (k:Int),.bool b,.int .i64 n,.string (bs s),.slice pl nl cl,.slice pf nf cf] 52)):=(Below.refl _ _).alloc (Nat.le_refl _) _
 refine(check_any V S _ _ (HV.out.ext hb1) (U8T_ext HT.out hb1)).mono ?_
 rintro e' w1 ⟨he,hb⟩
 rw[←HC.out]at he
 subst he
 have hd1:IsBlk w1 w.heap.size #[.int .u8 (k:Int),.bool b,.int .i64 n,.string (bs s),.slice pl nl cl,.slice pf nf cf] 52:=(IsBlk.new w _ _).ext hb
 have hbw:=below_ext hb1 hb
 have hlt:=hd1.lt
 have c0:w1.cell? ⟨w.heap.size,0,none⟩=some (.int .u8 (k:Int)):=hd1.cell rfl
 have c1:w1.cell? ⟨w.heap.size,1,none⟩=some (.bool b):=hd1.cell rfl
 have c2:w1.cell? ⟨w.heap.size,2,none⟩=some (.int .i64 n):=hd1.cell rfl
 have c3:w1.cell? ⟨w.heap.size,3,none⟩=some (.string (bs s)):=hd1.cell rfl
 have c4:w1.cell? ⟨w.heap.size,4,none⟩=some (.slice pl nl cl):=hd1.cell rfl
 have c5:w1.cell? ⟨w.heap.size,5,none⟩=some (.slice pf nf cf):=hd1.cell rfl
 have HB:=hid hbw
 clear hb hb1 hbw hd1
 by_cases hc:C=0
 ·have hR2:R=if 16384<T.length then([],4)else(T,0):=by rw[HR.out,if_neg (by simpa using hc)]
  have HR2:=hid hR2
  clear hR2 HR HC
  subst hc
  go_wp2_with fail
  go_at_call 88
  have hbx:Below w.heap.size w (w1.alloc (.cells #[.slice none 0 0] 138)):=below_ext HB.out ((Below.refl _ _).alloc (Nat.le_refl _) _)
  have hvx:=relV.lt (HV.out.ext HB.out)
  have hvy:=relV.kept hvx (fun _ h=>h) (fun b hb _=>((Below.refl w1.heap.size w1).alloc (Nat.le_refl _) (.cells #[.slice none 0 0] 138)).block b hb.2)
  refine(wv_any V (fun b=>S b/\b<w1.heap.size) _ w1.heap.size w1.heap.size [] _ ⟨Nat.le_refl _,_,IsBlk.new _ _ _,⟨rfl,Or.inl ⟨rfl,rfl⟩⟩⟩ (by simp) (fun b hb=>hb.2) hvy (by simp only[List.length_nil];rw[←HTX.out];omega)).mono ?_
  rintro e' w2 ⟨rfl,hbuf,hbw,hkt⟩
  rw[List.nil_append,←HTX.out]at hbuf
  obtain⟨p,c,hblk,hown⟩:=hbuf.sl
  have c9:w2.cell? ⟨w1.heap.size,0,none⟩=some (.slice p T.length c):=hblk.cell rfl
  have hcv:=run_string_own (P:=Tryz.prog) (w:=w2) 85 5 9 Tryz.underlying85 Tryz.underlying5 Tryz.underlying9 hown
  have HB2:=hid (below_ext HB.out (Below.trans ((Below.refl w1.heap.size w1).alloc (Nat.le_refl _) _) (hbw.mono (Nat.le_refl _))))
  have hlt2:=hblk.lt
  clear hbuf hbw hkt hblk hown hvx hvy hbx c0 c1 c2 c3 c4 c5
  by_cases h16:16384<T.length
  ·have hI:(16384:Int)<(T.length:Int):=by omega
   have hr:=HR2.out
   rw[if_pos h16]at hr
   clear HR2 h16
   subst hr
   go_wp2
   go_ret2
   exact⟨rfl,HB2.out⟩
  ·have hI:(T.length:Int)<=16384:=by omega
   have hr:=HR2.out
   rw[if_neg h16]at hr
   clear HR2 h16
   subst hr
   go_wp2
   go_ret2
   exact⟨rfl,HB2.out⟩
 ·have hR2:R=([],C):=by rw[HR.out,if_pos (by simpa using hc)]
  clear HR
  subst hR2
  go_wp2
  go_ret2
  exact⟨rfl,HB.out⟩
def rdV (s:List UInt8):DVal×Int:=if 16384<s.length then(.zero,4)else if(valueP 7 (s,false)).2.2=true\/(valueP 7 (s,false)).2.1≠[]\/checkV 0 (valueP 7 (s,false)).1≠0 then(.zero,11)else((valueP 7 (s,false)).1,0)
def RdPost (w:World) (r:DVal×Int) (e':Ending) (w':World):Prop:=∃cs,e'=.returned (.tuple #[.agg cs.toArray,.int .i64 r.2])/\HasVal (fun b=>w.heap.size<=b) w' r.1 cs/\Below w.heap.size w w'
theorem below6 {B b:Nat} {w w':World} (h:Below B w w') (hb:B<=b) (c0 c1 c2 c3 c4 c5:Value):
 Below B w ((((((w'.setCell ⟨b,0,none⟩ c0).setCell ⟨b,1,none⟩ c1).setCell ⟨b,2,none⟩ c2).setCell ⟨b,3,none⟩ c3).setCell ⟨b,4,none⟩ c4).setCell ⟨b,5,none⟩ c5):=
 below_set (below_set (below_set (below_set (below_set (below_set h hb) hb) hb) hb) hb) hb
theorem rd_fin {tmps:Array Value} {w w2:World} {h:Nat} {V:DVal} {y:Int} {a0 a1 a2 a3 a4 a5 c0 c1 c2 c3 c4 c5:Value} (hp:tmps.getD 2 undef=.pointer (some ⟨h,0,none⟩)) (hy:tmps.getD 3 undef=.int .i64 y) (hz:IsBlk w2 h #[a0,a1,a2,a3,a4,a5] 52) (hb:Below w.heap.size w w2) (hh:w.heap.size<=h)
 (hv:∀w',(∀b,b≠h->w'.heap[b]?=w2.heap[b]?)->HasVal (fun b=>w.heap.size<=b) w' V [c0,c1,c2,c3,c4,c5]):
 bodyPost Tryz.prog Tryz.f80 (RdPost w (V,y)) Exit.ret {tmps:=tmps,defers:=[]}
  ((((((w2.setCell ⟨h,0,none⟩ c0).setCell ⟨h,1,none⟩ c1).setCell ⟨h,2,none⟩ c2).setCell ⟨h,3,none⟩ c3).setCell ⟨h,4,none⟩ c4).setCell ⟨h,5,none⟩ c5):=by
 have hz6:=set6 hz c0 c1 c2 c3 c4 c5
 refine bodyPost_ret (v:=.tuple #[.agg #[c0,c1,c2,c3,c4,c5],.int .i64 y]) (results_ct (p:=2) (u:=3) (ty:=52) Tryz.results80 hp hz6 Tryz.underlying52 rfl (by kernel_rfl) hy) rfl ⟨[c0,c1,c2,c3,c4,c5],rfl,hv _ (fun b hb=>?_),below6 hb hh c0 c1 c2 c3 c4 c5⟩
 have e:∀(W:World) (o:Nat) (u:Value),(W.setCell ⟨h,o,none⟩ u).heap[b]?=W.heap[b]?:=fun W o u=>Below.heap_setCell _ _ _ _ hb
 rw[e,e,e,e,e,e]
theorem zero_ret {tmps:Array Value} {w w2:World} {y:Int} (hp:tmps.getD 2 undef=.pointer (some ⟨w.heap.size,0,none⟩)) (hy:tmps.getD 3 undef=.int .i64 y) (hz:IsBlk w2 w.heap.size #[.int .u8 0,.bool false,.int .i64 0,.string (bs []),.slice none 0 0,.slice none 0 0] 52) (hb:Below w.heap.size w w2):
 bodyPost Tryz.prog Tryz.f80 (RdPost w (.zero,y)) Exit.ret {tmps:=tmps,defers:=[]} w2:=
 bodyPost_ret (v:=.tuple #[.agg #[.int .u8 0,.bool false,.int .i64 0,.string (bs []),.slice none 0 0,.slice none 0 0],.int .i64 y]) (results_ct (p:=2) (u:=3) (ty:=52) Tryz.results80 hp hz Tryz.underlying52 rfl (by kernel_rfl) hy) rfl ⟨_,rfl,zero_hasW _ w2,hb⟩
set_option maxHeartbeats 4000000 in
theorem read_any (s:List UInt8) (w:World) (hT:U8T w) (hs:s.length<=281474976710656):Calls Tryz.prog 80 #[.string (bs s)] w (RdPost w (rdV s)):=by
 have hsz:=bs_size s
 obtain⟨R,hR⟩:∃R,R=rdV s:=⟨_,rfl⟩
 rw[←hR]
 rw[rdV]at hR
 have HT:=hid hT
 clear hT
 by_cases h16:16384<s.length
 ·have hI:(16384:Int)<(s.length:Int):=by omega
  rw[if_pos h16]at hR
  clear h16
  subst hR
  go_enter Tryz.func80,Tryz.ntmps80
  go_wp2
  exact zero_ret rfl rfl (IsBlk.new _ _ _) ((Below.refl _ _).alloc (Nat.le_refl _) _)
 ·have hI:(s.length:Int)<=16384:=by omega
  rw[if_neg h16]at hR
  have HR:=hid hR
  clear hR h16
  obtain⟨V,st,hvp⟩:∃V st,valueP 7 (s,false)=(V,st):=⟨_,_,rfl⟩
  have hR:=HR.out
  rw[hvp]at hR
  simp only[]at hR
  have HR:=hid hR
  have HVP:=hid hvp
  clear hR hvp
  go_enter Tryz.func80,Tryz.ntmps80
  go_wp2_with fail
  go_at_call 108
  have hbA:Below w.heap.size w ((w.alloc (.cells #[.int .u8 0,.bool false,.int .i64 0,.string ⟨#[]⟩,.slice none 0 0,.slice none 0 0] 52)).alloc (.cells #[.string (bs s),.bool false] 157)):=((Below.refl _ _).alloc (Nat.le_refl _) _).alloc (by simp) _
  have hzA:IsBlk ((w.alloc (.cells #[.int .u8 0,.bool false,.int .i64 0,.string ⟨#[]⟩,.slice none 0 0,.slice none 0 0] 52)).alloc (.cells #[.string (bs s),.bool false] 157)) w.heap.size #[.int .u8 0,.bool false,.int .i64 0,.string (bs []),.slice none 0 0,.slice none 0 0] 52:=(IsBlk.new _ _ _).alloc _
  have hrA:RdBlk ((w.alloc (.cells #[.int .u8 0,.bool false,.int .i64 0,.string ⟨#[]⟩,.slice none 0 0,.slice none 0 0] 52)).alloc (.cells #[.string (bs s),.bool false] 157)) (w.heap.size+1) 157 (s,false):=rdBlk_mk (IsBlk.new_at (by simp))
  have hsA:((w.alloc (.cells #[.int .u8 0,.bool false,.int .i64 0,.string ⟨#[]⟩,.slice none 0 0,.slice none 0 0] 52)).alloc (.cells #[.string (bs s),.bool false] 157)).heap.size=w.heap.size+2:=by simp
  refine(rv_any 7 (Nat.le_refl _) (s,false) 0 w.heap.size (w.heap.size+1) _ (by decide) (by omega) hrA (show s.length<=16384 by omega)).mono ?_
  rintro e' w3 ⟨cs,rfl,hval,hrb,hrd⟩
  rw[HVP.out]at hval hrb
  rw[hsA]at hval
  simp only[]at hval hrb
  have hz3:=hrd.blk hzA (by omega)
  have hb3:=Below.trans hbA (hrd.1.mono (Nat.le_refl _))
  have hs3:=hrd.2.1
  rw[hsA]at hs3
  obtain⟨k1,b1,n1,s1,l1,f1⟩:=V
  have HV3:=hid hval
  obtain⟨pl1,cl1,pf1,cf1,rfl,_,_,_⟩:=hasVal_mk.1 hval
  clear hval hrd hbA hzA hrA hsA
  obtain⟨nl,hnl⟩:∃nl,nl=l1.length:=⟨_,rfl⟩
  obtain⟨nf,hnf⟩:∃nf,nf=f1.length:=⟨_,rfl⟩
  rw[←hnl,←hnf]at HV3⊢
  clear hnl hnf
  have hrb3:IsBlk w3 (w.heap.size+1) #[.string (bs st.1),.bool st.2] 157:=hrb
  have HZ3:=hid hz3
  have HB3:=hid hb3
  have HRB:=hid hrb3
  clear hz3 hb3 hrb3 hrb
  go_upto_region 5 with(fail)
  generalize hW4:World.alloc w3 _=W4
  have hb4:Below w3.heap.size w3 W4:=by rw[←hW4];exact(Below.refl _ _).alloc (Nat.le_refl _) _
  have hd4:IsBlk W4 w3.heap.size #[.int .u8 (k1:Int),.bool b1,.int .i64 n1,.string (bs s1),.slice pl1 nl cl1,.slice pf1 nf cf1] 52:=by rw[←hW4];exact IsBlk.new _ _ _
  clear hW4
  have hz4:=HZ3.out.ext hb4
  have hr4:=HRB.out.ext hb4
  have hv4:=HV3.out.ext hb4
  have hbw:=below_ext HB3.out hb4
  have c1:W4.cell? ⟨w.heap.size+1,1,none⟩=some (.bool st.2):=hr4.cell rfl
  have c0:W4.cell? ⟨w.heap.size+1,0,none⟩=some (.string (bs st.1)):=hr4.cell rfl
  have d0:W4.cell? ⟨w3.heap.size,0,none⟩=some (.int .u8 (k1:Int)):=hd4.cell rfl
  have d1:W4.cell? ⟨w3.heap.size,1,none⟩=some (.bool b1):=hd4.cell rfl
  have d2:W4.cell? ⟨w3.heap.size,2,none⟩=some (.int .i64 n1):=hd4.cell rfl
  have d3:W4.cell? ⟨w3.heap.size,3,none⟩=some (.string (bs s1)):=hd4.cell rfl
  have d4:W4.cell? ⟨w3.heap.size,4,none⟩=some (.slice pl1 nl cl1):=hd4.cell rfl
  have d5:W4.cell? ⟨w3.heap.size,5,none⟩=some (.slice pf1 nf cf1):=hd4.cell rfl
  obtain⟨st1,st2⟩:=st
  simp only[]at c0 c1 HR
  have HZ4:=hid hz4
  have HD4:=hid hd4
  have HV4:=hid hv4
  have HBW:=hid hbw
  have HT4:=hid (U8T_ext HT.out hbw)
  clear hz4 hd4 hv4 hbw hb4 hr4 HZ3 HB3 HRB HV3
  obtain⟨C,hC⟩:∃C,C=checkV 0 (.mk k1 b1 n1 s1 l1 f1):=⟨_,rfl⟩
  have hR:=HR.out
  rw[←hC]at hR
  have HR:=hid hR
  have HC:=hid hC
  clear hR hC
  have fz:∀i,W4.frozen? ⟨w.heap.size,i,none⟩=false:=fun i=>HZ4.out.frozen i
  have f0:=fz 0
  have f1':=fz 1
  have f2:=fz 2
  have f3:=fz 3
  have f4:=fz 4
  have f5:=fz 5
  have z0:W4.cell? ⟨w.heap.size,0,none⟩=some (.int .u8 0):=HZ4.out.cell rfl
  have z1:W4.cell? ⟨w.heap.size,1,none⟩=some (.bool false):=HZ4.out.cell rfl
  have z2:W4.cell? ⟨w.heap.size,2,none⟩=some (.int .i64 0):=HZ4.out.cell rfl
  have z3:W4.cell? ⟨w.heap.size,3,none⟩=some (.string (bs [])):=HZ4.out.cell rfl
  have z4:W4.cell? ⟨w.heap.size,4,none⟩=some (.slice none 0 0):=HZ4.out.cell rfl
  have z5:W4.cell? ⟨w.heap.size,5,none⟩=some (.slice none 0 0):=HZ4.out.cell rfl
  clear fz
  cases st2
  ·by_cases hl0:st1=[]
   ·subst hl0
    have he:(bs []).toList.isEmpty=true:=by rw[tl_bs];rfl
    go_wp2_with fail
    go_at_call 87
    refine(check_any (.mk k1 b1 n1 s1 l1 f1) _ _ _ HV4.out HT4.out).mono ?_
    rintro e' w5 ⟨he5,hb5⟩
    rw[←HC.out]at he5
    subst he5
    have hz5:=HZ4.out.ext hb5
    have hd5:=HD4.out.ext hb5
    have hv5:=HV4.out.ext hb5
    have hbw5:=below_ext HBW.out hb5
    clear c0 c1 d0 d1 d2 d3 d4 d5 z0 z1 z2 z3 z4 z5 f0 f1' f2 f3 f4 f5
    have d0:w5.cell? ⟨w3.heap.size,0,none⟩=some (.int .u8 (k1:Int)):=hd5.cell rfl
    have d1:w5.cell? ⟨w3.heap.size,1,none⟩=some (.bool b1):=hd5.cell rfl
    have d2:w5.cell? ⟨w3.heap.size,2,none⟩=some (.int .i64 n1):=hd5.cell rfl
    have d3:w5.cell? ⟨w3.heap.size,3,none⟩=some (.string (bs s1)):=hd5.cell rfl
    have d4:w5.cell? ⟨w3.heap.size,4,none⟩=some (.slice pl1 nl cl1):=hd5.cell rfl
    have d5:w5.cell? ⟨w3.heap.size,5,none⟩=some (.slice pf1 nf cf1):=hd5.cell rfl
    have HZ4:=hid hz5
    have HV5:=hid hv5
    have HBW5:=hid hbw5
    clear hz5 hd5 hv5 hbw5 hb5
    have fz:∀i,w5.frozen? ⟨w.heap.size,i,none⟩=false:=fun i=>HZ4.out.frozen i
    have f0:=fz 0
    have f1':=fz 1
    have f2:=fz 2
    have f3:=fz 3
    have f4:=fz 4
    have f5:=fz 5
    have z0:w5.cell? ⟨w.heap.size,0,none⟩=some (.int .u8 0):=HZ4.out.cell rfl
    have z1:w5.cell? ⟨w.heap.size,1,none⟩=some (.bool false):=HZ4.out.cell rfl
    have z2:w5.cell? ⟨w.heap.size,2,none⟩=some (.int .i64 0):=HZ4.out.cell rfl
    have z3:w5.cell? ⟨w.heap.size,3,none⟩=some (.string (bs [])):=HZ4.out.cell rfl
    have z4:w5.cell? ⟨w.heap.size,4,none⟩=some (.slice none 0 0):=HZ4.out.cell rfl
    have z5:w5.cell? ⟨w.heap.size,5,none⟩=some (.slice none 0 0):=HZ4.out.cell rfl
    clear fz
    by_cases hc:C=0
    ·have hr:R=(.mk k1 b1 n1 s1 l1 f1,0):=by rw[HR.out,if_neg (by simp[hc])]
     clear HR he
     subst hr
     subst hc
     go_wp2
     exact rd_fin rfl rfl HZ4.out HBW5.out (Nat.le_refl _) (fun w' hw'=>HV5.out.ext_to (fun b hb=>by omega) (fun b hb _=>hw' b (by omega)))
    ·have hr:R=(.zero,11):=by rw[HR.out,if_pos (Or.inr (Or.inr hc))]
     clear HR he
     subst hr
     go_wp2
     exact rd_fin rfl rfl HZ4.out HBW5.out (Nat.le_refl _) (fun w' _=>zero_hasW _ w')
   ·have he:(bs st1).toList.isEmpty=false:=by
     rw[tl_bs]
     cases st1 with
     |nil=>exact absurd rfl hl0
     |cons a l=>rfl
    have he2:((bs st1).toList==([]:List UInt8))=false:=by rw[tl_bs];simpa using hl0
    have hr:R=(.zero,11):=by rw[HR.out,if_pos (Or.inr (Or.inl hl0))]
    clear HR hl0
    subst hr
    go_wp2
    exact rd_fin rfl rfl HZ4.out HBW.out (Nat.le_refl _) (fun w' _=>zero_hasW _ w')
  ·have hr:R=(.zero,11):=by rw[HR.out,if_pos (Or.inl rfl)]
   clear HR
   subst hr
   go_wp2
   exact rd_fin rfl rfl HZ4.out HBW.out (Nat.le_refl _) (fun w' _=>zero_hasW _ w')
end Go.Proofs.YtcihbnpckicljaaGreatDoor
