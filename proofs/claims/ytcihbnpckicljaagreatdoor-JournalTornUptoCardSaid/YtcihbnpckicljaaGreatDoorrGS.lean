/- SHA-256 as plain functions of lists of bytes and numbers. No conditions. What sha.block does to the words behind a pointer. Condition: the table of constants reads as the text lays it. sha.right, sha.more, sha.Start: contracts. Condition: the table of constants reads as the text lays it. sha.End: contract. Condition: the table of constants reads as the text lays it. sha.Sum: contract. Condition: the table of constants reads as the text lays it. The digest's laws for texts behind one another. No conditions. codicilref01: rotr, k, block. No conditions. codicilref01.all. No conditions. codicilref01.End. No conditions. codicilref01: Sum. No conditions. -/
import Derived.Test.YtcihbnpckicljaaGreatDoorrGA
import Derived.Test.YtcihbnpckicljaaGreatDoorProg
import Derived.WalkKit
import Derived.WalkSpells
import Derived.WalkLawsBesides
import Derived.Outline
import Derived.BigQuiet
import Derived.BigRegion
import Derived.Laws.BitsAllLaws
import Derived.Laws.CopyOwn
import Derived.Deep.LoopGhost
import Derived.Lib.IndexBytes
import Derived.Deep.Cut
set_option linter.unusedVariables false
set_option linter.unusedSimpArgs false
namespace Go.Proofs.YtcihbnpckicljaaGreatDoor
open Go Go.RowKit
open Go.Lib(hid)
def u32s (xs:List Int):Array Value:=(xs.map (Value.int .u32)).toArray
theorem u32s_get' {xs:List Int} {i:Nat} (h:i<xs.length):(u32s xs)[i]?=some (.int .u32 (xs[i]?.getD 0)):=by
 simp[u32s,h]
theorem u32s_set {xs:List Int} {i:Nat} (v:Int):(u32s xs).setIfInBounds i (.int .u32 v)=u32s (xs.set i v):=by
 simp[u32s,List.map_set]
theorem IsBlk.set32 {w:World} {g:Nat} {xs:List Int} {t:TypeId} (h:IsBlk w g (u32s xs) t) (i:Nat) (v:Int):IsBlk (w.setCell ⟨g,i,none⟩ (.int .u32 v)) g (u32s (xs.set i v)) t:=by
 rw[←u32s_set]
 exact h.set i _
theorem u32s_size (xs:List Int):(u32s xs).size=xs.length:=by simp[u32s]
theorem u32s_app_get {xs:List Int} {ys:Array Value} {i:Nat} (h:i<xs.length):(u32s xs++ys)[i]?=some (.int .u32 (xs[i]?.getD 0)):=by
 rw[Array.getElem?_append_left (by rw[u32s_size];exact h)]
 exact u32s_get' h
theorem u32s_app_set {xs:List Int} {ys:Array Value} {i:Nat} (v:Int) (h:i<xs.length):(u32s xs++ys).setIfInBounds i (.int .u32 v)=u32s (xs.set i v)++ys:=by
 rw[←u32s_set]
 apply Array.ext_getElem?
 intro j
 by_cases e:i=j
 ·subst e
  rw[Array.getElem?_setIfInBounds_self_of_lt (by simp[u32s_size];omega),Array.getElem?_append_left (by simp[u32s_size];omega),Array.getElem?_setIfInBounds_self_of_lt (by rw[u32s_size];exact h)]
 ·rw[Array.getElem?_setIfInBounds_ne e]
  by_cases hj:j<xs.length
  ·rw[Array.getElem?_append_left (by rw[u32s_size];exact hj),Array.getElem?_append_left (by simp[u32s_size];exact hj),Array.getElem?_setIfInBounds_ne e]
  ·rw[Array.getElem?_append_right (by rw[u32s_size];omega),Array.getElem?_append_right (by simp[u32s_size];omega)]
   simp[u32s_size]
def by_ (l:List UInt8) (i:Nat):Int:=((l.getD i 0).toNat:Int)
theorem by_at (s:ByteArray) (i:Nat) (h:i<s.size):((s[i]'h).toNat:Int)=by_ s.data.toList i:=by
 unfold by_
 rw[List.getD_eq_getElem?_getD,List.getElem?_eq_getElem (by simpa using h)]
 rfl
theorem by_lt (l:List UInt8) (i:Nat):0<=by_ l i/\by_ l i<256:=by
 unfold by_
 have:=(l.getD i 0).toNat_lt
 omega
def rot (x n:Int):Int:=bits .or .u32 (x*2^(32-n).toNat%4294967296) (x/2^n.toNat)
def x3 (a b c:Int):Int:=bits .xor .u32 (bits .xor .u32 a b) c
def word (l:List UInt8) (k:Nat):Int:=by_ l (4*k)*16777216+by_ l (4*k+1)*65536+by_ l (4*k+2)*256+by_ l (4*k+3)
def nextW (xs:List Int) (k:Nat):Int:=
 (xs[k-16]?.getD 0+x3 (rot (xs[k-15]?.getD 0) 7) (rot (xs[k-15]?.getD 0) 18) (xs[k-15]?.getD 0/8)+xs[k-7]?.getD 0+x3 (rot (xs[k-2]?.getD 0) 17) (rot (xs[k-2]?.getD 0) 19) (xs[k-2]?.getD 0/1024))%4294967296
def sched (l:List UInt8):Nat->List Int
 |0=>[]
 |k+1=>sched l k++[if k<16 then word l k else nextW (sched l k) k]
theorem sched_length (l:List UInt8) (k:Nat):(sched l k).length=k:=by
 induction k with
 |zero=>rfl
 |succ k ih=>simp[sched,ih]
def schedA (l:List UInt8) (k:Nat):List Int:=sched l k++List.replicate (64-k) 0
theorem schedA_length (l:List UInt8) (k:Nat) (h:k<=64):(schedA l k).length=64:=by
 simp[schedA,sched_length];omega
theorem schedA_get (l:List UInt8) (k i:Nat) (h:i<k):(schedA l k)[i]?.getD 0=(sched l k)[i]?.getD 0:=by
 rw[schedA,List.getElem?_append_left (by rw[sched_length];exact h)]
theorem schedA_set (l:List UInt8) (k:Nat) (h:k<64) (v:Int) (hv:v=if k<16 then word l k else nextW (sched l k) k):(schedA l k).set k v=schedA l (k+1):=by
 subst hv
 have h1:List.replicate (64-k) (0:Int)=0::List.replicate (64-(k+1)) 0:=by
  rw[show 64-k=(64-(k+1))+1 by omega,List.replicate_succ]
 rw[schedA,h1,List.set_append_right _ _ (by rw[sched_length];omega),sched_length,Nat.sub_self]
 simp[schedA,sched]
def kTab :List Int:=[
 0x428a2f98,0x71374491,0xb5c0fbcf,0xe9b5dba5,0x3956c25b,0x59f111f1,0x923f82a4,0xab1c5ed5,
 0xd807aa98,0x12835b01,0x243185be,0x550c7dc3,0x72be5d74,0x80deb1fe,0x9bdc06a7,0xc19bf174,
 0xe49b69c1,0xefbe4786,0x0fc19dc6,0x240ca1cc,0x2de92c6f,0x4a7484aa,0x5cb0a9dc,0x76f988da,
 0x983e5152,0xa831c66d,0xb00327c8,0xbf597fc7,0xc6e00bf3,0xd5a79147,0x06ca6351,0x14292967,
 0x27b70a85,0x2e1b2138,0x4d2c6dfc,0x53380d13,0x650a7354,0x766a0abb,0x81c2c92e,0x92722c85,
 0xa2bfe8a1,0xa81a664b,0xc24b8b70,0xc76c51a3,0xd192e819,0xd6990624,0xf40e3585,0x106aa070,
 0x19a4c116,0x1e376c08,0x2748774c,0x34b0bcb5,0x391c0cb3,0x4ed8aa4a,0x5b9cca4f,0x682e6ff3,
 0x748f82ee,0x78a5636f,0x84c87814,0x8cc70208,0x90befffa,0xa4506ceb,0xbef9a3f7,0xc67178f2]
theorem kTab_length :kTab.length=64:=rfl
def tOf (e f g h k w:Int):Int:=(h+x3 (rot e 6) (rot e 11) (rot e 25)+bits .xor .u32 (bits .and .u32 e f) (bits .and .u32 (bits .xor .u32 IntKind.u32.max e) g)+k+w)%4294967296
def uOf (a b c:Int):Int:=(x3 (rot a 2) (rot a 13) (rot a 22)+x3 (bits .and .u32 a b) (bits .and .u32 a c) (bits .and .u32 b c))%4294967296
def step (v:List Int) (k w:Int):List Int:=match v with
 |[a,b,c,d,e,f,g,h]=>[(tOf e f g h k w+uOf a b c)%4294967296,a,b,c,(d+tOf e f g h k w)%4294967296,e,f,g]
 |_=>v
theorem step_eq (a b c d e f g h k w:Int):step [a,b,c,d,e,f,g,h] k w=
 [(h+x3 (rot e 6) (rot e 11) (rot e 25)+bits .xor .u32 (bits .and .u32 e f) (bits .and .u32 (bits .xor .u32 IntKind.u32.max e) g)+k+w+(x3 (rot a 2) (rot a 13) (rot a 22)+x3 (bits .and .u32 a b) (bits .and .u32 a c) (bits .and .u32 b c)))%4294967296,a,b,c,
  (d+(h+x3 (rot e 6) (rot e 11) (rot e 25)+bits .xor .u32 (bits .and .u32 e f) (bits .and .u32 (bits .xor .u32 IntKind.u32.max e) g)+k+w))%4294967296,e,f,g]:=by
 simp only[step,tOf,uOf,List.cons.injEq,and_true,true_and]
 exact⟨by omega,by omega⟩
def rnd (ws:List Int) (v:List Int):Nat->List Int
 |0=>v
 |i+1=>step (rnd ws v i) (kTab[i]?.getD 0) (ws[i]?.getD 0)
theorem rnd_next {ws v:List Int} {i:Nat} {a b c d e f g h:Int} (hr:rnd ws v i=[a,b,c,d,e,f,g,h]):rnd ws v (i+1)=
 [(h+x3 (rot e 6) (rot e 11) (rot e 25)+bits .xor .u32 (bits .and .u32 e f) (bits .and .u32 (bits .xor .u32 IntKind.u32.max e) g)+kTab[i]?.getD 0+ws[i]?.getD 0+(x3 (rot a 2) (rot a 13) (rot a 22)+x3 (bits .and .u32 a b) (bits .and .u32 a c) (bits .and .u32 b c)))%4294967296,a,b,c,
  (d+(h+x3 (rot e 6) (rot e 11) (rot e 25)+bits .xor .u32 (bits .and .u32 e f) (bits .and .u32 (bits .xor .u32 IntKind.u32.max e) g)+kTab[i]?.getD 0+ws[i]?.getD 0))%4294967296,e,f,g]:=by
 rw[rnd,hr,step_eq]
def addN (hs vs:List Int) (k:Nat):List Int:=(List.range hs.length).map fun i=>if i<k then(hs[i]?.getD 0+vs[i]?.getD 0)%4294967296 else hs[i]?.getD 0
theorem addN_length (hs vs:List Int) (k:Nat):(addN hs vs k).length=hs.length:=by simp[addN]
theorem addN_zero (hs vs:List Int):addN hs vs 0=hs:=by
 apply List.ext_getElem
 ·simp[addN]
 ·intro i h1 h2
  simp[addN,List.getElem?_eq_getElem h2]
theorem addN_set (hs vs:List Int) (k:Nat) (hk:k<hs.length):(addN hs vs k).set k ((hs[k]?.getD 0+vs[k]?.getD 0)%4294967296)=addN hs vs (k+1):=by
 apply List.ext_getElem
 ·simp[addN]
 ·intro i h1 h2
  simp only[addN,List.getElem_set,List.getElem_map,List.getElem_range]
  by_cases e:k=i
  ·subst e;simp
  ·rw[if_neg e]
   by_cases h:i<k
   ·rw[if_pos h,if_pos (by omega)]
   ·rw[if_neg h,if_neg (by omega)]
theorem addN_at (hs vs:List Int) (k:Nat) (hk:k<hs.length):(addN hs vs k)[k]?.getD 0=hs[k]?.getD 0:=by
 simp[addN,hk]
def blk (hs:List Int) (l:List UInt8):List Int:=addN hs (rnd (sched l 64) hs 64) 8
theorem blk_length (hs:List Int) (l:List UInt8):(blk hs l).length=hs.length:=addN_length _ _ _
theorem of_eight {v:List Int} (h:v.length=8):∃a b c d e f g h',v=[a,b,c,d,e,f,g,h']:=by
 match v,h with
 |[a,b,c,d,e,f,g,h],_=>exact⟨a,b,c,d,e,f,g,h,rfl⟩
def absorb :Nat->List Int->List UInt8->List Int×List UInt8
 |0,hs,l=>(hs,l)
 |n+1,hs,l=>if 64<=l.length then absorb n (blk hs l) (l.drop 64)else(hs,l)
def more (hs:List Int) (l:List UInt8):List Int×List UInt8:=absorb (l.length/64) hs l
def h0 :List Int:=[0x6a09e667,0xbb67ae85,0x3c6ef372,0xa54ff53a,0x510e527f,0x9b05688c,0x1f83d9ab,0x5be0cd19]
def bytes8 (n:Nat):List UInt8:=[56,48,40,32,24,16,8,0].map fun i=>UInt8.ofNat (n/2^i%256)
def pad (n:Nat):List UInt8:=128::List.replicate ((119-n%64)%64) 0++bytes8 (8*n%18446744073709551616)
def outB (hs:List Int):List UInt8:=hs.flatMap fun x=>[UInt8.ofNat (x/16777216%256).toNat,UInt8.ofNat (x/65536%256).toNat,UInt8.ofNat (x/256%256).toNat,UInt8.ofNat (x%256).toNat]
def endOf (hs:List Int) (rest:List UInt8) (n:Nat):List UInt8:=outB (more hs (rest++pad n)).1
def shaL (l:List UInt8):List UInt8:=endOf (more h0 l).1 (more h0 l).2 l.length
open Go Go.RowKit Go.BigFrame
open Go.Lib(hid)
set_option maxRecDepth 100000
theorem and31 (n:Int) (h:1<=n) (h':n<=31):bits .and .u64 (IntKind.u64.wrap (-n)) 31=32-n:=by
 obtain⟨m,rfl⟩:=Int.eq_ofNat_of_zero_le (show 0<=n by omega)
 have hm:m<32:=by omega
 have key:∀m:Fin 32,1<=m.val->bits .and .u64 (IntKind.u64.wrap (-(m.val:Int))) 31=32-(m.val:Int):=by decide+kernel
 exact key ⟨m,hm⟩ (by simp;omega)
theorem ret_u32 {a b:Int} (h:a=b):Ending.returned (.int .u32 a)=.returned (.int .u32 b):=by rw[h]
set_option maxHeartbeats 400000 in
theorem rotr_any (x n:Int) (w:World) (h:1<=n) (h':n<=31):
 Calls Tryz.prog 139 #[.int .u32 x,.int .i64 n] w fun e w'=>e=.returned (.int .u32 (rot x n))/\w=w':=by
 have hs:=and31 n h h'
 have h32:32-(32-n)=n:=by omega
 go_enter Tryz.func139,Tryz.ntmps139
 go_wp2
 go_ret
 exact⟨ret_u32 (by unfold rot;first|rfl|rw[h32]),rfl⟩
theorem word_or (l:List UInt8) (k:Nat):
 bits .or .u32 (bits .or .u32 (bits .or .u32 (by_ l (4*k)%4294967296*16777216%4294967296) (by_ l (4*k+1)%4294967296*65536%4294967296)) (by_ l (4*k+2)%4294967296*256%4294967296)) (by_ l (4*k+3)%4294967296)=word l k:=by
 have key:∀a b c d:Nat,a<256->b<256->c<256->d<256→
  bits .or .u32 (bits .or .u32 (bits .or .u32 ((a:Int)%4294967296*16777216%4294967296) ((b:Int)%4294967296*65536%4294967296)) ((c:Int)%4294967296*256%4294967296)) ((d:Int)%4294967296)=(a:Int)*16777216+b*65536+c*256+d:=by
  intro a b c d ha hb hc hd
  rw[show(a:Int)%4294967296*16777216%4294967296=((a*16777216:Nat):Int)by omega,show(b:Int)%4294967296*65536%4294967296=((b*65536:Nat):Int)by omega,
   show(c:Int)%4294967296*256%4294967296=((c*256:Nat):Int)by omega,show(d:Int)%4294967296=(d:Int)by omega]
  rw[u32_or_nat _ _ (by omega) (by omega),nat_join 24 _ _ (by omega) (by omega),u32_or_nat _ _ (by omega) (by omega),nat_join 16 _ _ (by omega) (by omega),u32_or_nat _ _ (by omega) (by omega),nat_join 8 _ _ (by omega) (by omega)]
  omega
 unfold word by_
 have h0:=(l.getD (4*k) 0).toNat_lt
 have h1:=(l.getD (4*k+1) 0).toNat_lt
 have h2:=(l.getD (4*k+2) 0).toNat_lt
 have h3:=(l.getD (4*k+3) 0).toNat_lt
 exact key _ _ _ _ h0 h1 h2 h3
def Ks (w:World):Prop:=∃t fr,w.heap[0]?=some (.cells (u32s kTab) t fr)
theorem Ks.lt {w:World} (h:Ks w):0<w.heap.size:=by
 obtain⟨t,fr,h⟩:=h
 rcases Nat.lt_or_ge 0 w.heap.size with h'|h'
 ·exact h'
 ·simp[Array.getElem?_eq_none h']at h
theorem Ks.below {w w':World} (h:Ks w) {B:Nat} (hb:Below B w w') (hB:0<B):Ks w':=by
 obtain⟨t,fr,h⟩:=h
 exact⟨t,fr,(hb.block 0 hB).trans h⟩
theorem Ks.ext {w w':World} (h:Ks w) (hb:Below w.heap.size w w'):Ks w':=h.below hb h.lt
theorem run_index_u32 {P:Program} (t e:TypeId) (n:Nat) (xs:List Int) (i:Nat) (ht:P.underlying t=some (.array n e)) (hd:P.underlying e=some (.int .u32)) (hi:∀w,(sizeOf e).run P w=.ok 1 w) (hn:xs.length=n) (h:i<n) (w:World):
 (Instr.index t (.agg (u32s xs)) (.int .i64 i)).run P w=.ok (.int .u32 (xs[i]?.getD 0)) w:=by
 have h1:(0<=(i:Int)/\(i:Int)<(n:Int)):=by omega
 have h2:(u32s xs)[i]?=some (.int .u32 (xs[i]?.getD 0)):=u32s_get' (by omega)
 simp[Instr.index,run_underlying ht,asIntOf,h1,part,isAgg,run_underlying hd,hi,h2]
 omega
set_option maxHeartbeats 4000000 in
theorem block_any (g:Nat) (w:World) (a b c d e f g' h':Int) (n:Value) (r:Value) (hw:IsBlk w g (u32s [a,b,c,d,e,f,g',h']++ #[n,r]) 132) (hg0:0<g) (hK:Ks w)
 (s:ByteArray) (hs:64<=s.size) (hs':s.size<=281474976710656):
  Calls Tryz.prog 114 #[.pointer (some ⟨g,0,none⟩),.string s] w fun e' w'=>e'=.returned (.tuple #[])/\w.grownBy w' (some g)/\IsBlk w' g (u32s (blk [a,b,c,d,e,f,g',h'] s.data.toList)++ #[n,r]) 132:=by
 obtain⟨l,hl⟩:∃l,l=s.data.toList:=⟨_,rfl⟩
 have hgl:=hw.lt
 have HW:=hid hw;clear hw
 have HK:=hid hK;clear hK
 have HL:=hid hl;clear hl
 go_enter Tryz.func114,Tryz.ntmps114
 go_wp2
 go_loopw [21] (fun i wr=>∃k:Nat,k<=16/\i=.int .i64 k/\Below w.heap.size w wr/\IsBlk wr w.heap.size (u32s (schedA l k)) 189) (fun i _=>16-(intOf i).toNat)
 case atStart=>
  exact⟨0,by omega,rfl,(Below.refl _ _).alloc (Nat.le_refl _) _,IsBlk.new _ _ _⟩
 case round=>
 obtain⟨k,hk,rfl,hb,hblk⟩:=hrel
 by_cases hlt:k<16
 ·have hcell:wr.cell? ⟨w.heap.size,k,none⟩=some (.int .u32 ((schedA l k)[k]?.getD 0)):=hblk.cell (u32s_get' (by rw[schedA_length _ _ (by omega)];omega))
  have hfr:wr.frozen? ⟨w.heap.size,k,none⟩=false:=hblk.frozen k
  have H:=hid hblk;clear hblk
  have hbsz:=hb.size
  have HB:=hid hb;clear hb
  have i0:4*(k:Int)<(s.size:Int):=by omega
  have i1:4*(k:Int)+1<(s.size:Int):=by omega
  have i2:4*(k:Int)+2<(s.size:Int):=by omega
  have i3:4*(k:Int)+3<(s.size:Int):=by omega
  have j0:0<=4*(k:Int):=by omega
  have j1:0<=4*(k:Int)+1:=by omega
  have j2:0<=4*(k:Int)+2:=by omega
  have j3:0<=4*(k:Int)+3:=by omega
  go_wp2
  go_region
  go_wp2
  go_roundw
  case rel=>
   rw[by_at,by_at,by_at,by_at,←HL.out,word_or]
   refine⟨k+1,by omega,by go_num,(HB.out.setCell (Nat.le_refl _) _).drew,?_⟩
   have:=H.out.set k (.int .u32 (word l k))
   rw[u32s_set,schedA_set l k (by omega) _ (by rw[if_pos hlt])]at this
   exact this
  case measure=>simp[intOf];omega
 ·rw[show(k:Int)=16 by omega]
  obtain rfl:k=16:=by omega
  clear hlt hk
  have hbsz:=hb.size
  have H:=hid hblk;clear hblk
  have HB:=hid hb;clear hb
  go_wp2
  go_loopw [6] (fun i wr=>∃k:Nat,16<=k/\k<=64/\i=.int .i64 k/\Below w.heap.size w wr/\IsBlk wr w.heap.size (u32s (schedA l k)) 189) (fun i _=>64-(intOf i).toNat)
  case atStart=>exact⟨16,by omega,by omega,rfl,HB.out,H.out⟩
  case round=>
  clear H HB hbsz
  obtain⟨k,hk,hk',rfl,hb,hblk⟩:=hrel
  by_cases hlt:k<64
  ·have hl:(schedA l k).length=64:=schedA_length _ _ hk'
   have hcell:wr.cell? ⟨w.heap.size,k,none⟩=some (.int .u32 ((schedA l k)[k]?.getD 0)):=hblk.cell (u32s_get' (by omega))
   have hc2:wr.cell? ⟨w.heap.size,k-2,none⟩=some (.int .u32 ((sched l k)[k-2]?.getD 0)):=by rw[←schedA_get l k _ (by omega)];exact hblk.cell (u32s_get' (by omega))
   have hc15:wr.cell? ⟨w.heap.size,k-15,none⟩=some (.int .u32 ((sched l k)[k-15]?.getD 0)):=by rw[←schedA_get l k _ (by omega)];exact hblk.cell (u32s_get' (by omega))
   have hc16:wr.cell? ⟨w.heap.size,k-16,none⟩=some (.int .u32 ((sched l k)[k-16]?.getD 0)):=by rw[←schedA_get l k _ (by omega)];exact hblk.cell (u32s_get' (by omega))
   have hc7:wr.cell? ⟨w.heap.size,k-7,none⟩=some (.int .u32 ((sched l k)[k-7]?.getD 0)):=by rw[←schedA_get l k _ (by omega)];exact hblk.cell (u32s_get' (by omega))
   have hfr:wr.frozen? ⟨w.heap.size,k,none⟩=false:=hblk.frozen k
   have hlt1:w.heap.size<wr.heap.size:=hblk.lt
   have hbsz:=hb.size
   have H:=hid hblk;clear hblk
   have HB:=hid hb;clear hb
   clear hl
   go_wp2
   go_region
   go_wp2
   refine mix_start [29] (Cls wr) (by kernel_rfl) (Cls.of (((Below.refl _ _).drew).drew)) ?_
   refine mix_flt (by kernel_rfl) [0,1,2,3,4,5,7,10,11,14,15,16,17,19,21,24,25] 13 _ _ (by kernel_rfl) ?_
   simp only[opsAt,zo1,zo2,zo3,zo4,zo5]
   unfold Cls
   repeat(go_big_quiet_step (fail))
   refine wpQuiet_nil ?_
   (try rw[←Cls_def])
   refine mix_ch (i:=6) (fuel:=12) (by kernel_rfl) _ rfl (fun w1 hw1=>?_)
   go_wp2_with(go_at_call 139;refine(rotr_any _ _ _ (by omega) (by omega)).mono ?_;rintro e w' ⟨rfl,rfl⟩)
   refine Then.same (hw1) ?_
   refine mix_ch (i:=8) (fuel:=11) (by kernel_rfl) _ rfl (fun w1 hw1=>?_)
   go_wp2_with(go_at_call 139;refine(rotr_any _ _ _ (by omega) (by omega)).mono ?_;rintro e w' ⟨rfl,rfl⟩)
   refine Then.same (hw1) ?_
   refine mix_flt (by kernel_rfl) [9,12,13,18] 7 _ _ (by kernel_rfl) ?_
   simp only[opsAt,zo1,zo2,zo3,zo4,zo5]
   unfold Cls
   repeat(go_big_quiet_step (fail))
   refine wpQuiet_nil ?_
   (try rw[←Cls_def])
   refine mix_ch (i:=20) (fuel:=6) (by kernel_rfl) _ rfl (fun w1 hw1=>?_)
   go_wp2_with(go_at_call 139;refine(rotr_any _ _ _ (by omega) (by omega)).mono ?_;rintro e w' ⟨rfl,rfl⟩)
   refine Then.same (hw1) ?_
   refine mix_ch (i:=22) (fuel:=5) (by kernel_rfl) _ rfl (fun w1 hw1=>?_)
   go_wp2_with(go_at_call 139;refine(rotr_any _ _ _ (by omega) (by omega)).mono ?_;rintro e w' ⟨rfl,rfl⟩)
   refine Then.same (hw1) ?_
   refine mix_flt (by kernel_rfl) [23,26,27,28] 1 _ _ (by kernel_rfl) ?_
   simp only[opsAt,zo1,zo2,zo3,zo4,zo5]
   unfold Cls
   repeat(go_big_quiet_step (fail))
   refine wpQuiet_nil ?_
   (try rw[←Cls_def])
   refine mix_end [29] (by kernel_rfl) (fun w1 hw1=>?_)
   simp only[opsAt,zo1,zo2,zo3,zo4,zo5]
   obtain⟨x,rfl⟩:=hw1
   go_wp2
   refine Calm.normal ?_
   go_wp2
   go_roundw
   case rel=>
    have hB:Below wr.heap.size wr (ext wr x):=ext_below wr x
    refine⟨k+1,by omega,by omega,by go_num,(Below.trans HB.out (hB.mono hbsz)).setCell (Nat.le_refl _) _,?_⟩
    have:=(H.out.ext hB).set k (.int .u32 (nextW (sched l k) k))
    rw[u32s_set,schedA_set l k (by omega) _ (by rw[if_neg (by omega)])]at this
    exact this
   case measure=>simp[intOf];omega
  ·rw[show(k:Int)=64 by omega]
   obtain rfl:k=64:=by omega
   clear hlt hk hk'
   have hbsz:=hb.size
   have hN:w.heap.size<wr.heap.size:=hblk.lt
   have hw:=HW.out.below hb hgl
   have c0:wr.cell? ⟨g,0,none⟩=some (.int .u32 a):=hw.cell rfl
   have c1:wr.cell? ⟨g,1,none⟩=some (.int .u32 b):=hw.cell rfl
   have c2:wr.cell? ⟨g,2,none⟩=some (.int .u32 c):=hw.cell rfl
   have c3:wr.cell? ⟨g,3,none⟩=some (.int .u32 d):=hw.cell rfl
   have c4:wr.cell? ⟨g,4,none⟩=some (.int .u32 e):=hw.cell rfl
   have c5:wr.cell? ⟨g,5,none⟩=some (.int .u32 f):=hw.cell rfl
   have c6:wr.cell? ⟨g,6,none⟩=some (.int .u32 g'):=hw.cell rfl
   have c7:wr.cell? ⟨g,7,none⟩=some (.int .u32 h'):=hw.cell rfl
   have H:=hid hblk;clear hblk
   have HB:=hid hb;clear hb
   clear hw
   obtain⟨tk,fk,hk0⟩:=HK.out.below HB.out HK.out.lt
   have hkr:∀o,(wr.alloc o).heap[0]?=some (.cells (u32s kTab) tk fk):=fun o=>by rw[Below.heap_alloc _ _ _ (by omega)];exact hk0
   have HKR:=hid hkr;clear hkr hk0
   obtain⟨wq,rfl⟩:∃wo:World,wo=wr:=⟨_,rfl⟩
   go_wp2_with(refine wpList_load_row rfl 189 _ rfl 0 rfl tk _ fk _ (HKR.out _) Tryz.underlying189 rfl (by kernel_rfl) ?_)
   clear c0 c1 c2 c3 c4 c5 c6 c7
   go_loopw [101] (fun i wx=>∃k:Nat,k<=64/\i=.int .i64 k/\Below wq.heap.size wq wx/\∃a1 b1 c1 d1 e1 f1 g1 h1:Int,rnd (sched l 64) [a,b,c,d,e,f,g',h'] k=[a1,b1,c1,d1,e1,f1,g1,h1]/\IsBlk wx wq.heap.size (u32s [a1,b1,c1,d1,e1,f1,g1,h1]) 130) (fun i _=>64-(intOf i).toNat)
   case atStart=>
    exact⟨0,by omega,rfl,(Below.refl _ _).alloc (Nat.le_refl _) _,a,b,c,d,e,f,g',h',rfl,IsBlk.new _ _ _⟩
   case round=>
   clear hbsz
   obtain⟨k,hk,rfl,hb,a1,b1,c1,d1,e1,f1,g1,h1,hrnd,hblk⟩:=hrel
   by_cases hlt:k<64
   ·have HR:=hid hrnd;clear hrnd
    have HX:∀wz:World,(Instr.index 189 (.agg (u32s kTab)) (.int .i64 k)).run Tryz.prog wz=.ok (.int .u32 (kTab[k]?.getD 0)) wz:=run_index_u32 189 102 64 kTab k Tryz.underlying189 Tryz.underlying102 (fun _=>by kernel_rfl) kTab_length hlt
    have k0:wr.cell? ⟨wq.heap.size,0,none⟩=some (.int .u32 a1):=hblk.cell rfl
    have k1:wr.cell? ⟨wq.heap.size,1,none⟩=some (.int .u32 b1):=hblk.cell rfl
    have k2:wr.cell? ⟨wq.heap.size,2,none⟩=some (.int .u32 c1):=hblk.cell rfl
    have k3:wr.cell? ⟨wq.heap.size,3,none⟩=some (.int .u32 d1):=hblk.cell rfl
    have k4:wr.cell? ⟨wq.heap.size,4,none⟩=some (.int .u32 e1):=hblk.cell rfl
    have k5:wr.cell? ⟨wq.heap.size,5,none⟩=some (.int .u32 f1):=hblk.cell rfl
    have k6:wr.cell? ⟨wq.heap.size,6,none⟩=some (.int .u32 g1):=hblk.cell rfl
    have k7:wr.cell? ⟨wq.heap.size,7,none⟩=some (.int .u32 h1):=hblk.cell rfl
    have kw:wr.cell? ⟨w.heap.size,k,none⟩=some (.int .u32 ((sched l 64)[k]?.getD 0)):=by
     rw[hb.cell (p:=⟨w.heap.size,k,none⟩) hN,←schedA_get l 64 _ hlt]
     exact H.out.cell (u32s_get' (by rw[schedA_length _ _ (by omega)];omega))
    have hv1:wq.heap.size<wr.heap.size:=hblk.lt
    have hv2:w.heap.size<wr.heap.size:=by omega
    have H2:=hid hblk;clear hblk
    go_wp2
    refine mix_start [] (Cls wr) (by kernel_rfl) (Cls.of ((Below.refl _ _).drew)) ?_
    refine mix_flt (by kernel_rfl) [0,1,2,3,4,5,6,7,8,9,10,11,12,13,14,15,16,17] 0 _ _ (by kernel_rfl) ?_
    simp only[opsAt,zo1,zo2,zo3,zo4,zo5]
    unfold Cls
    repeat(go_big_quiet_step (fail))
    refine wpQuiet_nil ?_
    (try rw[←Cls_def])
    refine mix_end [] (by kernel_rfl) (fun w1 hw1=>?_)
    refine wpList_nil ?_
    obtain⟨x,rfl⟩:=hw1
    refine Calm.normal ?_
    go_wp2
    refine mix_start [] (Cls wr) (by kernel_rfl) (Cls.of ((ext_below wr x).drew)) ?_
    refine mix_flt (by kernel_rfl) [0,1,2,4,7,11,12,13,14,15,16,17,18,20,22,23,24] 10 _ _ (by kernel_rfl) ?_
    simp only[opsAt,zo1,zo2,zo3,zo4,zo5]
    unfold Cls
    repeat(go_big_quiet_step (fail))
    refine wpQuiet_nil ?_
    (try rw[←Cls_def])
    refine mix_ch (i:=3) (fuel:=9) (by kernel_rfl) _ rfl (fun w1 hw1=>?_)
    go_wp2_with(go_at_call 139;refine(rotr_any _ _ _ (by omega) (by omega)).mono ?_;rintro e w' ⟨rfl,rfl⟩)
    refine Then.same (hw1) ?_
    refine mix_ch (i:=5) (fuel:=8) (by kernel_rfl) _ rfl (fun w1 hw1=>?_)
    go_wp2_with(go_at_call 139;refine(rotr_any _ _ _ (by omega) (by omega)).mono ?_;rintro e w' ⟨rfl,rfl⟩)
    refine Then.same (hw1) ?_
    refine mix_flt (by kernel_rfl) [6] 7 _ _ (by kernel_rfl) ?_
    simp only[opsAt,zo1,zo2,zo3,zo4,zo5]
    unfold Cls
    repeat(go_big_quiet_step (fail))
    refine wpQuiet_nil ?_
    (try rw[←Cls_def])
    refine mix_ch (i:=8) (fuel:=6) (by kernel_rfl) _ rfl (fun w1 hw1=>?_)
    go_wp2_with(go_at_call 139;refine(rotr_any _ _ _ (by omega) (by omega)).mono ?_;rintro e w' ⟨rfl,rfl⟩)
    refine Then.same (hw1) ?_
    refine mix_flt (by kernel_rfl) [9,10,19,21,25,26] 0 _ _ (by kernel_rfl) ?_
    simp only[opsAt,zo1,zo2,zo3,zo4,zo5]
    unfold Cls
    repeat(go_big_quiet_step (fail))
    refine wpQuiet_nil ?_
    (try rw[←Cls_def])
    refine mix_end [] (by kernel_rfl) (fun w1 hw1=>?_)
    refine wpList_nil ?_
    obtain⟨y,rfl⟩:=hw1
    refine Calm.normal ?_
    go_wp2_with(go_at_call 139;refine(rotr_any _ _ _ (by omega) (by omega)).mono ?_;rintro e w' ⟨rfl,rfl⟩)
    refine mix_start [2] (Cls wr) (by kernel_rfl) (Cls.of ((ext_below wr y).drew)) ?_
    refine mix_flt (by kernel_rfl) [0,1] 1 _ _ (by kernel_rfl) ?_
    simp only[opsAt,zo1,zo2,zo3,zo4,zo5]
    unfold Cls
    repeat(go_big_quiet_step (fail))
    refine wpQuiet_nil ?_
    (try rw[←Cls_def])
    refine mix_end [2] (by kernel_rfl) (fun w1 hw1=>?_)
    simp only[opsAt,zo1,zo2,zo3,zo4,zo5]
    obtain⟨z,rfl⟩:=hw1
    have H3:=H2.out.ext (ext_below wr z)
    have hbz:Below wq.heap.size wq (ext wr z):=below_ext hb (ext_below wr z)
    refine wpList_copy_splice rfl _ _ _ _ rfl 102 Tryz.underlying191 (by kernel_rfl) _ _ _ _ _ _ rfl rfl wq.heap.size 1 [.int .u32 a1,.int .u32 b1,.int .u32 c1,.int .u32 d1,.int .u32 e1,.int .u32 f1,.int .u32 g1,.int .u32 h1] 130 H3 [.int .u32 a1,.int .u32 b1,.int .u32 c1,.int .u32 d1,.int .u32 e1,.int .u32 f1,.int .u32 g1] rfl (fun _=>⟨rfl,_,rfl,?_⟩) (by simp) (by simp[Value.oneCell']) wq.heap.size wq hbz (Nat.le_refl _) ?_
    ·intro j v hj
     refine H3.add (o:=0) ?_
     have hj7:j<7:=by
      rcases Nat.lt_or_ge j 7 with h'|h'
      ·exact h'
      ·rw[List.getElem?_eq_none (by simpa using h')]at hj;cases hj
     rw[Nat.zero_add]
     rw[←hj]
     match j,hj7 with
     |0,_|1,_|2,_|3,_|4,_|5,_|6,_=>rfl
    intro w2 hsp hb2
    have H4:IsBlk w2 wq.heap.size (u32s [a1,a1,b1,c1,d1,e1,f1,g1]) 130:=hsp.out
    clear hsp H3 hbz
    have m0:w2.cell? ⟨wq.heap.size,0,none⟩=some (.int .u32 a1):=H4.cell rfl
    have m4:w2.cell? ⟨wq.heap.size,4,none⟩=some (.int .u32 d1):=H4.cell rfl
    have n0:w2.frozen? ⟨wq.heap.size,0,none⟩=false:=H4.frozen 0
    have n4:w2.frozen? ⟨wq.heap.size,4,none⟩=false:=H4.frozen 4
    have H5:=hid H4;clear H4
    have HB2:=hid hb2;clear hb2
    refine wpList_nil ?_
    refine Calm.normal ?_
    go_wp2
    go_roundw
    case rel=>
     refine⟨k+1,by omega,by go_num,(HB2.out.setCell (Nat.le_refl _) _).setCell (Nat.le_refl _) _,?_⟩
     refine⟨_,_,_,_,_,_,_,_,rnd_next HR.out,?_⟩
     exact(H5.out.set32 0 _).set32 4 _
    case measure=>simp[intOf];omega
   ·rw[show(k:Int)=64 by omega]
    obtain rfl:k=64:=by omega
    clear hlt hk
    have hbsz:=hb.size
    have hv1:wq.heap.size<wr.heap.size:=hblk.lt
    have HR:=hid hrnd;clear hrnd
    have H2:=hid hblk;clear hblk
    have hgw:IsBlk wr g (u32s [a,b,c,d,e,f,g',h']++ #[n,r]) 132:=(HW.out.below HB.out hgl).below hb (by omega)
    have HG:=hid hgw;clear hgw
    have hbb:Below w.heap.size w wr:=Below.trans HB.out (hb.mono (by omega))
    have HBB:=hid hbb;clear hbb hb HB HK HKR H
    go_wp2
    go_loopw [176] (fun i wx=>∃k:Nat,k<=8/\i=.int .i64 k/\w.grownBy wx (some g)/\IsBlk wx g (u32s (addN [a,b,c,d,e,f,g',h'] [a1,b1,c1,d1,e1,f1,g1,h1] k)++ #[n,r]) 132/\IsBlk wx wq.heap.size (u32s [a1,b1,c1,d1,e1,f1,g1,h1]) 130) (fun i _=>8-(intOf i).toNat)
    case atStart=>
     refine⟨0,by omega,rfl,?_,?_,H2.out⟩
     ·have:=HBB.out
      exact⟨this.os,this.tape,this.output,this.size,fun k hk _=>this.block k hk⟩
     ·rw[addN_zero];exact HG.out
    case round=>
    clear HBB HG hbsz H2 hv1
    obtain⟨k,hk,rfl,hgr,hgb,hvb⟩:=hrel
    by_cases hlt:k<8
    ·have hl8:(addN [a,b,c,d,e,f,g',h'] [a1,b1,c1,d1,e1,f1,g1,h1] k).length=8:=addN_length _ _ _
     have q0:wr.cell? ⟨g,k,none⟩=some (.int .u32 ([a,b,c,d,e,f,g',h'][k]?.getD 0)):=by
      rw[←addN_at [a,b,c,d,e,f,g',h'] [a1,b1,c1,d1,e1,f1,g1,h1] k hlt]
      exact hgb.cell (u32s_app_get (by omega))
     have q1:wr.frozen? ⟨g,k,none⟩=false:=hgb.frozen k
     have q2:wr.cell? ⟨wq.heap.size,k,none⟩=some (.int .u32 ([a1,b1,c1,d1,e1,f1,g1,h1][k]?.getD 0)):=hvb.cell (u32s_get' (by simpa using hlt))
     have q3:g<wr.heap.size:=hgb.lt
     have q4:wq.heap.size<wr.heap.size:=hvb.lt
     obtain⟨x0,hx0⟩:∃x0,x0=[a,b,c,d,e,f,g',h'][k]?.getD 0:=⟨_,rfl⟩
     obtain⟨x1,hx1⟩:∃x1,x1=[a1,b1,c1,d1,e1,f1,g1,h1][k]?.getD 0:=⟨_,rfl⟩
     rw[←hx0]at q0
     rw[←hx1]at q2
     have HX0:=hid hx0;clear hx0
     have HX1:=hid hx1;clear hx1
     have H1:=hid hgb;clear hgb
     have H2:=hid hvb;clear hvb
     have H3:=hid hgr;clear hgr
     have HL8:=hid hl8;clear hl8
     go_wp2
     refine mix_start [11] (Cls wr) (by kernel_rfl) (Cls.of ((Below.refl _ _).drew)) ?_
     refine mix_flt (by kernel_rfl) [0,1,2,3,4,5,6,7,8,9,10] 1 _ _ (by kernel_rfl) ?_
     simp only[opsAt,zo1,zo2,zo3,zo4,zo5]
     unfold Cls
     repeat(go_big_quiet_step (fail))
     refine wpQuiet_nil ?_
     (try rw[←Cls_def])
     refine mix_end [11] (by kernel_rfl) (fun w1 hw1=>?_)
     simp only[opsAt,zo1,zo2,zo3,zo4,zo5]
     obtain⟨x,rfl⟩:=hw1
     go_wp2
     refine Calm.normal ?_
     go_wp2
     go_roundw
     case rel=>
      have hbx:=ext_below wr x
      refine⟨k+1,by omega,by go_num,?_,?_,(H2.out.ext hbx).set_other (by simp;omega) _⟩
      ·have h3:=H3.out
       refine⟨hbx.os.trans h3.os,hbx.tape.trans h3.tape,hbx.output.trans h3.output,by simpa using Nat.le_trans h3.size hbx.size,fun j hj hne=>?_⟩
       rw[Below.heap_setCell _ _ _ _ (fun e=>hne (by rw[e])),hbx.block j (by have:=h3.size;omega)]
       exact h3.block j hj hne
      ·have:=(H1.out.ext hbx).set k (.int .u32 ((x0+x1)%4294967296))
       rw[u32s_app_set _ (by have:=HL8.out;omega),HX0.out,HX1.out,addN_set [a,b,c,d,e,f,g',h'] [a1,b1,c1,d1,e1,f1,g1,h1] k hlt]at this
       rw[HX0.out,HX1.out]
       exact this
     case measure=>simp[intOf];omega
    ·obtain rfl:k=8:=by omega
     clear hlt hk
     have H1:=hid hgb;clear hgb
     have H2:=hid hvb;clear hvb
     have H3:=hid hgr;clear hgr
     go_wp2
     go_end0
     refine⟨rfl,H3.out,?_⟩
     have:=H1.out
     rw[←HR.out,HL.out]at this
     exact this
def shaV (hs:List Int) (n:Int) (r:ByteArray):Value:=.agg (u32s hs++ #[.int .u64 n,.string r])
def rightB (n:Int) (k:Nat):Bool:=decide (n<1152921504606846976)&&(decide (k<64)&&((k:Int)==n%64))
theorem ret_bool {a b:Bool} (h:a=b):Ending.returned (.bool a)=.returned (.bool b):=by rw[h]
set_option maxHeartbeats 1000000 in
theorem right_eight (a b c d e f g h:Int) (n:Int) (r:ByteArray) (w:World) (hr:r.size<=281474976710656) (hn0:0<=n) (hn:n<18446744073709551616):
 Calls Tryz.prog 113 #[shaV [a,b,c,d,e,f,g,h] n r] w fun e w'=>e=.returned (.bool (rightB n r.size))/\Below w.heap.size w w':=by
 show Calls Tryz.prog 113 #[.agg #[.int .u32 a,.int .u32 b,.int .u32 c,.int .u32 d,.int .u32 e,.int .u32 f,.int .u32 g,.int .u32 h,.int .u64 n,.string r]] w _
 unfold rightB
 by_cases h1:n<1152921504606846976
 ·by_cases h2:r.size<64
  ·go_enter Tryz.func113,Tryz.ntmps113
   go_wp2
   go_ret
   exact⟨ret_bool (by simp[h1,h2]),(Below.refl _ _).alloc (Nat.le_refl _) _⟩
  ·go_enter Tryz.func113,Tryz.ntmps113
   go_wp2
   go_ret
   exact⟨ret_bool (by simp[h1,h2]),(Below.refl _ _).alloc (Nat.le_refl _) _⟩
 ·go_enter Tryz.func113,Tryz.ntmps113
  go_wp2
  go_ret
  exact⟨ret_bool (by have h2: ¬n<1152921504606846976:=by omega
                     simp[h2]),(Below.refl _ _).alloc (Nat.le_refl _) _⟩
theorem start_any (w:World):Calls Tryz.prog 86 #[] w fun e w'=>e=.returned (shaV h0 0 (bs []))/\Below w.heap.size w w':=by
 go_enter Tryz.func86,Tryz.ntmps86
 go_wp2
 exact bodyPost_ret (v:=shaV h0 0 (bs [])) (by simp[results,Tryz.results86,go_sem,shaV,h0,u32s,bs]) rfl ⟨rfl,(Below.refl _ _).alloc (Nat.le_refl _) _⟩
set_option maxHeartbeats 1000000 in
theorem rright_eight (a b c d e f g h:Int) (n:Int) (r:ByteArray) (w:World) (hr:r.size<=281474976710656) (hn0:0<=n) (hn:n<18446744073709551616):
 Calls Tryz.prog 124 #[shaV [a,b,c,d,e,f,g,h] n r] w fun e w'=>e=.returned (.bool (rightB n r.size))/\Below w.heap.size w w':=by
 show Calls Tryz.prog 124 #[.agg #[.int .u32 a,.int .u32 b,.int .u32 c,.int .u32 d,.int .u32 e,.int .u32 f,.int .u32 g,.int .u32 h,.int .u64 n,.string r]] w _
 unfold rightB
 by_cases h1:n<1152921504606846976
 ·by_cases h2:r.size<64
  ·go_enter Tryz.func124,Tryz.ntmps124
   go_wp2
   go_ret
   exact⟨ret_bool (by simp[h1,h2]),(Below.refl _ _).alloc (Nat.le_refl _) _⟩
  ·go_enter Tryz.func124,Tryz.ntmps124
   go_wp2
   go_ret
   exact⟨ret_bool (by simp[h1,h2]),(Below.refl _ _).alloc (Nat.le_refl _) _⟩
 ·go_enter Tryz.func124,Tryz.ntmps124
  go_wp2
  go_ret
  exact⟨ret_bool (by have h2: ¬n<1152921504606846976:=by omega
                     simp[h2]),(Below.refl _ _).alloc (Nat.le_refl _) _⟩
theorem rstart_any (w:World):Calls Tryz.prog 92 #[] w fun e w'=>e=.returned (shaV h0 0 (bs []))/\Below w.heap.size w w':=by
 go_enter Tryz.func92,Tryz.ntmps92
 go_wp2
 exact bodyPost_ret (v:=shaV h0 0 (bs [])) (by simp[results,Tryz.results92,go_sem,shaV,h0,u32s,bs]) rfl ⟨rfl,(Below.refl _ _).alloc (Nat.le_refl _) _⟩
theorem absorb_short :∀(n:Nat) (hs:List Int) (l:List UInt8),l.length<64->absorb n hs l=(hs,l)
 |0,_,_,_=>rfl
 |n+1,hs,l,h=>by rw[absorb,if_neg (by omega)]
theorem more_short (hs:List Int) (l:List UInt8) (h:l.length<64):more hs l=(hs,l):=absorb_short _ _ _ h
theorem more_long (hs:List Int) (l:List UInt8) (h:64<=l.length):more hs l=more (blk hs l) (l.drop 64):=by
 unfold more
 obtain⟨k,hk⟩:∃k,l.length/64=k+1:=⟨l.length/64-1,by omega⟩
 rw[hk,absorb,if_pos h]
 have:(l.drop 64).length/64=k:=by rw[List.length_drop];omega
 rw[this]
theorem more_fst (hs:List Int) (hl:hs.length=8):∀(n:Nat) (l:List UInt8),l.length<=n->(more hs l).1.length=8:=by
 intro n
 induction n generalizing hs with
 |zero=>intro l h;rw[more_short _ _ (by omega)];exact hl
 |succ n ih=>
  intro l h
  by_cases h6:64<=l.length
  ·rw[more_long _ _ h6]
   exact ih _ (by rw[blk_length];exact hl) _ (by rw[List.length_drop];omega)
  ·rw[more_short _ _ (by omega)];exact hl
theorem more_length (hs:List Int) (hl:hs.length=8) (l:List UInt8):(more hs l).1.length=8:=more_fst hs hl _ l (Nat.le_refl _)
theorem more_rest (hs:List Int):∀(n:Nat) (l:List UInt8),l.length<=n->(more hs l).2.length=l.length%64:=by
 intro n
 induction n generalizing hs with
 |zero=>intro l h;rw[more_short _ _ (by omega)];show l.length=_;omega
 |succ n ih=>
  intro l h
  by_cases h6:64<=l.length
  ·rw[more_long _ _ h6,ih _ _ (by rw[List.length_drop];omega),List.length_drop];omega
  ·rw[more_short _ _ (by omega)];show l.length=_;omega
set_option maxHeartbeats 4000000 in
theorem more_eight (a b c d e f g h:Int) (n:Int) (r s:ByteArray) (w:World) (hK:Ks w) (hr:r.size+s.size<=281474976710656) (hn0:0<=n) (hn:n<18446744073709551616):
 Calls Tryz.prog 85 #[shaV [a,b,c,d,e,f,g,h] n r,.string s] w fun e' w'=>
  e'=.returned (shaV (more [a,b,c,d,e,f,g,h] (r.data.toList++s.data.toList)).1 ((n+s.size)%18446744073709551616) (bs (more [a,b,c,d,e,f,g,h] (r.data.toList++s.data.toList)).2))/\Below w.heap.size w w':=by
 show Calls Tryz.prog 85 #[.agg #[.int .u32 a,.int .u32 b,.int .u32 c,.int .u32 d,.int .u32 e,.int .u32 f,.int .u32 g,.int .u32 h,.int .u64 n,.string r],.string s] w _
 have h0:=hK.lt
 have HK:=hid hK;clear hK
 go_enter Tryz.func85,Tryz.ntmps85
 go_wp2
 go_loopg [1] (r.size+s.size) (fun k v wr=>∃(s1:ByteArray) (a1 b1 c1 d1 e1 f1 g1 h1:Int),v=.string s1/\k=s1.size/\s1.size<=281474976710656/\more [a1,b1,c1,d1,e1,f1,g1,h1] s1.data.toList=more [a,b,c,d,e,f,g,h] (r.data.toList++s.data.toList)∧
  IsBlk wr w.heap.size (u32s [a1,b1,c1,d1,e1,f1,g1,h1]++ #[.int .u64 (IntKind.u64.wrap (n+s.size)),.string r]) 132∧
  IsBlk wr (w.heap.size+1) (u32s [0,0,0,0,0,0,0,0]++ #[.int .u64 0,.string (bs [])]) 132/\Below w.heap.size w wr)
 case atStart=>
  have e1:(r++s).size=r.size+s.size:=by simp
  refine⟨r++s,a,b,c,d,e,f,g,h,rfl,e1.symm,by omega,by simp,(IsBlk.new w _ _).alloc _,?_,((Below.refl _ _).alloc (Nat.le_refl _) _).alloc (by simp) _⟩
  exact IsBlk.new_at (by simp)
 case round=>
 obtain⟨s1,a1,b1,c1,d1,e1,f1,g1,h1,rfl,rfl,hs1,hm,hb1,hb2,hb⟩:=hrel
 have hN:w.heap.size<wr.heap.size:=hb1.lt
 have HM:=hid hm;clear hm
 have HB1:=hid hb1;clear hb1
 have HB2:=hid hb2;clear hb2
 have HB:=hid hb;clear hb
 by_cases h6:64<=s1.size
 ·go_wp2_with(go_at_call 114;refine(block_any w.heap.size _ a1 b1 c1 d1 e1 f1 g1 h1 _ _ HB1.out (by omega) (HK.out.below HB.out h0) s1 h6 hs1).mono ?_;rintro e' w' ⟨rfl,hgr,hbk⟩)
  have e64:(s1.extract 64 s1.size).data.toList=s1.data.toList.drop 64:=Lib.extract_to_end s1 64
  have z64:(s1.extract 64 s1.size).size=s1.size-64:=by simp
  go_roundg (s1.extract 64 s1.size).size
  case measure=>omega
  case rel=>
   obtain⟨a2,b2,c2,d2,e2,f2,g2,h2,hbl⟩:=of_eight (show(blk [a1,b1,c1,d1,e1,f1,g1,h1] s1.data.toList).length=8 from blk_length _ _)
   refine⟨_,a2,b2,c2,d2,e2,f2,g2,h2,rfl,rfl,by omega,?_,?_,?_,HB.out.grown hgr (by omega) (fun k hk=>by injection hk with hk;omega)⟩
   ·rw[e64,←hbl,←more_long _ _ (by rw[←ba_size];exact h6)]
    exact HM.out
   ·rw[←hbl];exact hbk
   ·exact(hgr.block (w.heap.size+1) HB2.out.lt (by simp)).trans HB2.out
 ·have hN1:=HB2.out.lt
  have HX:more [a1,b1,c1,d1,e1,f1,g1,h1] s1.data.toList=([a1,b1,c1,d1,e1,f1,g1,h1],s1.data.toList):=more_short _ _ (by rw[←ba_size];omega)
  rw[HM.out]at HX
  have HXX:=hid HX;clear HX
  have p0:wr.cell? ⟨w.heap.size,0,none⟩=some (.int .u32 a1):=HB1.out.cell rfl
  have p1:wr.cell? ⟨w.heap.size,1,none⟩=some (.int .u32 b1):=HB1.out.cell rfl
  have p2:wr.cell? ⟨w.heap.size,2,none⟩=some (.int .u32 c1):=HB1.out.cell rfl
  have p3:wr.cell? ⟨w.heap.size,3,none⟩=some (.int .u32 d1):=HB1.out.cell rfl
  have p4:wr.cell? ⟨w.heap.size,4,none⟩=some (.int .u32 e1):=HB1.out.cell rfl
  have p5:wr.cell? ⟨w.heap.size,5,none⟩=some (.int .u32 f1):=HB1.out.cell rfl
  have p6:wr.cell? ⟨w.heap.size,6,none⟩=some (.int .u32 g1):=HB1.out.cell rfl
  have p7:wr.cell? ⟨w.heap.size,7,none⟩=some (.int .u32 h1):=HB1.out.cell rfl
  have p8:wr.cell? ⟨w.heap.size,8,none⟩=some (.int .u64 (IntKind.u64.wrap (n+s.size))):=HB1.out.cell rfl
  have p9:wr.cell? ⟨w.heap.size,9,none⟩=some (.string r):=HB1.out.cell rfl
  have q0:wr.cell? ⟨w.heap.size+1,0,none⟩=some (.int .u32 0):=HB2.out.cell rfl
  have q1:wr.cell? ⟨w.heap.size+1,1,none⟩=some (.int .u32 0):=HB2.out.cell rfl
  have q2:wr.cell? ⟨w.heap.size+1,2,none⟩=some (.int .u32 0):=HB2.out.cell rfl
  have q3:wr.cell? ⟨w.heap.size+1,3,none⟩=some (.int .u32 0):=HB2.out.cell rfl
  have q4:wr.cell? ⟨w.heap.size+1,4,none⟩=some (.int .u32 0):=HB2.out.cell rfl
  have q5:wr.cell? ⟨w.heap.size+1,5,none⟩=some (.int .u32 0):=HB2.out.cell rfl
  have q6:wr.cell? ⟨w.heap.size+1,6,none⟩=some (.int .u32 0):=HB2.out.cell rfl
  have q7:wr.cell? ⟨w.heap.size+1,7,none⟩=some (.int .u32 0):=HB2.out.cell rfl
  have q8:wr.cell? ⟨w.heap.size+1,8,none⟩=some (.int .u64 0):=HB2.out.cell rfl
  have q9:wr.cell? ⟨w.heap.size+1,9,none⟩=some (.string (bs [])):=HB2.out.cell rfl
  have f1':∀j,wr.frozen? ⟨w.heap.size,j,none⟩=false:=fun j=>HB1.out.frozen j
  have f2':∀j,wr.frozen? ⟨w.heap.size+1,j,none⟩=false:=fun j=>HB2.out.frozen j
  go_wp2
  have hwr:IntKind.u64.wrap (n+s.size)=(n+s.size)%18446744073709551616:=by simp[IntKind.wrap,IntKind.bits,IntKind.signed]
  rw[HXX.out,←hwr]
  obtain⟨W,hW⟩:∃W:World,W=((((((((((wr.setCell ⟨w.heap.size,9,none⟩ (.string s1)).setCell ⟨w.heap.size+1,0,none⟩ (.int .u32 a1)).setCell ⟨w.heap.size+1,1,none⟩ (.int .u32 b1)).setCell ⟨w.heap.size+1,2,none⟩ (.int .u32 c1)).setCell ⟨w.heap.size+1,3,none⟩ (.int .u32 d1)).setCell ⟨w.heap.size+1,4,none⟩ (.int .u32 e1)).setCell ⟨w.heap.size+1,5,none⟩ (.int .u32 f1)).setCell ⟨w.heap.size+1,6,none⟩ (.int .u32 g1)).setCell ⟨w.heap.size+1,7,none⟩ (.int .u32 h1)).setCell ⟨w.heap.size+1,8,none⟩ (.int .u64 (IntKind.u64.wrap (n+s.size)))).setCell ⟨w.heap.size+1,9,none⟩ (.string s1):=⟨_,rfl⟩
  have hI:IsBlk W (w.heap.size+1) #[.int .u32 a1,.int .u32 b1,.int .u32 c1,.int .u32 d1,.int .u32 e1,.int .u32 f1,.int .u32 g1,.int .u32 h1,.int .u64 (IntKind.u64.wrap (n+s.size)),.string s1] 132:=by
   rw[hW]
   have HB2':IsBlk wr (w.heap.size+1) #[.int .u32 0,.int .u32 0,.int .u32 0,.int .u32 0,.int .u32 0,.int .u32 0,.int .u32 0,.int .u32 0,.int .u64 0,.string (bs [])] 132:=HB2.out
   have:=((((((((((HB2'.set_other (a:=⟨w.heap.size,9,none⟩) (by simp) (.string s1)).set 0 (.int .u32 a1)).set 1 (.int .u32 b1)).set 2 (.int .u32 c1)).set 3 (.int .u32 d1)).set 4 (.int .u32 e1)).set 5 (.int .u32 f1)).set 6 (.int .u32 g1)).set 7 (.int .u32 h1)).set 8 (.int .u64 (IntKind.u64.wrap (n+s.size)))).set 9 (.string s1)
   simpa using this
  have hbW:Below w.heap.size w W:=by
   rw[hW]
   repeat refine Below.setCell ?_ (by simp) _
   exact HB.out
  rw[←hW]
  clear hW
  exact bodyPost_ret (v:=.agg #[.int .u32 a1,.int .u32 b1,.int .u32 c1,.int .u32 d1,.int .u32 e1,.int .u32 f1,.int .u32 g1,.int .u32 h1,.int .u64 (IntKind.u64.wrap (n+s.size)),.string s1]) (results_cell_row Tryz.results85 _ W (w.heap.size+1) 132 _ (0,0) _ rfl hI Tryz.underlying132 rfl (by kernel_rfl)) rfl ⟨rfl,hbW⟩
theorem more_any (hs:List Int) (hl:hs.length=8) (n:Int) (r s:ByteArray) (w:World) (hK:Ks w) (hr:r.size+s.size<=281474976710656) (hn0:0<=n) (hn:n<18446744073709551616):
 Calls Tryz.prog 85 #[shaV hs n r,.string s] w fun e' w'=>
  e'=.returned (shaV (more hs (r.data.toList++s.data.toList)).1 ((n+s.size)%18446744073709551616) (bs (more hs (r.data.toList++s.data.toList)).2))/\Below w.heap.size w w':=by
 obtain⟨a,b,c,d,e,f,g,h,rfl⟩:=of_eight hl
 exact more_eight a b c d e f g h n r s w hK hr hn0 hn
def zeros (n:Nat):List UInt8:=List.replicate n 0
theorem madeCells_u8 (n:Nat):madeCells #[.int .u8 0] n=(u8s (zeros n)).toArray:=by
 unfold zeros
 apply Array.ext
 ·simp[madeCells,u8s]
 ·intro i h1 h2
  simp[madeCells,u8s,Nat.mod_one]
theorem below_at {w w1:World} {o:Obj} (h:Below (w.alloc o).heap.size (w.alloc o) w1):Below w.heap.size w w1:=below_ext ((Below.refl _ _).alloc (Nat.le_refl _) o) h
theorem zeros_take (n L:Nat) (h1:1<=L) (h2:L<=n):((u8s (zeros n)).toArray.setIfInBounds 0 (.int .u8 128)).toList.take L=u8s (128::zeros (L-1)):=by
 obtain⟨m,rfl⟩:∃m,L=m+1:=⟨L-1,by omega⟩
 obtain⟨k,rfl⟩:∃k,n=k+1:=⟨n-1,by omega⟩
 have hmn:min m k=m:=by omega
 simp[u8s,zeros,List.replicate_succ,List.take_replicate,hmn]
theorem bytes8_take (N k:Nat) (h:k<8):(bytes8 N).take (k+1)=(bytes8 N).take k++[UInt8.ofNat (N/2^(56-8*k)%256)]:=by
 match k,h with
 |0,_|1,_|2,_|3,_|4,_|5,_|6,_|7,_=>rfl
theorem bytes8_length (N:Nat):(bytes8 N).length=8:=rfl
theorem u8_nat (x:Nat):(((UInt8.ofNat (x%256)).toNat:Nat):Int)=(x:Int)%256:=by
 rw[UInt8.toNat_ofNat']
 omega
theorem pad_step (pre:List UInt8) (N k:Nat) (h:k<8):u8s (pre++(bytes8 N).take k)++[.int .u8 ((N:Int)/2^(56-8*k)%256)]=u8s (pre++(bytes8 N).take (k+1)):=by
 rw[bytes8_take N k h,←List.append_assoc,u8s_append _ [_],u8s_one,u8_nat]
 congr 1
theorem outB_length (a b c d e f g h:Int):(outB [a,b,c,d,e,f,g,h]).length=32:=rfl
theorem outB_step (a b c d e f g h:Int) (k:Nat) (hk:k<32):
 (u8s ((outB [a,b,c,d,e,f,g,h]).take k++zeros (32-k))).toArray.setIfInBounds k (.int .u8 ([a,b,c,d,e,f,g,h][k/4]?.getD 0/2^(24-8*(k%4))%256))=
 (u8s ((outB [a,b,c,d,e,f,g,h]).take (k+1)++zeros (32-(k+1)))).toArray:=by
 have hz:zeros (32-k)=0::zeros (32-(k+1)):=by
  unfold zeros
  rw[show 32-k=(32-(k+1))+1 by omega,List.replicate_succ]
 have ht:(outB [a,b,c,d,e,f,g,h]).take (k+1)=(outB [a,b,c,d,e,f,g,h]).take k++[UInt8.ofNat ([a,b,c,d,e,f,g,h][k/4]?.getD 0/2^(24-8*(k%4))%256).toNat]:=by
  rw[List.take_succ_eq_append_getElem (by rw[outB_length];exact hk)]
  congr 2
  match k,hk with
  |0,_|1,_|2,_|3,_|4,_|5,_|6,_|7,_|8,_|9,_|10,_|11,_|12,_|13,_|14,_|15,_|16,_|17,_|18,_|19,_|20,_|21,_|22,_|23,_|24,_|25,_|26,_|27,_|28,_|29,_|30,_=>simp[outB]
  |31,_=>simp[outB]
  |k+32,h=>exact absurd h (by omega)
 have hl:(u8s ((outB [a,b,c,d,e,f,g,h]).take k)).length=k:=by rw[u8s_length,List.length_take,outB_length];omega
 rw[hz,ht,List.setIfInBounds_toArray,u8s_append,List.set_append_right _ _ (by omega),hl,Nat.sub_self,u8s_append,u8s_append,List.append_assoc]
 have:((UInt8.ofNat ([a,b,c,d,e,f,g,h][k/4]?.getD 0/2^(24-8*(k%4))%256).toNat).toNat:Int)=[a,b,c,d,e,f,g,h][k/4]?.getD 0/2^(24-8*(k%4))%256:=(u8_of (by omega) (by omega)).symm
 rw[u8s_one,this]
 rfl
set_option maxHeartbeats 4000000 in
theorem end_eight (a b c d e f g h':Int) (n:Int) (r:ByteArray) (w:World) (hK:Ks w) (hr:r.size<=281474976710656) (hn0:0<=n) (hn:n<18446744073709551616) (hrt:rightB n r.size=true):
 Calls Tryz.prog 84 #[shaV [a,b,c,d,e,f,g,h'] n r] w fun e' w'=>
  e'=.returned (.tuple #[.string (bs (endOf [a,b,c,d,e,f,g,h'] r.data.toList n.toNat)),.int .i64 0])/\Below w.heap.size w w':=by
 show Calls Tryz.prog 84 #[.agg #[.int .u32 a,.int .u32 b,.int .u32 c,.int .u32 d,.int .u32 e,.int .u32 f,.int .u32 g,.int .u32 h',.int .u64 n,.string r]] w _
 have h0:=hK.lt
 have hr64:r.size<64:=by simp[rightB]at hrt;exact hrt.2.1
 have hn60:n<1152921504606846976:=by simp[rightB]at hrt;exact hrt.1
 have HK:=hid hK;clear hK
 obtain⟨L,hL⟩:∃L:Nat,L=1+(119-r.size)%64:=⟨_,rfl⟩
 have hLe:1+(119-(r.size:Int))%64=(L:Int):=by omega
 have hL1:1<=L:=by omega
 have hL2:L<=64:=by omega
 have HLL:=hid hL;clear hL
 have hmk:∀W:World,(Instr.makeSlice 85 (.int .i64 (L:Int)) (.int .i64 128)).run Tryz.prog W=.ok (.slice (some ⟨W.heap.size,0,none⟩) L 128) (W.alloc (.cells (u8s (zeros 128)).toArray 5)):=by
  intro W
  have hi:(Tryz.prog.info? 5).map (fun i=>(i.zero,i.size,i.bytes))=some (some (.int .u8 0),1,1):=by kernel_rfl
  obtain⟨i0,hi0,hz⟩:=Option.map_eq_some_iff.1 hi
  simp only[Prod.mk.injEq]at hz
  obtain⟨hz0,hz1,hz2⟩:=hz
  have:=run_make (P:=Tryz.prog) W 85 5 i0 (.int .u8 0) Tryz.underlying85 hi0 hz0 .i64 .i64 (L:Int) 128 (by omega) (by omega) (by rw[hz2];decide) (by decide)
  rw[hz1]at this
  rw[←madeCells_u8]
  exact this
 go_enter Tryz.func84,Tryz.ntmps84
 go_wp2_with fail
 go_at_call 113
 refine(right_eight a b c d e f g h' n r _ hr hn0 hn).mono ?_
 rintro e' w1 ⟨rfl,hb⟩
 have hbx:IsBlk w1 w.heap.size (u32s [a,b,c,d,e,f,g,h']++ #[.int .u64 n,.string r]) 132:=(IsBlk.new w _ _).ext hb
 have hbw:=below_at hb
 clear hb
 have hlt1:w.heap.size<w1.heap.size:=hbx.lt
 have p9:w1.cell? ⟨w.heap.size,9,none⟩=some (.string r):=hbx.cell rfl
 have HB:=hid hbx;clear hbx
 have HW:=hid hbw;clear hbw
 go_upto_region 4 with(fail)
 obtain⟨w2,hw2⟩:∃w2,w2=w1.alloc (.cells (u8s (zeros 128)).toArray 5):=⟨_,rfl⟩
 rw[←hw2]
 have hG:IsBlk w2 w1.heap.size (u8s (zeros 128)).toArray 5:=by rw[hw2];exact IsBlk.new _ _ _
 have hbx2:IsBlk w2 w.heap.size (u32s [a,b,c,d,e,f,g,h']++ #[.int .u64 n,.string r]) 132:=by rw[hw2];exact HB.out.alloc _
 have hbw2:Below w.heap.size w w2:=by rw[hw2];exact HW.out.alloc (by omega) _
 clear hw2
 have c0:w2.cell? ⟨w1.heap.size,0,none⟩=some (.int .u8 0):=hG.cell (by simp[u8s,zeros])
 have c1:w2.frozen? ⟨w1.heap.size,0,none⟩=false:=hG.frozen 0
 have HG:=hid hG;clear hG
 have HB2:=hid hbx2;clear hbx2 HB
 have HW2:=hid hbw2;clear hbw2 HW
 obtain⟨N,hN⟩:∃N:Nat,N=8*n.toNat:=⟨_,rfl⟩
 have hNe:8*n=(N:Int):=by omega
 have HN:=hid hN;clear hN
 go_wp2
 have hown:(w2.setCell ⟨w1.heap.size,0,none⟩ (.int .u8 128)).ownsRow (w.heap.size+1) 5 1 (.slice (some ⟨w1.heap.size,0,none⟩) L 128) L (u8s (128::zeros (L-1))):=by
  refine own_of_blk (HG.out.set 0 (.int .u8 128)) hlt1 (by omega) (by simp[maxLen]) (by simp[u8s,zeros]) ?_
  exact zeros_take 128 L hL1 (by omega)
 have HO:=hid hown;clear hown
 go_loopw [4,5] (fun v i wr=>∃k:Nat,k<=8/\i=.int .i64 (56-8*(k:Int))/\wr.ownsRow (w.heap.size+1) 5 1 v (L+k) (u8s (128::zeros (L-1)++(bytes8 N).take k))/\Below w.heap.size w wr/\IsBlk wr w.heap.size (u32s [a,b,c,d,e,f,g,h']++ #[.int .u64 n,.string r]) 132) (fun _ i _=>(intOf i+8).toNat)
 case atStart=>
  exact⟨0,by omega,rfl,by simpa using HO.out,HW2.out.setCell (by simp;omega) _,HB2.out.set_other (by simp;omega) _⟩
 case round=>
 obtain⟨k,hk,rfl,hown,hbw,hbx⟩:=hrel
 by_cases hlt:k<8
 ·have p8:wr.cell? ⟨w.heap.size,8,none⟩=some (.int .u64 n):=hbx.cell rfl
  have hwr:=hbx.lt
  have hlen:(u8s (128::zeros (L-1)++(bytes8 N).take k)).length=L+k:=by simp[u8s,zeros,bytes8_length];omega
  rw[←hlen]at hown
  have HO1:=hid hown;clear hown
  have HL1:=hid hlen;clear hlen
  have HW3:=hid hbw;clear hbw
  have HB3:=hid hbx;clear hbx
  go_wp2_with(at_builtin;refine push_one (w.heap.size+1) rfl _ _ 85 5 (.int .u8 0) 1 rfl Tryz.underlying85 (by kernel_rfl) rfl (by decide) _ _ HO1.out _ rfl rfl rfl (by omega) (by rw[HL1.out];omega) ?_;intro v1 w3 hown3 hg3)
  have hBv:∀j,Value.ownBlock _=some j->w.heap.size+1<=j:=fun j hj=>(HO1.out.lt j hj).1
  go_roundw
  case rel=>
   rw[HL1.out,pad_step _ _ _ hlt]at hown3
   refine⟨k+1,by omega,?_,hown3,HW3.out.grown hg3 (by omega) (fun j hj=>by have:=hBv j hj;omega),blk_grown HB3.out hg3 (fun e=>by have:=hBv _ e;omega)⟩
   go_num
  case measure=>simp[intOf];omega
 ·rw[show(56-8*(k:Int))= -8 by omega]
  obtain rfl:k=8:=by omega
  have hr':n.toNat%64=r.size:=by
   simp[rightB]at hrt
   omega
  have hpad:128::zeros (L-1)++(bytes8 N).take 8=pad n.toNat:=by
   have e1:(bytes8 N).take 8=bytes8 N:=List.take_of_length_le (by rw[bytes8_length];omega)
   have e2:8*n.toNat%18446744073709551616=N:=by have:=HN.out;omega
   have e3:(119-n.toNat%64)%64=L-1:=by have:=HLL.out;omega
   rw[e1,pad,e2,e3]
   rfl
  rw[hpad]at hown
  have hpl:(pad n.toNat).length=L+8:=by rw[←hpad];simp[zeros,bytes8_length];omega
  have hcv:=run_string_own (P:=Tryz.prog) (w:=wr) 85 5 9 Tryz.underlying85 Tryz.underlying5 Tryz.underlying9 hown
  have p0:wr.cell? ⟨w.heap.size,0,none⟩=some (.int .u32 a):=hbx.cell rfl
  have p1:wr.cell? ⟨w.heap.size,1,none⟩=some (.int .u32 b):=hbx.cell rfl
  have p2:wr.cell? ⟨w.heap.size,2,none⟩=some (.int .u32 c):=hbx.cell rfl
  have p3:wr.cell? ⟨w.heap.size,3,none⟩=some (.int .u32 d):=hbx.cell rfl
  have p4:wr.cell? ⟨w.heap.size,4,none⟩=some (.int .u32 e):=hbx.cell rfl
  have p5:wr.cell? ⟨w.heap.size,5,none⟩=some (.int .u32 f):=hbx.cell rfl
  have p6:wr.cell? ⟨w.heap.size,6,none⟩=some (.int .u32 g):=hbx.cell rfl
  have p7:wr.cell? ⟨w.heap.size,7,none⟩=some (.int .u32 h'):=hbx.cell rfl
  have p8:wr.cell? ⟨w.heap.size,8,none⟩=some (.int .u64 n):=hbx.cell rfl
  have p9':wr.cell? ⟨w.heap.size,9,none⟩=some (.string r):=hbx.cell rfl
  have hwr:=hbx.lt
  have HX:=hid hbx;clear hbx
  have HWX:=hid hbw;clear hbw
  have HP:=hid hpl;clear hpl hpad hown HG HB2 HW2 HO c0 c1 p9 HN HLL
  obtain⟨hs1,hhs⟩:∃hs1,hs1=(more [a,b,c,d,e,f,g,h'] (r.data.toList++(bs (pad n.toNat)).data.toList)).1:=⟨_,rfl⟩
  have hl8:hs1.length=8:=by rw[hhs];exact more_length _ rfl _
  obtain⟨a1,b1,c1,d1,e1,f1,g1,h1,hx⟩:=of_eight hl8
  go_wp2_with fail
  go_at_call 85
  refine(more_any [a,b,c,d,e,f,g,h'] rfl n r _ _ (HK.out.below HWX.out h0) (by rw[bs_size,HP.out];omega) hn0 hn).mono ?_
  rintro e' w3 ⟨he,hb3⟩
  obtain⟨n1,hn1⟩:∃n1:Int,n1=(n+((bs (pad n.toNat)).size:Int))%18446744073709551616:=⟨_,rfl⟩
  obtain⟨r1,hr1⟩:∃r1:ByteArray,r1=bs (more [a,b,c,d,e,f,g,h'] (r.data.toList++(bs (pad n.toNat)).data.toList)).2:=⟨_,rfl⟩
  rw[←hhs,←hn1,←hr1,hx]at he
  have he2:e'=.returned (.agg #[.int .u32 a1,.int .u32 b1,.int .u32 c1,.int .u32 d1,.int .u32 e1,.int .u32 f1,.int .u32 g1,.int .u32 h1,.int .u64 n1,.string r1]):=he
  subst he2
  clear he hr1 hn1 hl8
  have hbx3:=HX.out.ext hb3
  have hbw3:=below_ext HWX.out hb3
  have hsz3:=hb3.size
  have HHS:=hid (hhs.symm.trans hx);clear hhs hx hs1
  clear p0 p1 p2 p3 p4 p5 p6 p7 p8 p9' hb3 hcv
  have q0:w3.cell? ⟨w.heap.size,0,none⟩=some (.int .u32 a):=hbx3.cell rfl
  have q1:w3.cell? ⟨w.heap.size,1,none⟩=some (.int .u32 b):=hbx3.cell rfl
  have q2:w3.cell? ⟨w.heap.size,2,none⟩=some (.int .u32 c):=hbx3.cell rfl
  have q3:w3.cell? ⟨w.heap.size,3,none⟩=some (.int .u32 d):=hbx3.cell rfl
  have q4:w3.cell? ⟨w.heap.size,4,none⟩=some (.int .u32 e):=hbx3.cell rfl
  have q5:w3.cell? ⟨w.heap.size,5,none⟩=some (.int .u32 f):=hbx3.cell rfl
  have q6:w3.cell? ⟨w.heap.size,6,none⟩=some (.int .u32 g):=hbx3.cell rfl
  have q7:w3.cell? ⟨w.heap.size,7,none⟩=some (.int .u32 h'):=hbx3.cell rfl
  have q8:w3.cell? ⟨w.heap.size,8,none⟩=some (.int .u64 n):=hbx3.cell rfl
  have q9:w3.cell? ⟨w.heap.size,9,none⟩=some (.string r):=hbx3.cell rfl
  have qf:∀j,w3.frozen? ⟨w.heap.size,j,none⟩=false:=fun j=>hbx3.frozen j
  have hlt3:=hbx3.lt
  have HX3:=hid hbx3;clear hbx3 HX
  have HW3:=hid hbw3;clear hbw3 HWX
  go_upto_region 10 with(fail)
  generalize hW4:World.setCell _ _ _=W4
  have hI:IsBlk W4 w.heap.size #[.int .u32 a1,.int .u32 b1,.int .u32 c1,.int .u32 d1,.int .u32 e1,.int .u32 f1,.int .u32 g1,.int .u32 h1,.int .u64 n1,.string r1] 132:=by
   rw[←hW4]
   have HX3':IsBlk w3 w.heap.size #[.int .u32 a,.int .u32 b,.int .u32 c,.int .u32 d,.int .u32 e,.int .u32 f,.int .u32 g,.int .u32 h',.int .u64 n,.string r] 132:=HX3.out
   have:=((((((((((HX3').set 0 (.int .u32 a1)).set 1 (.int .u32 b1)).set 2 (.int .u32 c1)).set 3 (.int .u32 d1)).set 4 (.int .u32 e1)).set 5 (.int .u32 f1)).set 6 (.int .u32 g1)).set 7 (.int .u32 h1)).set 8 (.int .u64 n1)).set 9 (.string r1)
   simpa using this
  have hbW:Below w.heap.size w W4:=by
   rw[←hW4]
   iterate 10 refine below_set ?_ (Nat.le_refl _)
   exact HW3.out
  clear hW4 HW3 HX3 q0 q1 q2 q3 q4 q5 q6 q7 q8 q9 qf hlt3 hsz3
  have hltW:=hI.lt
  have HI:=hid hI;clear hI
  have HBW:=hid hbW;clear hbW
  go_wp2
  go_loopw [37] (fun i wr=>∃k:Nat,k<=32/\i=.int .i64 k/\Below w.heap.size w wr/\IsBlk wr w.heap.size #[.int .u32 a1,.int .u32 b1,.int .u32 c1,.int .u32 d1,.int .u32 e1,.int .u32 f1,.int .u32 g1,.int .u32 h1,.int .u64 n1,.string r1] 132/\IsBlk wr W4.heap.size (u8s ((outB [a1,b1,c1,d1,e1,f1,g1,h1]).take k++zeros (32-k))).toArray 166) (fun i _=>32-(intOf i).toNat)
  case atStart=>
   exact⟨0,by omega,rfl,HBW.out.alloc (by omega) _,HI.out.alloc _,IsBlk.new _ _ _⟩
  case round=>
  obtain⟨k,hk,rfl,hbw,hbx,hbo⟩:=hrel
  by_cases hlt:k<32
  ·have hk4:k/4<8:=by omega
   have s0:wr.cell? ⟨w.heap.size,k/4,none⟩=some (.int .u32 ([a1,b1,c1,d1,e1,f1,g1,h1][k/4]?.getD 0)):=
    (show IsBlk wr w.heap.size (u32s [a1,b1,c1,d1,e1,f1,g1,h1]++ #[.int .u64 n1,.string r1]) 132 from hbx).cell (u32s_app_get hk4)
   obtain⟨xk,hxk⟩:∃xk,xk=[a1,b1,c1,d1,e1,f1,g1,h1][k/4]?.getD 0:=⟨_,rfl⟩
   rw[←hxk]at s0
   obtain⟨yk,s1⟩:∃yk,wr.cell? ⟨W4.heap.size,k,none⟩=some yk:=⟨_,hbo.cell (Array.getElem?_eq_getElem (by simp[u8s,zeros,outB_length];omega))⟩
   have s2:wr.frozen? ⟨W4.heap.size,k,none⟩=false:=hbo.frozen k
   have HXK:=hid hxk;clear hxk
   have H1:=hid hbw;clear hbw
   have H2:=hid hbx;clear hbx
   have H3:=hid hbo;clear hbo
   go_wp2
   go_roundw
   case rel=>
    refine⟨k+1,by omega,by go_num,below_set H1.out (by omega),H2.out.set_other (by simp;omega) _,?_⟩
    have:=H3.out.set k (.int .u8 (xk/2^(24-8*(k%4))%256))
    rw[HXK.out,outB_step a1 b1 c1 d1 e1 f1 g1 h1 k hlt]at this
    rw[HXK.out]
    exact this
   case measure=>simp[intOf];omega
  ·rw[show(k:Int)=32 by omega]
   obtain rfl:k=32:=by omega
   have hob:IsBlk wr W4.heap.size (u8s (outB [a1,b1,c1,d1,e1,f1,g1,h1])).toArray 166:=by
    have:(outB [a1,b1,c1,d1,e1,f1,g1,h1]).take 32++zeros (32-32)=outB [a1,b1,c1,d1,e1,f1,g1,h1]:=by
     unfold zeros
     rw[Nat.sub_self,List.replicate_zero,List.append_nil,List.take_of_length_le (by rw[outB_length];omega)]
    rw[this]at hbo
    exact hbo
   have hcv:=run_string_blk (P:=Tryz.prog) (w:=wr) (n:=32) (cap:=32) 85 5 9 Tryz.underlying85 Tryz.underlying5 Tryz.underlying9 (outB_length a1 b1 c1 d1 e1 f1 g1 h1) hob
   have H1:=hid hbw;clear hbw hbx hbo hob hlt hk
   go_wp2
   go_ret2
   refine⟨?_,H1.out⟩
   have hfin:outB [a1,b1,c1,d1,e1,f1,g1,h1]=endOf [a,b,c,d,e,f,g,h'] r.data.toList n.toNat:=by
    rw[endOf,←HHS.out]
    rfl
   rw[←hfin]
   rfl
set_option maxHeartbeats 1000000 in
theorem end_not (a b c d e f g h':Int) (n:Int) (r:ByteArray) (w:World) (hr:r.size<=281474976710656) (hn0:0<=n) (hn:n<18446744073709551616) (hrt:rightB n r.size=false):
 Calls Tryz.prog 84 #[shaV [a,b,c,d,e,f,g,h'] n r] w fun e' w'=>
  e'=.returned (.tuple #[.string (bs []),.int .i64 6])/\Below w.heap.size w w':=by
 show Calls Tryz.prog 84 #[.agg #[.int .u32 a,.int .u32 b,.int .u32 c,.int .u32 d,.int .u32 e,.int .u32 f,.int .u32 g,.int .u32 h',.int .u64 n,.string r]] w _
 go_enter Tryz.func84,Tryz.ntmps84
 go_wp2_with fail
 go_at_call 113
 refine(right_eight a b c d e f g h' n r _ hr hn0 hn).mono ?_
 rintro e' w1 ⟨rfl,hb⟩
 have hbw:=below_at hb
 clear hb
 have HW:=hid hbw;clear hbw
 go_wp2_with fail
 go_ret2
 exact⟨rfl,HW.out⟩
def endP (hs:List Int) (n:Int) (r:ByteArray):List UInt8×Int:=if rightB n r.size then(endOf hs r.data.toList n.toNat,0)else([],6)
theorem end_any (hs:List Int) (hl:hs.length=8) (n:Int) (r:ByteArray) (w:World) (hK:Ks w) (hr:r.size<=281474976710656) (hn0:0<=n) (hn:n<18446744073709551616):
 Calls Tryz.prog 84 #[shaV hs n r] w fun e' w'=>e'=.returned (.tuple #[.string (bs (endP hs n r).1),.int .i64 (endP hs n r).2])/\Below w.heap.size w w':=by
 obtain⟨a,b,c,d,e,f,g,h',rfl⟩:=of_eight hl
 unfold endP
 cases hrt:rightB n r.size with
 |true=>exact end_eight a b c d e f g h' n r w hK hr hn0 hn hrt
 |false=>exact end_not a b c d e f g h' n r w hr hn0 hn hrt
theorem rightB_of (n:Nat) (k:Nat) (hn:n<1152921504606846976) (hk:k=n%64):rightB (n:Int) k=true:=by
 subst hk
 simp[rightB]
 omega
theorem endP_more (l:List UInt8) (hl:l.length<=281474976710656):endP (more h0 l).1 ((l.length:Int)) (bs (more h0 l).2)=(shaL l,0):=by
 unfold endP
 rw[rightB_of l.length _ (by omega) (by rw[bs_size,more_rest _ _ _ (Nat.le_refl _)]),if_pos rfl]
 rfl
set_option maxHeartbeats 1000000 in
theorem sum_any (s:ByteArray) (w:World) (hK:Ks w) (hs:s.size<=281474976710656):
 Calls Tryz.prog 50 #[.string s] w fun e' w'=>e'=.returned (.string (bs (shaL s.data.toList)))/\Below w.heap.size w w':=by
 have HK:=hid hK;clear hK
 have hL:s.data.toList.length=s.size:=(ba_size s).symm
 have HL:=hid hL;clear hL
 go_enter Tryz.func50,Tryz.ntmps50
 go_wp2_with fail
 go_at_call 86
 refine(start_any _).mono ?_
 rintro e' w1 ⟨rfl,hb⟩
 have H1:=hid hb;clear hb
 go_wp2_with fail
 go_at_call 85
 refine(more_any h0 rfl 0 (bs []) s _ (HK.out.ext H1.out) (by rw[bs_size];simpa using hs) (by decide) (by decide)).mono ?_
 rintro e' w2 ⟨he,hb⟩
 have e1:((0:Int)+(s.size:Int))%18446744073709551616=(s.data.toList.length:Int):=by rw[HL.out];omega
 rw[bs_toList,List.nil_append,e1]at he
 subst he
 have H2:=hid (below_ext H1.out hb);clear hb e1
 go_wp2_with fail
 go_at_call 84
 refine(end_any (more h0 s.data.toList).1 (more_length _ rfl _) (s.data.toList.length:Int) (bs (more h0 s.data.toList).2) _ (HK.out.ext H2.out) (by rw[bs_size,more_rest _ _ _ (Nat.le_refl _)];omega) (by omega) (by rw[HL.out];omega)).mono ?_
 rintro e' w3 ⟨he,hb⟩
 rw[endP_more _ (by rw[HL.out];omega)]at he
 subst he
 have H3:=hid (below_ext H2.out hb);clear hb
 go_wp2_with fail
 go_ret
 exact⟨rfl,H3.out⟩
theorem by_app (l m:List UInt8) (i:Nat) (h:i<l.length):by_ (l++m) i=by_ l i:=by
 unfold by_
 rw[List.getD_eq_getElem?_getD,List.getD_eq_getElem?_getD,List.getElem?_append_left h]
theorem word_app (l m:List UInt8) (k:Nat) (h:4*k+3<l.length):word (l++m) k=word l k:=by
 unfold word
 rw[by_app _ _ _ (by omega),by_app _ _ _ (by omega),by_app _ _ _ (by omega),by_app _ _ _ (by omega)]
theorem sched_app (l m:List UInt8) (h:64<=l.length):∀k,sched (l++m) k=sched l k
 |0=>rfl
 |k+1=>by
  rw[sched,sched,sched_app l m h k]
  by_cases hk:k<16
  ·rw[if_pos hk,if_pos hk,word_app _ _ _ (by omega)]
  ·rw[if_neg hk,if_neg hk]
theorem blk_app (hs:List Int) (l m:List UInt8) (h:64<=l.length):blk hs (l++m)=blk hs l:=by
 unfold blk
 rw[sched_app l m h]
theorem ten_cells {w:World} {g:Nat} {t:TypeId} {v0 v1 v2 v3 v4 v5 v6 v7 v8 v9:Value} (h:IsBlk w g #[v0,v1,v2,v3,v4,v5,v6,v7,v8,v9] t):
 w.cell? ⟨g,0,none⟩=some v0/\w.cell? ⟨g,1,none⟩=some v1/\w.cell? ⟨g,2,none⟩=some v2/\w.cell? ⟨g,3,none⟩=some v3/\w.cell? ⟨g,4,none⟩=some v4/\w.cell? ⟨g,5,none⟩=some v5/\w.cell? ⟨g,6,none⟩=some v6/\w.cell? ⟨g,7,none⟩=some v7/\w.cell? ⟨g,8,none⟩=some v8/\w.cell? ⟨g,9,none⟩=some v9:=
 ⟨h.cell rfl,h.cell rfl,h.cell rfl,h.cell rfl,h.cell rfl,h.cell rfl,h.cell rfl,h.cell rfl,h.cell rfl,h.cell rfl⟩
theorem ten_set {w:World} {g:Nat} {t:TypeId} {v0 v1 v2 v3 v4 v5 v6 v7 v8 v9:Value} (h:IsBlk w g #[v0,v1,v2,v3,v4,v5,v6,v7,v8,v9] t) (u0 u1 u2 u3 u4 u5 u6 u7 u8 u9:Value):
 IsBlk ((((((((((w.setCell ⟨g,0,none⟩ u0).setCell ⟨g,1,none⟩ u1).setCell ⟨g,2,none⟩ u2).setCell ⟨g,3,none⟩ u3).setCell ⟨g,4,none⟩ u4).setCell ⟨g,5,none⟩ u5).setCell ⟨g,6,none⟩ u6).setCell ⟨g,7,none⟩ u7).setCell ⟨g,8,none⟩ u8).setCell ⟨g,9,none⟩ u9) g #[u0,u1,u2,u3,u4,u5,u6,u7,u8,u9] t:=by
 have:=(((((((((h.set 0 u0).set 1 u1).set 2 u2).set 3 u3).set 4 u4).set 5 u5).set 6 u6).set 7 u7).set 8 u8).set 9 u9
 simpa using this
theorem ten_below {B g:Nat} {w0 w:World} (h:Below B w0 w) (hb:B<=g) (u0 u1 u2 u3 u4 u5 u6 u7 u8 u9:Value):
 Below B w0 ((((((((((w.setCell ⟨g,0,none⟩ u0).setCell ⟨g,1,none⟩ u1).setCell ⟨g,2,none⟩ u2).setCell ⟨g,3,none⟩ u3).setCell ⟨g,4,none⟩ u4).setCell ⟨g,5,none⟩ u5).setCell ⟨g,6,none⟩ u6).setCell ⟨g,7,none⟩ u7).setCell ⟨g,8,none⟩ u8).setCell ⟨g,9,none⟩ u9):=by
 iterate 10 refine below_set ?_ hb
 exact h
theorem or_comm32 (a b:Int):bits .or .u32 a b=bits .or .u32 b a:=by
 show IntKind.u32.wrap ((BitVec.ofInt 32 a|||BitVec.ofInt 32 b).toNat:Int)=IntKind.u32.wrap ((BitVec.ofInt 32 b|||BitVec.ofInt 32 a).toNat:Int)
 rw[BitVec.or_comm]
theorem not_of_sub (x:Int):BitVec.ofInt 32 ((4294967295-x)%4294967296)= ~~~BitVec.ofInt 32 x:=by
 apply BitVec.eq_of_toNat_eq
 rw[BitVec.toNat_not,BitVec.toNat_ofInt,BitVec.toNat_ofInt]
 omega
theorem not_of_xor (x:Int):BitVec.ofInt 32 (bits .xor .u32 IntKind.u32.max x)= ~~~BitVec.ofInt 32 x:=by
 have h:BitVec.ofInt 32 IntKind.u32.max=BitVec.allOnes 32:=by decide
 show BitVec.ofInt 32 (IntKind.u32.wrap ((BitVec.ofInt 32 IntKind.u32.max^^^BitVec.ofInt 32 x).toNat:Int))=_
 rw[h,BitVec.allOnes_xor,IntKind.wrap_u32']
 apply BitVec.eq_of_toNat_eq
 rw[BitVec.toNat_ofInt]
 have:=(~~~BitVec.ofInt 32 x).isLt
 omega
theorem ch_ref (x g:Int):bits .and .u32 ((4294967295-x)%4294967296) g=bits .and .u32 (bits .xor .u32 IntKind.u32.max x) g:=by
 show IntKind.u32.wrap ((BitVec.ofInt 32 ((4294967295-x)%4294967296)&&&BitVec.ofInt 32 g).toNat:Int)=IntKind.u32.wrap ((BitVec.ofInt 32 (bits .xor .u32 IntKind.u32.max x)&&&BitVec.ofInt 32 g).toNat:Int)
 rw[not_of_sub,not_of_xor]
set_option maxHeartbeats 400000 in
theorem ref_rotr_any (x n:Int) (w:World) (h:1<=n) (h':n<=31):
 Calls Tryz.prog 145 #[.int .u32 x,.int .i64 n] w fun e w'=>e=.returned (.int .u32 (rot x n))/\Below w.heap.size w w':=by
 have hs1:0<=n:=by omega
 have hs2:n<=64:=by omega
 have hs3:0<=32-n:=by omega
 have hs4:32-n<=64:=by omega
 go_enter Tryz.func145,Tryz.ntmps145
 go_wp2
 refine mix_start [] (Cls w) (by kernel_rfl) (Cls.of ((Below.refl _ _).drew)) ?_
 refine mix_flt (by kernel_rfl) [0,1,2,3,4,5,6,7,8] 0 _ _ (by kernel_rfl) ?_
 simp only[opsAt,zo1,zo2,zo3,zo4,zo5]
 unfold Cls
 repeat(go_big_quiet_step (fail))
 refine wpQuiet_nil ?_
 (try rw[←Cls_def])
 refine mix_end [] (by kernel_rfl) (fun w1 hw1=>?_)
 refine wpList_nil ?_
 obtain⟨y,rfl⟩:=hw1
 refine Calm.normal ?_
 go_wp2
 go_ret
 exact⟨ret_u32 (by unfold rot;rw[or_comm32]),ext_below w y⟩
def u32c (xs:List Int):List Value:=xs.map (Value.int .u32)
theorem u32c_get {xs:List Int} {i:Nat} (h:i<xs.length):(u32c xs)[i]?=some (.int .u32 (xs[i]?.getD 0)):=by simp[u32c,h]
set_option maxHeartbeats 400000 in
theorem ref_k_any (w:World):Calls Tryz.prog 146 #[] w fun e w'=>e=.returned (.slice (some ⟨w.heap.size,0,none⟩) 64 64)/\(IsBlk w' w.heap.size (u32s kTab) 102/\Below w.heap.size w w'):=by
 go_enter Tryz.func146,Tryz.ntmps146
 go_wp2
 go_ret
 exact⟨rfl,IsBlk.new _ _ _,(Below.refl _ _).alloc (Nat.le_refl _) _⟩
def wordN (l:List UInt8) (k:Nat):Nat->Int
 |0=>0
 |j+1=>wordN l k j*256+by_ l (4*k+j)
theorem wordN_four (l:List UInt8) (k:Nat):wordN l k 4=word l k:=by
 simp only[wordN,word,Nat.add_zero]
 omega
theorem wordN_lt (l:List UInt8) (k:Nat):∀j,j<=4->0<=wordN l k j/\wordN l k j<256^j
 |0,_=>by simp[wordN]
 |j+1,h=>by
  have h1:=wordN_lt l k j (by omega)
  have h2:=by_lt l (4*k+j)
  simp only[wordN]
  rw[Int.pow_succ]
  omega
theorem wordN_step (l:List UInt8) (k j:Nat) (h:j<4):(256*wordN l k j+by_ l (4*k+j))%4294967296=wordN l k (j+1):=by
 have h1:=wordN_lt l k j (by omega)
 have h2:=by_lt l (4*k+j)
 have h3:(256:Int)^j<=16777216:=by
  match j,h with
  |0,_|1,_|2,_|3,_=>decide
 simp only[wordN]
 omega
theorem sched_succ (l:List UInt8) (k:Nat) (h:k<16):sched l (k+1)=sched l k++[word l k]:=by rw[sched,if_pos h]
theorem sched_succ' (l:List UInt8) (k:Nat) (h: ¬k<16):sched l (k+1)=sched l k++[nextW (sched l k) k]:=by rw[sched,if_neg h]
theorem u32c_app (xs ys:List Int):u32c (xs++ys)=u32c xs++u32c ys:=by simp[u32c]
theorem eight_cells {w:World} {g:Nat} {t:TypeId} {v0 v1 v2 v3 v4 v5 v6 v7:Value} (h:IsBlk w g #[v0,v1,v2,v3,v4,v5,v6,v7] t):
 w.cell? ⟨g,0,none⟩=some v0/\w.cell? ⟨g,1,none⟩=some v1/\w.cell? ⟨g,2,none⟩=some v2/\w.cell? ⟨g,3,none⟩=some v3/\w.cell? ⟨g,4,none⟩=some v4/\w.cell? ⟨g,5,none⟩=some v5/\w.cell? ⟨g,6,none⟩=some v6/\w.cell? ⟨g,7,none⟩=some v7:=
 ⟨h.cell rfl,h.cell rfl,h.cell rfl,h.cell rfl,h.cell rfl,h.cell rfl,h.cell rfl,h.cell rfl⟩
theorem eight_set {w:World} {g:Nat} {t:TypeId} {v0 v1 v2 v3 v4 v5 v6 v7:Value} (h:IsBlk w g #[v0,v1,v2,v3,v4,v5,v6,v7] t) (u0 u1 u2 u3 u4 u5 u6 u7:Value):
 IsBlk ((((((((w.setCell ⟨g,0,none⟩ u0).setCell ⟨g,1,none⟩ u1).setCell ⟨g,2,none⟩ u2).setCell ⟨g,3,none⟩ u3).setCell ⟨g,4,none⟩ u4).setCell ⟨g,5,none⟩ u5).setCell ⟨g,6,none⟩ u6).setCell ⟨g,7,none⟩ u7) g #[u0,u1,u2,u3,u4,u5,u6,u7] t:=by
 have:=(((((((h.set 0 u0).set 1 u1).set 2 u2).set 3 u3).set 4 u4).set 5 u5).set 6 u6).set 7 u7
 simpa using this
theorem eight_other {w:World} {g g':Nat} {t:TypeId} {cs:Array Value} (h:IsBlk w g' cs t) (hne:g'≠g) (u0 u1 u2 u3 u4 u5 u6 u7:Value):
 IsBlk ((((((((w.setCell ⟨g,0,none⟩ u0).setCell ⟨g,1,none⟩ u1).setCell ⟨g,2,none⟩ u2).setCell ⟨g,3,none⟩ u3).setCell ⟨g,4,none⟩ u4).setCell ⟨g,5,none⟩ u5).setCell ⟨g,6,none⟩ u6).setCell ⟨g,7,none⟩ u7) g' cs t:=by
 iterate 8 refine IsBlk.set_other ?_ (by simpa using hne.symm) _
 exact h
theorem eight_below {B g:Nat} {w0 w:World} (h:Below B w0 w) (hb:B<=g) (u0 u1 u2 u3 u4 u5 u6 u7:Value):
 Below B w0 ((((((((w.setCell ⟨g,0,none⟩ u0).setCell ⟨g,1,none⟩ u1).setCell ⟨g,2,none⟩ u2).setCell ⟨g,3,none⟩ u3).setCell ⟨g,4,none⟩ u4).setCell ⟨g,5,none⟩ u5).setCell ⟨g,6,none⟩ u6).setCell ⟨g,7,none⟩ u7):=by
 iterate 8 refine below_set ?_ hb
 exact h
theorem below_trans_at {B:Nat} {w0 w1 w2:World} (h:Below B w0 w1) (k:Below w1.heap.size w1 w2) (hB:B<=w1.heap.size:=by omega):Below B w0 w2:=h.trans (k.mono hB)
theorem addN_comm (hs vs:List Int) (h:hs.length=vs.length):addN hs vs hs.length=addN vs hs vs.length:=by
 apply List.ext_getElem
 ·simp[addN,h]
 ·intro i h1 h2
  simp only[addN,List.length_map,List.length_range]at h1 h2
  simp only[addN,List.getElem_map,List.getElem_range,if_pos h1,if_pos h2]
  rw[Int.add_comm]
set_option maxHeartbeats 4000000 in
theorem ref_block_any (w:World) (a b c d e f g h':Int) (s:ByteArray) (hs:64<=s.size) (hs':s.size<=281474976710656):
 Calls Tryz.prog 125 #[.agg (u32s [a,b,c,d,e,f,g,h']),.string s] w fun e' w'=>e'=.returned (.agg (u32s (blk [a,b,c,d,e,f,g,h'] s.data.toList)))/\Below w.heap.size w w':=by
 show Calls Tryz.prog 125 #[.agg #[.int .u32 a,.int .u32 b,.int .u32 c,.int .u32 d,.int .u32 e,.int .u32 f,.int .u32 g,.int .u32 h'],.string s] w _
 obtain⟨l,hl⟩:∃l,l=s.data.toList:=⟨_,rfl⟩
 rw[←hl]
 have HL:=hid hl;clear hl
 go_enter Tryz.func125,Tryz.ntmps125
 go_wp2
 go_loopw [6,5] (fun i v wr=>∃k:Nat,k<=16/\i=.int .i64 k/\wr.ownsRow (w.heap.size+2) 102 1 v k (u32c (sched l k))/\Below w.heap.size w wr/\IsBlk wr w.heap.size #[.int .u32 a,.int .u32 b,.int .u32 c,.int .u32 d,.int .u32 e,.int .u32 f,.int .u32 g,.int .u32 h'] 130/\IsBlk wr (w.heap.size+1) #[.int .u32 0,.int .u32 0,.int .u32 0,.int .u32 0,.int .u32 0,.int .u32 0,.int .u32 0,.int .u32 0] 130) (fun i _ _=>16-(intOf i).toNat)
 case atStart=>
  refine⟨0,by omega,rfl,⟨rfl,Or.inl ⟨rfl,rfl⟩⟩,((Below.refl _ _).alloc (Nat.le_refl _) _).alloc (by simp) _,(IsBlk.new _ _ _).alloc _,IsBlk.new_at (by simp)⟩
 case round=>
 obtain⟨k,hk,rfl,hown,hb,hA,hR⟩:=hrel
 by_cases hlt:k<16
 ·have HO:=hid hown;clear hown
  have HB:=hid hb;clear hb
  have HA:=hid hA;clear hA
  have HR:=hid hR;clear hR
  have hRs:w.heap.size+1<wr.heap.size:=HR.out.lt
  obtain⟨wq,rfl⟩:∃wo:World,wo=wr:=⟨_,rfl⟩
  go_wp2
  go_loopw [8,7] (fun j v wx=>∃m:Nat,m<=4/\j=.int .i64 m/\v=.int .u32 (wordN l k m)/\wx=wq) (fun j _ _=>4-(intOf j).toNat)
  case atStart=>exact⟨0,by omega,rfl,rfl,rfl⟩
  case round=>
  obtain⟨m,hm,rfl,rfl,hwx⟩:=hrel
  by_cases hlt4:m<4
  ·have i0:4*(k:Int)+(m:Int)<(s.size:Int):=by omega
   have i1:0<=4*(k:Int)+(m:Int):=by omega
   have hst:=wordN_step l k m hlt4
   obtain⟨acc,hacc⟩:∃acc,acc=wordN l k m:=⟨_,rfl⟩
   rw[←hacc]at hst⊢
   have HST:=hid hst;clear hst
   have HAC:=hid hacc;clear hacc
   have HWX:=hid hwx;clear hwx
   go_wp2
   go_roundw
   case rel=>
    refine⟨m+1,by omega,by go_num,?_,HWX.out⟩
    have h1:=HST.out
    rw[by_at,←HL.out]
    congr 1
    omega
   case measure=>simp[intOf];omega
  ·rw[show(m:Int)=4 by omega]
   obtain rfl:m=4:=by omega
   subst hwx
   rw[wordN_four]
   go_wp2_with(at_builtin;refine push_one (w.heap.size+2) rfl _ _ 191 102 (.int .u32 0) 4 rfl Tryz.underlying191 (by kernel_rfl) rfl (by decide) _ (u32c (sched l k)) (by rw[show(u32c (sched l k)).length=k by simp[u32c,sched_length]];exact HO.out) _ rfl rfl rfl (by omega) (by simp[u32c,sched_length];omega) ?_)
   intro v1 w3 hown3 hg3
   have hob:∀j,Value.ownBlock _=some j->w.heap.size+2<=j:=fun j hj=>(HO.out.lt j hj).1
   go_wp2
   go_roundw
   case rel=>
    rw[show(u32c (sched l k)).length=k by simp[u32c,sched_length],show u32c (sched l k)++[Value.int .u32 (word l k)]=u32c (sched l k++[word l k])by simp[u32c],←sched_succ l k hlt]at hown3
    exact⟨k+1,by omega,by go_num,hown3,HB.out.grown hg3 (by omega) (fun j hj=>by have:=hob j hj;omega),blk_grown HA.out hg3 (fun e=>by have:=hob _ e;omega),blk_grown HR.out hg3 (fun e=>by have:=hob _ e;omega)⟩
   case measure=>simp[intOf];omega
 ·rw[show(k:Int)=16 by omega]
  obtain rfl:k=16:=by omega
  clear hlt hk
  have HO:=hid hown;clear hown
  have HB:=hid hb;clear hb
  have HA:=hid hA;clear hA
  have HR:=hid hR;clear hR
  go_wp2
  go_loopw [9,5] (fun i v wr=>∃k:Nat,16<=k/\k<=64/\i=.int .i64 k/\wr.ownsRow (w.heap.size+2) 102 1 v k (u32c (sched l k))/\Below w.heap.size w wr/\IsBlk wr w.heap.size #[.int .u32 a,.int .u32 b,.int .u32 c,.int .u32 d,.int .u32 e,.int .u32 f,.int .u32 g,.int .u32 h'] 130/\IsBlk wr (w.heap.size+1) #[.int .u32 0,.int .u32 0,.int .u32 0,.int .u32 0,.int .u32 0,.int .u32 0,.int .u32 0,.int .u32 0] 130) (fun i _ _=>64-(intOf i).toNat)
  case atStart=>exact⟨16,by omega,by omega,rfl,HO.out,HB.out,HA.out,HR.out⟩
  case round=>
  clear HO HB HA HR
  obtain⟨k,hk,hk',rfl,hown,hb,hA,hR⟩:=hrel
  by_cases hlt:k<64
  ·obtain⟨gg,cap,rfl,hgb,hgl,hkc,hcl⟩:=own_open hown (by omega)
   have hc2:wr.cell? ⟨gg,k-2,none⟩=some (.int .u32 ((sched l k)[k-2]?.getD 0)):=hcl _ _ (by omega) (u32c_get (by rw[sched_length];omega))
   have hc15:wr.cell? ⟨gg,k-15,none⟩=some (.int .u32 ((sched l k)[k-15]?.getD 0)):=hcl _ _ (by omega) (u32c_get (by rw[sched_length];omega))
   have hc16:wr.cell? ⟨gg,k-16,none⟩=some (.int .u32 ((sched l k)[k-16]?.getD 0)):=hcl _ _ (by omega) (u32c_get (by rw[sched_length];omega))
   have hc7:wr.cell? ⟨gg,k-7,none⟩=some (.int .u32 ((sched l k)[k-7]?.getD 0)):=hcl _ _ (by omega) (u32c_get (by rw[sched_length];omega))
   clear hcl
   have hRs:w.heap.size+1<wr.heap.size:=hR.lt
   have HO:=hid hown;clear hown
   have HB:=hid hb;clear hb
   have HA:=hid hA;clear hA
   have HR:=hid hR;clear hR
   go_wp2
   refine mix_start [] (Cls wr) (by kernel_rfl) (Cls.of ((Below.refl _ _).drew)) ?_
   refine mix_flt (by kernel_rfl) [0,1,2,3,4,6,7,8,9,10,13,14,15,16,17,18] 5 _ _ (by kernel_rfl) ?_
   simp only[opsAt,zo1,zo2,zo3,zo4,zo5]
   unfold Cls
   repeat(go_big_quiet_step (fail))
   refine wpQuiet_nil ?_
   (try rw[←Cls_def])
   refine mix_ch (i:=5) (fuel:=4) (by kernel_rfl) _ rfl (fun w1 hw1=>?_)
   go_wp2_with(go_at_call 145;refine(ref_rotr_any _ _ _ (by omega) (by omega)).mono ?_;rintro e w' ⟨rfl,hb⟩)
   refine Then.same (hw1.trans hb) ?_
   refine mix_ch (i:=11) (fuel:=3) (by kernel_rfl) _ rfl (fun w1 hw1=>?_)
   go_wp2_with(go_at_call 145;refine(ref_rotr_any _ _ _ (by omega) (by omega)).mono ?_;rintro e w' ⟨rfl,hb⟩)
   refine Then.same (hw1.trans hb) ?_
   refine mix_flt (by kernel_rfl) [12,19,20] 0 _ _ (by kernel_rfl) ?_
   simp only[opsAt,zo1,zo2,zo3,zo4,zo5]
   unfold Cls
   repeat(go_big_quiet_step (fail))
   refine wpQuiet_nil ?_
   (try rw[←Cls_def])
   refine mix_end [] (by kernel_rfl) (fun w1 hw1=>?_)
   refine wpList_nil ?_
   obtain⟨x,rfl⟩:=hw1
   refine Calm.normal ?_
   go_wp2
   refine mix_start [] (Cls wr) (by kernel_rfl) (Cls.of ((ext_below wr x).drew)) ?_
   refine mix_flt (by kernel_rfl) [0,1,2,3,4,6,7,8,9,10,13,14,15,16,17,18] 5 _ _ (by kernel_rfl) ?_
   simp only[opsAt,zo1,zo2,zo3,zo4,zo5]
   unfold Cls
   repeat(go_big_quiet_step (fail))
   refine wpQuiet_nil ?_
   (try rw[←Cls_def])
   refine mix_ch (i:=5) (fuel:=4) (by kernel_rfl) _ rfl (fun w1 hw1=>?_)
   go_wp2_with(go_at_call 145;refine(ref_rotr_any _ _ _ (by omega) (by omega)).mono ?_;rintro e w' ⟨rfl,hb⟩)
   refine Then.same (hw1.trans hb) ?_
   refine mix_ch (i:=11) (fuel:=3) (by kernel_rfl) _ rfl (fun w1 hw1=>?_)
   go_wp2_with(go_at_call 145;refine(ref_rotr_any _ _ _ (by omega) (by omega)).mono ?_;rintro e w' ⟨rfl,hb⟩)
   refine Then.same (hw1.trans hb) ?_
   refine mix_flt (by kernel_rfl) [12,19,20] 0 _ _ (by kernel_rfl) ?_
   simp only[opsAt,zo1,zo2,zo3,zo4,zo5]
   unfold Cls
   repeat(go_big_quiet_step (fail))
   refine wpQuiet_nil ?_
   (try rw[←Cls_def])
   refine mix_end [] (by kernel_rfl) (fun w1 hw1=>?_)
   refine wpList_nil ?_
   obtain⟨y,rfl⟩:=hw1
   refine Calm.normal ?_
   go_wp2
   refine mix_start [17,18] (Cls wr) (by kernel_rfl) (Cls.of ((ext_below wr y).drew)) ?_
   refine mix_flt (by kernel_rfl) [0,1,2,3,4,5,6,7,8,9,10,11,12,13,14,15] 3 _ _ (by kernel_rfl) ?_
   simp only[opsAt,zo1,zo2,zo3,zo4,zo5]
   unfold Cls
   repeat(go_big_quiet_step (fail))
   refine wpQuiet_nil ?_
   (try rw[←Cls_def])
   refine mix_ch (i:=16) (fuel:=2) (by kernel_rfl) _ rfl (fun w1 hw1=>?_)
   go_wp2_with(fail)
   refine Then.alloc hw1 ?_
   have hwa:=hw1
   obtain⟨wa,rfl⟩:∃wo:World,wo=w1:=⟨_,rfl⟩
   refine mix_end [17,18] (by kernel_rfl) (fun w1 hw1=>?_)
   simp only[opsAt,zo1,zo2,zo3,zo4,zo5]
   have hba:Below wr.heap.size wr wa:=hwa.below
   have hsza:wr.heap.size<=wa.heap.size:=hba.size
   have hbw:Below wr.heap.size wr w1:=below_ext (hba.alloc (by omega) _) hw1.below
   have hG:=(IsBlk.new wa _ _).ext hw1.below
   have hszw:wr.heap.size<=w1.heap.size:=hbw.size
   refine push_at (w.heap.size+2) rfl _ _ 191 102 (.int .u32 0) 4 rfl Tryz.underlying191 (by kernel_rfl) rfl (by decide) _ k _ (own_ext HO.out hbw) wa.heap.size 1 [_] hG rfl rfl rfl (by simp[Value.oneCell']) (by omega) (by omega) ?_
   intro v1 w3 hown3 hg3
   have hob:∀j,Value.ownBlock _=some j->w.heap.size+2<=j:=fun j hj=>(HO.out.lt j hj).1
   go_wp2
   refine Calm.normal ?_
   go_wp2
   go_roundw
   case rel=>
    have h3:w3.ownsRow (w.heap.size+2) 102 1 v1 (k+1) (u32c (sched l (k+1))):=by
     rw[sched_succ' l k (by omega),u32c_app]
     exact hown3
    have hbb:=below_ext HB.out hbw
    exact⟨k+1,by omega,by omega,by go_num,h3,hbb.grown hg3 (by omega) (fun j hj=>by have:=hob j hj;omega),blk_grown (HA.out.ext hbw) hg3 (fun e=>by have:=hob _ e;omega),blk_grown (HR.out.ext hbw) hg3 (fun e=>by have:=hob _ e;omega)⟩
   case measure=>simp[intOf];omega
  ·rw[show(k:Int)=64 by omega]
   obtain rfl:k=64:=by omega
   clear hlt hk hk'
   obtain⟨gg,cap,rfl,hgb,hgl,hkc,hcl⟩:=own_open hown (by omega)
   have p0:wr.cell? ⟨w.heap.size,0,none⟩=some (.int .u32 a):=hA.cell rfl
   have p1:wr.cell? ⟨w.heap.size,1,none⟩=some (.int .u32 b):=hA.cell rfl
   have p2:wr.cell? ⟨w.heap.size,2,none⟩=some (.int .u32 c):=hA.cell rfl
   have p3:wr.cell? ⟨w.heap.size,3,none⟩=some (.int .u32 d):=hA.cell rfl
   have p4:wr.cell? ⟨w.heap.size,4,none⟩=some (.int .u32 e):=hA.cell rfl
   have p5:wr.cell? ⟨w.heap.size,5,none⟩=some (.int .u32 f):=hA.cell rfl
   have p6:wr.cell? ⟨w.heap.size,6,none⟩=some (.int .u32 g):=hA.cell rfl
   have p7:wr.cell? ⟨w.heap.size,7,none⟩=some (.int .u32 h'):=hA.cell rfl
   have hcw:∀i,i<64->wr.cell? ⟨gg,i,none⟩=some (.int .u32 ((sched l 64)[i]?.getD 0)):=fun i hi=>hcl i _ hi (u32c_get (by rw[sched_length];exact hi))
   clear hcl hown
   have HCW:=hid hcw;clear hcw
   have hRs:w.heap.size+1<wr.heap.size:=hR.lt
   have HB:=hid hb;clear hb
   have HA:=hid hA;clear hA
   have HR:=hid hR;clear hR
   obtain⟨wq,rfl⟩:∃wo:World,wo=wr:=⟨_,rfl⟩
   go_wp2_with fail
   go_at_call 146
   refine(ref_k_any _).mono ?_
   rintro e' w2 ⟨rfl,hkt,hb⟩
   have hsq:(wq.alloc (.cells #[.int .u32 a,.int .u32 b,.int .u32 c,.int .u32 d,.int .u32 e,.int .u32 f,.int .u32 g,.int .u32 h'] 130)).heap.size=wq.heap.size+1:=by simp
   rw[hsq]at hkt⊢
   have hB0:=(IsBlk.new wq #[.int .u32 a,.int .u32 b,.int .u32 c,.int .u32 d,.int .u32 e,.int .u32 f,.int .u32 g,.int .u32 h'] 130).ext hb
   have hbq:Below wq.heap.size wq w2:=below_ext ((Below.refl _ _).alloc (Nat.le_refl _) _) hb
   have HKT:=hid hkt;clear hkt
   have HB0:=hid hB0;clear hB0
   have HBQ:=hid hbq;clear hbq hb hsq p0 p1 p2 p3 p4 p5 p6 p7
   go_wp2
   go_loopw [14] (fun i wx=>∃k:Nat,k<=64/\i=.int .i64 k/\Below wq.heap.size wq wx/\IsBlk wx (wq.heap.size+1) (u32s kTab) 102/\∃a1 b1 c1 d1 e1 f1 g1 h1:Int,rnd (sched l 64) [a,b,c,d,e,f,g,h'] k=[a1,b1,c1,d1,e1,f1,g1,h1]/\IsBlk wx wq.heap.size #[.int .u32 a1,.int .u32 b1,.int .u32 c1,.int .u32 d1,.int .u32 e1,.int .u32 f1,.int .u32 g1,.int .u32 h1] 130) (fun i _=>64-(intOf i).toNat)
   case atStart=>exact⟨0,by omega,rfl,HBQ.out,HKT.out,a,b,c,d,e,f,g,h',rfl,HB0.out⟩
   case round=>
   clear HKT HB0 HBQ
   obtain⟨k,hk,rfl,hb,hkt,a1,b1,c1,d1,e1,f1,g1,h1,hrnd,hblk⟩:=hrel
   by_cases hlt:k<64
   ·have HRN:=hid hrnd;clear hrnd
    have k0:wr.cell? ⟨wq.heap.size,0,none⟩=some (.int .u32 a1):=hblk.cell rfl
    have k1:wr.cell? ⟨wq.heap.size,1,none⟩=some (.int .u32 b1):=hblk.cell rfl
    have k2:wr.cell? ⟨wq.heap.size,2,none⟩=some (.int .u32 c1):=hblk.cell rfl
    have k3:wr.cell? ⟨wq.heap.size,3,none⟩=some (.int .u32 d1):=hblk.cell rfl
    have k4:wr.cell? ⟨wq.heap.size,4,none⟩=some (.int .u32 e1):=hblk.cell rfl
    have k5:wr.cell? ⟨wq.heap.size,5,none⟩=some (.int .u32 f1):=hblk.cell rfl
    have k6:wr.cell? ⟨wq.heap.size,6,none⟩=some (.int .u32 g1):=hblk.cell rfl
    have k7:wr.cell? ⟨wq.heap.size,7,none⟩=some (.int .u32 h1):=hblk.cell rfl
    have kf:∀j,wr.frozen? ⟨wq.heap.size,j,none⟩=false:=fun j=>hblk.frozen j
    have kt:wr.cell? ⟨wq.heap.size+1,k,none⟩=some (.int .u32 (kTab[k]?.getD 0)):=hkt.cell (u32s_get' (by rw[kTab_length];exact hlt))
    have kw:wr.cell? ⟨gg,k,none⟩=some (.int .u32 ((sched l 64)[k]?.getD 0)):=by
     rw[hb.cell (p:=⟨gg,k,none⟩) hgl]
     exact HCW.out k hlt
    have hv1:wq.heap.size<wr.heap.size:=hblk.lt
    have hv3:wq.heap.size+1<wr.heap.size:=hkt.lt
    have hv2:gg<wr.heap.size:=by omega
    have H2:=hid hblk;clear hblk
    have HKT:=hid hkt;clear hkt
    have HBQ:=hid hb;clear hb
    go_wp2
    refine mix_start [] (Cls wr) (by kernel_rfl) (Cls.of ((Below.refl _ _).drew)) ?_
    refine mix_flt (by kernel_rfl) [0,1,3,4,7,8] 6 _ _ (by kernel_rfl) ?_
    simp only[opsAt,zo1,zo2,zo3,zo4,zo5]
    unfold Cls
    repeat(go_big_quiet_step (fail))
    refine wpQuiet_nil ?_
    (try rw[←Cls_def])
    refine mix_ch (i:=2) (fuel:=5) (by kernel_rfl) _ rfl (fun w1 hw1=>?_)
    go_wp2_with(go_at_call 145;refine(ref_rotr_any _ _ _ (by omega) (by omega)).mono ?_;rintro e w' ⟨rfl,hb⟩)
    refine Then.same (hw1.trans hb) ?_
    refine mix_ch (i:=5) (fuel:=4) (by kernel_rfl) _ rfl (fun w1 hw1=>?_)
    go_wp2_with(go_at_call 145;refine(ref_rotr_any _ _ _ (by omega) (by omega)).mono ?_;rintro e w' ⟨rfl,hb⟩)
    refine Then.same (hw1.trans hb) ?_
    refine mix_flt (by kernel_rfl) [6] 3 _ _ (by kernel_rfl) ?_
    simp only[opsAt,zo1,zo2,zo3,zo4,zo5]
    unfold Cls
    repeat(go_big_quiet_step (fail))
    refine wpQuiet_nil ?_
    (try rw[←Cls_def])
    refine mix_ch (i:=9) (fuel:=2) (by kernel_rfl) _ rfl (fun w1 hw1=>?_)
    go_wp2_with(go_at_call 145;refine(ref_rotr_any _ _ _ (by omega) (by omega)).mono ?_;rintro e w' ⟨rfl,hb⟩)
    refine Then.same (hw1.trans hb) ?_
    refine mix_flt (by kernel_rfl) [10,11] 0 _ _ (by kernel_rfl) ?_
    simp only[opsAt,zo1,zo2,zo3,zo4,zo5]
    unfold Cls
    repeat(go_big_quiet_step (fail))
    refine wpQuiet_nil ?_
    (try rw[←Cls_def])
    refine mix_end [] (by kernel_rfl) (fun w1 hw1=>?_)
    refine wpList_nil ?_
    obtain⟨x,rfl⟩:=hw1
    refine Calm.normal ?_
    go_wp2
    refine mix_start [] (Cls wr) (by kernel_rfl) (Cls.of ((ext_below wr x).drew)) ?_
    refine mix_flt (by kernel_rfl) [0,1,2,3,4,5,6,7,8,9,10,11,12,13,14,15,16,17,18,19,20,21,22,23,24,25,26,27] 0 _ _ (by kernel_rfl) ?_
    simp only[opsAt,zo1,zo2,zo3,zo4,zo5]
    unfold Cls
    repeat(go_big_quiet_step (fail))
    refine wpQuiet_nil ?_
    (try rw[←Cls_def])
    refine mix_end [] (by kernel_rfl) (fun w1 hw1=>?_)
    refine wpList_nil ?_
    obtain⟨y,rfl⟩:=hw1
    refine Calm.normal ?_
    go_wp2
    refine mix_start [] (Cls wr) (by kernel_rfl) (Cls.of ((ext_below wr y).drew)) ?_
    refine mix_flt (by kernel_rfl) [0,1,3,4,7,8] 6 _ _ (by kernel_rfl) ?_
    simp only[opsAt,zo1,zo2,zo3,zo4,zo5]
    unfold Cls
    repeat(go_big_quiet_step (fail))
    refine wpQuiet_nil ?_
    (try rw[←Cls_def])
    refine mix_ch (i:=2) (fuel:=5) (by kernel_rfl) _ rfl (fun w1 hw1=>?_)
    go_wp2_with(go_at_call 145;refine(ref_rotr_any _ _ _ (by omega) (by omega)).mono ?_;rintro e w' ⟨rfl,hb⟩)
    refine Then.same (hw1.trans hb) ?_
    refine mix_ch (i:=5) (fuel:=4) (by kernel_rfl) _ rfl (fun w1 hw1=>?_)
    go_wp2_with(go_at_call 145;refine(ref_rotr_any _ _ _ (by omega) (by omega)).mono ?_;rintro e w' ⟨rfl,hb⟩)
    refine Then.same (hw1.trans hb) ?_
    refine mix_flt (by kernel_rfl) [6] 3 _ _ (by kernel_rfl) ?_
    simp only[opsAt,zo1,zo2,zo3,zo4,zo5]
    unfold Cls
    repeat(go_big_quiet_step (fail))
    refine wpQuiet_nil ?_
    (try rw[←Cls_def])
    refine mix_ch (i:=9) (fuel:=2) (by kernel_rfl) _ rfl (fun w1 hw1=>?_)
    go_wp2_with(go_at_call 145;refine(ref_rotr_any _ _ _ (by omega) (by omega)).mono ?_;rintro e w' ⟨rfl,hb⟩)
    refine Then.same (hw1.trans hb) ?_
    refine mix_flt (by kernel_rfl) [10,11] 0 _ _ (by kernel_rfl) ?_
    simp only[opsAt,zo1,zo2,zo3,zo4,zo5]
    unfold Cls
    repeat(go_big_quiet_step (fail))
    refine wpQuiet_nil ?_
    (try rw[←Cls_def])
    refine mix_end [] (by kernel_rfl) (fun w1 hw1=>?_)
    refine wpList_nil ?_
    obtain⟨z,rfl⟩:=hw1
    refine Calm.normal ?_
    go_wp2
    rw[ch_ref]
    have hbz:=ext_below wr z
    have hB2:=H2.out.ext hbz
    refine⟨⟨k+1,by omega,by go_num,eight_below (below_ext HBQ.out hbz) (Nat.le_refl _) _ _ _ _ _ _ _ _,eight_other (HKT.out.ext hbz) (by omega) _ _ _ _ _ _ _ _,_,_,_,_,_,_,_,_,rnd_next HRN.out,eight_set hB2 _ _ _ _ _ _ _ _⟩,?_⟩
    simp[intOf]
    omega
   ·rw[show(k:Int)=64 by omega]
    obtain rfl:k=64:=by omega
    clear hlt hk
    have HRN:=hid hrnd;clear hrnd
    have H2:=hid hblk;clear hblk
    have HBQ:=hid hb;clear hb hkt HCW
    go_wp2
    go_loopw [19] (fun i wx=>∃k:Nat,k<=8/\i=.int .i64 k/\Below wq.heap.size wq wx/\IsBlk wx wq.heap.size (u32s (addN [a1,b1,c1,d1,e1,f1,g1,h1] [a,b,c,d,e,f,g,h'] k)) 130) (fun i _=>8-(intOf i).toNat)
    case atStart=>exact⟨0,by omega,rfl,HBQ.out,by rw[addN_zero];exact H2.out⟩
    case round=>
    clear H2 HBQ
    obtain⟨k,hk,rfl,hb,hblk⟩:=hrel
    have hl8:(addN [a1,b1,c1,d1,e1,f1,g1,h1] [a,b,c,d,e,f,g,h'] k).length=8:=addN_length _ _ _
    by_cases hlt:k<8
    ·have q0:wr.cell? ⟨wq.heap.size,k,none⟩=some (.int .u32 ([a1,b1,c1,d1,e1,f1,g1,h1][k]?.getD 0)):=by
      rw[←addN_at [a1,b1,c1,d1,e1,f1,g1,h1] [a,b,c,d,e,f,g,h'] k hlt]
      exact hblk.cell (u32s_get' (by omega))
     have q1:wr.frozen? ⟨wq.heap.size,k,none⟩=false:=hblk.frozen k
     have q2:wr.cell? ⟨w.heap.size,k,none⟩=some (.int .u32 ([a,b,c,d,e,f,g,h'][k]?.getD 0)):=by
      rw[hb.cell (p:=⟨w.heap.size,k,none⟩) HA.out.lt]
      exact(show IsBlk wq w.heap.size (u32s [a,b,c,d,e,f,g,h']) 130 from HA.out).cell (u32s_get' (by simpa using hlt))
     have q3:wq.heap.size<wr.heap.size:=hblk.lt
     have q4:w.heap.size<wr.heap.size:=by have:=HA.out.lt;omega
     obtain⟨x0,hx0⟩:∃x0,x0=[a1,b1,c1,d1,e1,f1,g1,h1][k]?.getD 0:=⟨_,rfl⟩
     obtain⟨x1,hx1⟩:∃x1,x1=[a,b,c,d,e,f,g,h'][k]?.getD 0:=⟨_,rfl⟩
     rw[←hx0]at q0
     rw[←hx1]at q2
     have HX0:=hid hx0;clear hx0
     have HX1:=hid hx1;clear hx1
     have H1:=hid hblk;clear hblk
     have H3:=hid hb;clear hb
     have HL8:=hid hl8;clear hl8
     go_wp2
     refine mix_start [8] (Cls wr) (by kernel_rfl) (Cls.of ((Below.refl _ _).drew)) ?_
     refine mix_flt (by kernel_rfl) [0,1,2,3,4,5,6,7] 1 _ _ (by kernel_rfl) ?_
     simp only[opsAt,zo1,zo2,zo3,zo4,zo5]
     unfold Cls
     repeat(go_big_quiet_step (fail))
     refine wpQuiet_nil ?_
     (try rw[←Cls_def])
     refine mix_end [8] (by kernel_rfl) (fun w1 hw1=>?_)
     simp only[opsAt,zo1,zo2,zo3,zo4,zo5]
     obtain⟨x,rfl⟩:=hw1
     go_wp2
     refine Calm.normal ?_
     go_wp2
     go_roundw
     case rel=>
      have hbx:=ext_below wr x
      refine⟨k+1,by omega,by go_num,below_set (below_ext H3.out hbx) (Nat.le_refl _),?_⟩
      have:=(H1.out.ext hbx).set32 k ((x0+x1)%4294967296)
      rw[HX0.out,HX1.out,addN_set [a1,b1,c1,d1,e1,f1,g1,h1] [a,b,c,d,e,f,g,h'] k hlt]at this
      rw[HX0.out,HX1.out]
      exact this
     case measure=>simp[intOf];omega
    ·rw[show(k:Int)=8 by omega]
     obtain rfl:k=8:=by omega
     clear hlt hk
     have hfin:addN [a1,b1,c1,d1,e1,f1,g1,h1] [a,b,c,d,e,f,g,h'] 8=blk [a,b,c,d,e,f,g,h'] l:=by
      have h1:=addN_comm [a1,b1,c1,d1,e1,f1,g1,h1] [a,b,c,d,e,f,g,h'] rfl
      have h2:=HRN.out
      unfold blk
      rw[h2]
      exact h1
     obtain⟨hs1,hhs⟩:∃hs1,hs1=blk [a,b,c,d,e,f,g,h'] l:=⟨_,rfl⟩
     rw[hfin,←hhs]at hl8 hblk
     obtain⟨a2,b2,c2,d2,e2,f2,g2,h2,hx⟩:=of_eight hl8
     rw[hx]at hblk
     have HE:=hid (hhs.symm.trans hx);clear hhs hx hl8 hfin hs1
     have hR2:=HR.out.below hb HR.out.lt
     have hblk2:IsBlk wr wq.heap.size #[.int .u32 a2,.int .u32 b2,.int .u32 c2,.int .u32 d2,.int .u32 e2,.int .u32 f2,.int .u32 g2,.int .u32 h2] 130:=hblk
     obtain⟨p0,p1,p2,p3,p4,p5,p6,p7⟩:=eight_cells hblk2
     obtain⟨q0,q1,q2,q3,q4,q5,q6,q7⟩:=eight_cells hR2
     have qf:∀j,wr.frozen? ⟨w.heap.size+1,j,none⟩=false:=fun j=>hR2.frozen j
     have q8:w.heap.size+1<wr.heap.size:=hR2.lt
     have q9:wq.heap.size<wr.heap.size:=hblk2.lt
     have H1:=hid hR2;clear hR2 hblk hblk2
     have H3:=hid hb;clear hb
     go_wp2
     rw[HE.out]
     refine bodyPost_ret (v:=.agg #[.int .u32 a2,.int .u32 b2,.int .u32 c2,.int .u32 d2,.int .u32 e2,.int .u32 f2,.int .u32 g2,.int .u32 h2]) (results_cell_row Tryz.results125 _ _ (w.heap.size+1) 130 _ (0,0) _ rfl (eight_set H1.out _ _ _ _ _ _ _ _) Tryz.underlying130 rfl (by kernel_rfl)) rfl ⟨rfl,eight_below (below_trans_at HB.out H3.out) (by omega) _ _ _ _ _ _ _ _⟩
theorem blk_take (hs:List Int) (l:List UInt8) (h:64<=l.length):blk hs (l.take 64)=blk hs l:=by
 have:=blk_app hs (l.take 64) (l.drop 64) (by rw[List.length_take];omega)
 rw[List.take_append_drop]at this
 exact this.symm
theorem ext_take (s:ByteArray):(s.extract 0 64).data.toList=s.data.toList.take 64:=by
 rw[ByteArray.data_extract,Array.toList_extract]
 simp[List.extract]
set_option maxHeartbeats 4000000 in
theorem all_eight (a b c d e f g h:Int) (n:Int) (r s:ByteArray) (w:World) (hr:r.size+s.size<=281474976710656) (hn0:0<=n) (hn:n<18446744073709551616):
 Calls Tryz.prog 91 #[shaV [a,b,c,d,e,f,g,h] n r,.string s] w fun e' w'=>
  e'=.returned (shaV (more [a,b,c,d,e,f,g,h] (r.data.toList++s.data.toList)).1 ((n+s.size)%18446744073709551616) (bs (more [a,b,c,d,e,f,g,h] (r.data.toList++s.data.toList)).2))/\Below w.heap.size w w':=by
 show Calls Tryz.prog 91 #[.agg #[.int .u32 a,.int .u32 b,.int .u32 c,.int .u32 d,.int .u32 e,.int .u32 f,.int .u32 g,.int .u32 h,.int .u64 n,.string r],.string s] w _
 go_enter Tryz.func91,Tryz.ntmps91
 go_wp2
 go_loopg [1] (r.size+s.size) (fun k v wr=>∃(s1:ByteArray) (a1 b1 c1 d1 e1 f1 g1 h1:Int),v=.string s1/\k=s1.size/\s1.size<=281474976710656/\more [a1,b1,c1,d1,e1,f1,g1,h1] s1.data.toList=more [a,b,c,d,e,f,g,h] (r.data.toList++s.data.toList)∧
  IsBlk wr w.heap.size (u32s [a1,b1,c1,d1,e1,f1,g1,h1]++ #[.int .u64 (IntKind.u64.wrap (n+s.size)),.string r]) 132∧
  IsBlk wr (w.heap.size+1) (u32s [0,0,0,0,0,0,0,0]++ #[.int .u64 0,.string (bs [])]) 132/\Below w.heap.size w wr)
 case atStart=>
  have e1:(r++s).size=r.size+s.size:=by simp
  refine⟨r++s,a,b,c,d,e,f,g,h,rfl,e1.symm,by omega,by simp,(IsBlk.new w _ _).alloc _,?_,((Below.refl _ _).alloc (Nat.le_refl _) _).alloc (by simp) _⟩
  exact IsBlk.new_at (by simp)
 case round=>
 obtain⟨s1,a1,b1,c1,d1,e1,f1,g1,h1,rfl,rfl,hs1,hm,hb1,hb2,hb⟩:=hrel
 have hN:w.heap.size<wr.heap.size:=hb1.lt
 have HM:=hid hm;clear hm
 have HB1:=hid hb1;clear hb1
 have HB2:=hid hb2;clear hb2
 have HB:=hid hb;clear hb
 by_cases h6:64<=s1.size
 ·have hh:IsBlk wr w.heap.size #[.int .u32 a1,.int .u32 b1,.int .u32 c1,.int .u32 d1,.int .u32 e1,.int .u32 f1,.int .u32 g1,.int .u32 h1,.int .u64 (IntKind.u64.wrap (n+s.size)),.string r] 132:=HB1.out
  obtain⟨p0,p1,p2,p3,p4,p5,p6,p7,p8,p9⟩:=ten_cells hh
  clear hh
  have h6I:(64:Int)<=(s1.size:Int):=by omega
  go_wp2
  refine mix_start [4,5,6] (Cls wr) (by kernel_rfl) (Cls.of ((Below.refl _ _).drew)) ?_
  refine mix_flt (by kernel_rfl) [0,1,2,3] 3 _ _ (by kernel_rfl) ?_
  simp only[opsAt,zo1,zo2,zo3,zo4,zo5]
  unfold Cls
  repeat(go_big_quiet_step (fail))
  refine wpQuiet_nil ?_
  (try rw[←Cls_def])
  refine mix_end [4,5,6] (by kernel_rfl) (fun w1 hw1=>?_)
  simp only[opsAt,zo1,zo2,zo3,zo4,zo5]
  obtain⟨x,rfl⟩:=hw1
  have hbx:=ext_below wr x
  obtain⟨a2,b2,c2,d2,e2,f2,g2,h2,hbl⟩:=of_eight (show(blk [a1,b1,c1,d1,e1,f1,g1,h1] s1.data.toList).length=8 from blk_length _ _)
  have HBL:=hid hbl;clear hbl
  have hnx:w.heap.size<(ext wr x).heap.size:=by have:=hbx.size;omega
  clear p0 p1 p2 p3 p4 p5 p6 p7 p8 p9
  go_wp2_with fail
  go_at_call 125
  refine(ref_block_any _ a1 b1 c1 d1 e1 f1 g1 h1 (s1.extract 0 64) (by simp;omega) (by simp;omega)).mono ?_
  rintro e' w2 ⟨he,hb⟩
  rw[ext_take,blk_take _ _ (by rw[←ba_size];exact h6),HBL.out]at he
  have he2:e'=.returned (.agg #[.int .u32 a2,.int .u32 b2,.int .u32 c2,.int .u32 d2,.int .u32 e2,.int .u32 f2,.int .u32 g2,.int .u32 h2]):=he
  subst he2
  clear he
  have hA:IsBlk w2 w.heap.size #[.int .u32 a1,.int .u32 b1,.int .u32 c1,.int .u32 d1,.int .u32 e1,.int .u32 f1,.int .u32 g1,.int .u32 h1,.int .u64 (IntKind.u64.wrap (n+s.size)),.string r] 132:=(HB1.out.ext hbx).ext hb
  have hB:=(HB2.out.ext hbx).ext hb
  have hW:=below_ext (below_ext HB.out hbx) hb
  obtain⟨p0,p1,p2,p3,p4,p5,p6,p7,p8,p9⟩:=ten_cells hA
  have pf:∀j,w2.frozen? ⟨w.heap.size,j,none⟩=false:=fun j=>hA.frozen j
  have hl2:w.heap.size<w2.heap.size:=hA.lt
  have HA:=hid hA;clear hA
  have HBB:=hid hB;clear hB hb
  have HW:=hid hW;clear hW
  go_wp2
  refine Calm.normal ?_
  go_wp2
  have e64:(s1.extract 64 s1.size).data.toList=s1.data.toList.drop 64:=Lib.extract_to_end s1 64
  have z64:(s1.extract 64 s1.size).size=s1.size-64:=by simp
  go_roundg (s1.extract 64 s1.size).size
  case measure=>omega
  case rel=>
   refine⟨_,a2,b2,c2,d2,e2,f2,g2,h2,rfl,rfl,by omega,?_,?_,?_,eight_below HW.out (Nat.le_refl _) _ _ _ _ _ _ _ _⟩
   ·rw[e64,←HBL.out,←more_long _ _ (by rw[←ba_size];exact h6)]
    exact HM.out
   ·have:=(((((((HA.out.set 0 (.int .u32 a2)).set 1 (.int .u32 b2)).set 2 (.int .u32 c2)).set 3 (.int .u32 d2)).set 4 (.int .u32 e2)).set 5 (.int .u32 f2)).set 6 (.int .u32 g2)).set 7 (.int .u32 h2)
    simpa[u32s]using this
   ·exact eight_other HBB.out (by omega) _ _ _ _ _ _ _ _
 ·have HX:more [a1,b1,c1,d1,e1,f1,g1,h1] s1.data.toList=([a1,b1,c1,d1,e1,f1,g1,h1],s1.data.toList):=more_short _ _ (by rw[←ba_size];omega)
  rw[HM.out]at HX
  have HXX:=hid HX;clear HX
  have hA:IsBlk wr w.heap.size #[.int .u32 a1,.int .u32 b1,.int .u32 c1,.int .u32 d1,.int .u32 e1,.int .u32 f1,.int .u32 g1,.int .u32 h1,.int .u64 (IntKind.u64.wrap (n+s.size)),.string r] 132:=HB1.out
  have hB:IsBlk wr (w.heap.size+1) #[.int .u32 0,.int .u32 0,.int .u32 0,.int .u32 0,.int .u32 0,.int .u32 0,.int .u32 0,.int .u32 0,.int .u64 0,.string (bs [])] 132:=HB2.out
  obtain⟨p0,p1,p2,p3,p4,p5,p6,p7,p8,p9⟩:=ten_cells hA
  obtain⟨q0,q1,q2,q3,q4,q5,q6,q7,q8,q9⟩:=ten_cells hB
  have f1':∀j,wr.frozen? ⟨w.heap.size,j,none⟩=false:=fun j=>hA.frozen j
  have f2':∀j,wr.frozen? ⟨w.heap.size+1,j,none⟩=false:=fun j=>hB.frozen j
  have hl1:=hA.lt
  have hl2:=hB.lt
  clear hA hB
  go_wp2
  have hwr:IntKind.u64.wrap (n+s.size)=(n+s.size)%18446744073709551616:=by simp[IntKind.wrap,IntKind.bits,IntKind.signed]
  rw[HXX.out,←hwr]
  generalize hW:World.setCell _ _ _=W
  have hI:IsBlk W (w.heap.size+1) #[.int .u32 a1,.int .u32 b1,.int .u32 c1,.int .u32 d1,.int .u32 e1,.int .u32 f1,.int .u32 g1,.int .u32 h1,.int .u64 (IntKind.u64.wrap (n+s.size)),.string s1] 132:=by
   rw[←hW]
   have HB2':IsBlk wr (w.heap.size+1) #[.int .u32 0,.int .u32 0,.int .u32 0,.int .u32 0,.int .u32 0,.int .u32 0,.int .u32 0,.int .u32 0,.int .u64 0,.string (bs [])] 132:=HB2.out
   exact ten_set (HB2'.set_other (a:=⟨w.heap.size,9,none⟩) (by simp) (.string s1)) _ _ _ _ _ _ _ _ _ _
  have hbW:Below w.heap.size w W:=by
   rw[←hW]
   exact ten_below (below_set HB.out (Nat.le_refl _)) (by omega) _ _ _ _ _ _ _ _ _ _
  clear hW
  exact bodyPost_ret (v:=.agg #[.int .u32 a1,.int .u32 b1,.int .u32 c1,.int .u32 d1,.int .u32 e1,.int .u32 f1,.int .u32 g1,.int .u32 h1,.int .u64 (IntKind.u64.wrap (n+s.size)),.string s1]) (results_cell_row Tryz.results91 _ W (w.heap.size+1) 132 _ (0,0) _ rfl hI Tryz.underlying132 rfl (by kernel_rfl)) rfl ⟨rfl,hbW⟩
theorem all_any (hs:List Int) (hl:hs.length=8) (n:Int) (r s:ByteArray) (w:World) (hr:r.size+s.size<=281474976710656) (hn0:0<=n) (hn:n<18446744073709551616):
 Calls Tryz.prog 91 #[shaV hs n r,.string s] w fun e' w'=>
  e'=.returned (shaV (more hs (r.data.toList++s.data.toList)).1 ((n+s.size)%18446744073709551616) (bs (more hs (r.data.toList++s.data.toList)).2))/\Below w.heap.size w w':=by
 obtain⟨a,b,c,d,e,f,g,h,rfl⟩:=of_eight hl
 exact all_eight a b c d e f g h n r s w hr hn0 hn
theorem rightB_fact {n:Int} {k:Nat} (h:rightB n k=true):n<1152921504606846976/\k<64/\(k:Int)=n%64:=by simpa[rightB]using h
def lenOf :Value->Nat
 | .slice _ n _=>n
 |_=>0
theorem zeros_succ (j:Nat):128::zeros (j+1)=(128::zeros j)++[0]:=by
 unfold zeros
 rw[List.replicate_succ',List.cons_append]
theorem outB_take (hs:List Int) (k:Nat) (h:k<hs.length):outB (hs.take (k+1))=outB (hs.take k)++[UInt8.ofNat (hs[k]?.getD 0/16777216%256).toNat,UInt8.ofNat (hs[k]?.getD 0/65536%256).toNat,UInt8.ofNat (hs[k]?.getD 0/256%256).toNat,UInt8.ofNat (hs[k]?.getD 0%256).toNat]:=by
 unfold outB
 rw[List.take_succ_eq_append_getElem h,List.flatMap_append,List.getElem?_eq_getElem h]
 simp
theorem u8s_four (x:Int):[Value.int .u8 (x/16777216%256),Value.int .u8 (x/65536%256),Value.int .u8 (x/256%256),Value.int .u8 (x%256)]=u8s [UInt8.ofNat (x/16777216%256).toNat,UInt8.ofNat (x/65536%256).toNat,UInt8.ofNat (x/256%256).toNat,UInt8.ofNat (x%256).toNat]:=by
 simp only[u8s,List.map_cons,List.map_nil]
 rw[←u8_of (by omega) (by omega),←u8_of (by omega) (by omega),←u8_of (by omega) (by omega),←u8_of (by omega) (by omega)]
set_option maxHeartbeats 4000000 in
theorem rend_eight (a b c d e f g h':Int) (n:Int) (r:ByteArray) (w:World) (hr:r.size<=281474976710656) (hn0:0<=n) (hn:n<18446744073709551616) (hrt:rightB n r.size=true):
 Calls Tryz.prog 90 #[shaV [a,b,c,d,e,f,g,h'] n r] w fun e' w'=>
  e'=.returned (.tuple #[.string (bs (endOf [a,b,c,d,e,f,g,h'] r.data.toList n.toNat)),.int .i64 0])/\Below w.heap.size w w':=by
 show Calls Tryz.prog 90 #[.agg #[.int .u32 a,.int .u32 b,.int .u32 c,.int .u32 d,.int .u32 e,.int .u32 f,.int .u32 g,.int .u32 h',.int .u64 n,.string r]] w _
 have hr64:r.size<64:=(rightB_fact hrt).2.1
 have hn60:n<1152921504606846976:=(rightB_fact hrt).1
 have hrm:(r.size:Int)=n%64:=(rightB_fact hrt).2.2
 obtain⟨Z,hZ⟩:∃Z:Nat,Z=(119-r.size)%64:=⟨_,rfl⟩
 have hZ64:Z<64:=by omega
 have HZ:=hid hZ;clear hZ
 have HRM:=hid hrm;clear hrm
 go_enter Tryz.func90,Tryz.ntmps90
 go_wp2_with fail
 go_at_call 124
 refine(rright_eight a b c d e f g h' n r _ hr hn0 hn).mono ?_
 rintro e' w1 ⟨rfl,hb⟩
 have hbx:IsBlk w1 w.heap.size #[.int .u32 a,.int .u32 b,.int .u32 c,.int .u32 d,.int .u32 e,.int .u32 f,.int .u32 g,.int .u32 h',.int .u64 n,.string r] 132:=(IsBlk.new w _ _).ext hb
 have hbw:=below_at hb
 clear hb
 have hlt1:w.heap.size<w1.heap.size:=hbx.lt
 obtain⟨p0,p1,p2,p3,p4,p5,p6,p7,p8,p9⟩:=ten_cells hbx
 have HB:=hid hbx;clear hbx
 have HW:=hid hbw;clear hbw
 obtain⟨N,hN⟩:∃N:Nat,N=8*n.toNat:=⟨_,rfl⟩
 have hNe:8*n=(N:Int):=by omega
 have HN:=hid hN;clear hN
 go_wp2_with fail
 go_loopw [5] (fun v wr=>∃j:Nat,j<=Z/\wr.ownsRow (w.heap.size+1) 5 1 v (1+j) (u8s (128::zeros j))/\Below w.heap.size w wr/\IsBlk wr w.heap.size #[.int .u32 a,.int .u32 b,.int .u32 c,.int .u32 d,.int .u32 e,.int .u32 f,.int .u32 g,.int .u32 h',.int .u64 n,.string r] 132) (fun v _=>65-lenOf v)
 case atStart=>
  exact⟨0,by omega,own_lit (cs:=[.int .u8 128]) (IsBlk.new _ _ _) hlt1 rfl (by simp[maxLen]),HW.out.alloc (by omega) _,HB.out.alloc _⟩
 case round=>
 clear p0 p1 p2 p3 p4 p5 p6 p7 p8 p9
 obtain⟨j,hj,hown,hbw,hbx⟩:=hrel
 obtain⟨gg,cap,rfl,hgb,hgl,hkc,_⟩:=own_open hown (by omega)
 obtain⟨p0,p1,p2,p3,p4,p5,p6,p7,p8,p9⟩:=ten_cells hbx
 have hlt2:=hbx.lt
 have HO:=hid hown;clear hown
 have HW2:=hid hbw;clear hbw
 have HB2:=hid hbx;clear hbx
 by_cases hlt:j<Z
 ·have hcond: ¬((r.size:Int)+((1+j:Nat):Int))%64=56:=by have:=HZ.out;omega
  go_wp2_with(at_builtin;refine push_at (w.heap.size+1) rfl _ _ 85 5 (.int .u8 0) 1 rfl Tryz.underlying85 (by kernel_rfl) rfl (by decide) _ (1+j) _ (own_alloc HO.out _) wr.heap.size 1 [_] (IsBlk.new _ _ _) rfl rfl rfl (by simp[Value.oneCell']) (by simp;omega) (by omega) ?_)
  intro v1 w3 hown3 hg3
  have hg4:wr.grownBy w3 (Value.slice (some ⟨gg,0,none⟩) (1+j) cap).ownBlock:=World.grownBy.trans (World.grownBy_alloc _ _ _) hg3
  have hob:∀i,(Value.slice (some ⟨gg,0,none⟩) (1+j) cap).ownBlock=some i->w.heap.size+1<=i:=fun i hi=>(HO.out.lt i hi).1
  have hown4:w3.ownsRow (w.heap.size+1) 5 1 v1 (1+(j+1)) (u8s (128::zeros (j+1))):=by
   rw[zeros_succ,u8s_append]
   exact hown3
  obtain⟨g4,cap4,hv4,_,_,_,_⟩:=own_open hown4 (by omega)
  clear hown3 hg3
  go_wp2
  go_roundw
  case rel=>
   exact⟨j+1,by omega,hown4,HW2.out.grown hg4 (by omega) (fun i hi=>by have:=hob i hi;omega),blk_grown HB2.out hg4 (fun e=>by have:=hob _ e;omega)⟩
  case measure=>
   rw[hv4]
   simp only[lenOf]
   omega
 ·obtain rfl:j=Z:=by omega
  obtain⟨L,hL⟩:∃L,L=1+j:=⟨_,rfl⟩
  have hO:=HO.out
  clear HO
  rw[←hL]at hO hkc⊢
  have hcond:((r.size:Int)+(L:Int))%64=56:=by have:=HZ.out;omega
  have hL64:L<=64:=by omega
  have HLJ:=hid hL;clear hL
  have HO:=hid hO;clear hO
  go_wp2_with fail
  clear hcond
  go_loopw [6,5] (fun i v wr=>∃k:Nat,k<=8/\i=.int .i64 (7-(k:Int))/\wr.ownsRow (w.heap.size+1) 5 1 v (L+k) (u8s (128::zeros j++(bytes8 N).take k))/\Below w.heap.size w wr/\IsBlk wr w.heap.size #[.int .u32 a,.int .u32 b,.int .u32 c,.int .u32 d,.int .u32 e,.int .u32 f,.int .u32 g,.int .u32 h',.int .u64 n,.string r] 132) (fun i _ _=>(intOf i+1).toNat)
  case atStart=>exact⟨0,by omega,rfl,by simpa using HO.out,HW2.out,HB2.out⟩
  case round=>
  clear HO HW2 HB2 p0 p1 p2 p3 p4 p5 p6 p7 p8 p9
  obtain⟨k,hk,rfl,hown,hbw,hbx⟩:=hrel
  obtain⟨p0,p1,p2,p3,p4,p5,p6,p7,p8,p9⟩:=ten_cells hbx
  have hlt2:=hbx.lt
  have HO:=hid hown;clear hown
  have HW2:=hid hbw;clear hbw
  have HB2:=hid hbx;clear hbx
  by_cases hlt8:k<8
  ·have hs1:0<=8*(7-(k:Int)):=by omega
   have hs2:8*(7-(k:Int))<=64:=by omega
   have hs3:(8*(7-(k:Int))).toNat=56-8*k:=by omega
   go_wp2_with(at_builtin;refine push_at (w.heap.size+1) rfl _ _ 85 5 (.int .u8 0) 1 rfl Tryz.underlying85 (by kernel_rfl) rfl (by decide) _ (L+k) _ (own_alloc HO.out _) wr.heap.size 1 [_] (IsBlk.new _ _ _) rfl rfl rfl (by simp[Value.oneCell']) (by simp;omega) (by omega) ?_)
   intro v1 w3 hown3 hg3
   have hg4:=World.grownBy.trans (World.grownBy_alloc _ _ _) hg3
   have hob:∀i,Value.ownBlock _=some i->w.heap.size+1<=i:=fun i hi=>(HO.out.lt i hi).1
   have hown4:w3.ownsRow (w.heap.size+1) 5 1 v1 (L+(k+1)) (u8s (128::zeros j++(bytes8 N).take (k+1))):=by
    rw[←pad_step _ _ _ hlt8]
    exact hown3
   clear hown3 hg3
   go_wp2
   go_roundw
   case rel=>
    exact⟨k+1,by omega,by go_num,hown4,HW2.out.grown hg4 (by omega) (fun i hi=>by have:=hob i hi;omega),blk_grown HB2.out hg4 (fun e=>by have:=hob _ e;omega)⟩
   case measure=>simp[intOf];omega
  ·rw[show(7-(k:Int))= -1 by omega]
   obtain rfl:k=8:=by omega
   have hpad:128::zeros j++(bytes8 N).take 8=pad n.toNat:=by
    have e1:(bytes8 N).take 8=bytes8 N:=List.take_of_length_le (by rw[bytes8_length];omega)
    have e2:8*n.toNat%18446744073709551616=N:=by have:=HN.out;omega
    have e3:(119-n.toNat%64)%64=j:=by have:=HZ.out;have:=HRM.out;omega
    rw[e1,pad,e2,e3]
    rfl
   have hown:=HO.out
   rw[hpad]at hown
   have hpl:(pad n.toNat).length=L+8:=by rw[←hpad];have:=HLJ.out;simp[zeros,bytes8_length];omega
   have hcv:=run_string_own (P:=Tryz.prog) (w:=wr) 85 5 9 Tryz.underlying85 Tryz.underlying5 Tryz.underlying9 hown
   clear hown HO
   have HP:=hid hpl;clear hpl hpad
   obtain⟨hs1,hhs⟩:∃hs1,hs1=(more [a,b,c,d,e,f,g,h'] (r.data.toList++(bs (pad n.toNat)).data.toList)).1:=⟨_,rfl⟩
   have hl8:hs1.length=8:=by rw[hhs];exact more_length _ rfl _
   obtain⟨a1,b1,c1,d1,e1,f1,g1,h1,hx⟩:=of_eight hl8
   go_wp2_with fail
   go_at_call 91
   refine(all_any [a,b,c,d,e,f,g,h'] rfl n r _ _ (by rw[bs_size,HP.out];omega) hn0 hn).mono ?_
   rintro e' w3 ⟨he,hb3⟩
   obtain⟨n1,hn1⟩:∃n1:Int,n1=(n+((bs (pad n.toNat)).size:Int))%18446744073709551616:=⟨_,rfl⟩
   obtain⟨r1,hr1⟩:∃r1:ByteArray,r1=bs (more [a,b,c,d,e,f,g,h'] (r.data.toList++(bs (pad n.toNat)).data.toList)).2:=⟨_,rfl⟩
   rw[←hhs,←hn1,←hr1,hx]at he
   have he2:e'=.returned (.agg #[.int .u32 a1,.int .u32 b1,.int .u32 c1,.int .u32 d1,.int .u32 e1,.int .u32 f1,.int .u32 g1,.int .u32 h1,.int .u64 n1,.string r1]):=he
   subst he2
   clear he hr1 hn1 hl8
   have hbx3:=HB2.out.ext hb3
   have hbw3:=below_ext HW2.out hb3
   have hsz3:=hb3.size
   have HHS:=hid (hhs.symm.trans hx);clear hhs hx hs1
   clear p0 p1 p2 p3 p4 p5 p6 p7 p8 p9 hb3 hcv
   obtain⟨q0,q1,q2,q3,q4,q5,q6,q7,q8,q9⟩:=ten_cells hbx3
   have qf:∀j,w3.frozen? ⟨w.heap.size,j,none⟩=false:=fun j=>hbx3.frozen j
   have hlt3:=hbx3.lt
   have HX3:=hid hbx3;clear hbx3
   have HW3:=hid hbw3;clear hbw3
   go_upto_region 12 with(fail)
   generalize hW4:World.setCell _ _ _=W4
   have hI:IsBlk W4 w.heap.size #[.int .u32 a1,.int .u32 b1,.int .u32 c1,.int .u32 d1,.int .u32 e1,.int .u32 f1,.int .u32 g1,.int .u32 h1,.int .u64 n1,.string r1] 132:=by rw[←hW4];exact ten_set HX3.out _ _ _ _ _ _ _ _ _ _
   have hbW:Below w.heap.size w W4:=by rw[←hW4];exact ten_below HW3.out (Nat.le_refl _) _ _ _ _ _ _ _ _ _ _
   clear hW4 HW3 HX3 q0 q1 q2 q3 q4 q5 q6 q7 q8 q9 qf hlt3 hsz3
   have hltW:=hI.lt
   obtain⟨q0,q1,q2,q3,q4,q5,q6,q7,q8,q9⟩:=ten_cells hI
   have HI:=hid hI;clear hI
   have HBW:=hid hbW;clear hbW
   go_wp2_with fail
   go_loopw [46,7] (fun i v wr=>∃k:Nat,k<=8/\i=.int .i64 (k:Int)/\wr.ownsRow w.heap.size 5 1 v (4*k) (u8s (outB ([a1,b1,c1,d1,e1,f1,g1,h1].take k)))/\Below w.heap.size w wr) (fun i _ _=>8-(intOf i).toNat)
   case atStart=>exact⟨0,by omega,rfl,⟨rfl,Or.inl ⟨rfl,rfl⟩⟩,HBW.out⟩
   case round=>
   clear q0 q1 q2 q3 q4 q5 q6 q7 q8 q9 HBW HI
   obtain⟨k,hk,rfl,hown,hbw⟩:=hrel
   have hszr:=hbw.size
   have HO:=hid hown;clear hown
   have HW2:=hid hbw;clear hbw
   by_cases hlt:k<8
   ·have HX:∀wz:World,(Instr.index 130 (.agg #[.int .u32 a1,.int .u32 b1,.int .u32 c1,.int .u32 d1,.int .u32 e1,.int .u32 f1,.int .u32 g1,.int .u32 h1]) (.int .i64 k)).run Tryz.prog wz=.ok (.int .u32 ([a1,b1,c1,d1,e1,f1,g1,h1][k]?.getD 0)) wz:=run_index_u32 130 102 8 [a1,b1,c1,d1,e1,f1,g1,h1] k Tryz.underlying130 Tryz.underlying102 (fun _=>by kernel_rfl) rfl hlt
    have hst:=outB_take [a1,b1,c1,d1,e1,f1,g1,h1] k hlt
    obtain⟨xk,hxk⟩:∃xk,xk=[a1,b1,c1,d1,e1,f1,g1,h1][k]?.getD 0:=⟨_,rfl⟩
    rw[←hxk]at HX hst
    clear hxk
    have HST:=hid hst;clear hst
    go_wp2_with(at_builtin;refine push_at w.heap.size rfl _ _ 85 5 (.int .u8 0) 1 rfl Tryz.underlying85 (by kernel_rfl) rfl (by decide) _ (4*k) _ (own_alloc HO.out _) wr.heap.size 4 [_,_,_,_] (IsBlk.new _ _ _) rfl rfl rfl (by simp[Value.oneCell']) (by simp;omega) (by omega) ?_)
    intro v1 w3 hown3 hg3
    have hg4:=World.grownBy.trans (World.grownBy_alloc _ _ _) hg3
    have hob:∀i,Value.ownBlock _=some i->w.heap.size<=i:=fun i hi=>(HO.out.lt i hi).1
    have hown4:w3.ownsRow w.heap.size 5 1 v1 (4*(k+1)) (u8s (outB ([a1,b1,c1,d1,e1,f1,g1,h1].take (k+1)))):=by
     rw[HST.out,u8s_append,←u8s_four]
     exact hown3
    clear hown3 hg3
    go_wp2
    go_roundw
    case rel=>
     exact⟨k+1,by omega,by go_num,hown4,HW2.out.grown hg4 (by omega) (fun i hi=>hob i hi)⟩
    case measure=>simp[intOf];omega
   ·rw[show(k:Int)=8 by omega]
    obtain rfl:k=8:=by omega
    have hown:=HO.out
    rw[show [a1,b1,c1,d1,e1,f1,g1,h1].take 8=[a1,b1,c1,d1,e1,f1,g1,h1]from rfl]at hown
    have hcv:=run_string_own (P:=Tryz.prog) (w:=wr) 85 5 9 Tryz.underlying85 Tryz.underlying5 Tryz.underlying9 hown
    clear hown HO hlt hk
    go_wp2
    go_ret2
    refine⟨?_,HW2.out⟩
    have hfin:outB [a1,b1,c1,d1,e1,f1,g1,h1]=endOf [a,b,c,d,e,f,g,h'] r.data.toList n.toNat:=by
     rw[endOf,←HHS.out]
     rfl
    rw[←hfin]
    rfl
set_option maxHeartbeats 1000000 in
theorem rend_not (a b c d e f g h':Int) (n:Int) (r:ByteArray) (w:World) (hr:r.size<=281474976710656) (hn0:0<=n) (hn:n<18446744073709551616) (hrt:rightB n r.size=false):
 Calls Tryz.prog 90 #[shaV [a,b,c,d,e,f,g,h'] n r] w fun e' w'=>
  e'=.returned (.tuple #[.string (bs []),.int .i64 6])/\Below w.heap.size w w':=by
 show Calls Tryz.prog 90 #[.agg #[.int .u32 a,.int .u32 b,.int .u32 c,.int .u32 d,.int .u32 e,.int .u32 f,.int .u32 g,.int .u32 h',.int .u64 n,.string r]] w _
 go_enter Tryz.func90,Tryz.ntmps90
 go_wp2_with fail
 go_at_call 124
 refine(rright_eight a b c d e f g h' n r _ hr hn0 hn).mono ?_
 rintro e' w1 ⟨rfl,hb⟩
 have hbw:=below_at hb
 clear hb
 have HW:=hid hbw;clear hbw
 go_wp2_with fail
 go_ret2
 exact⟨rfl,HW.out⟩
theorem rend_any (hs:List Int) (hl:hs.length=8) (n:Int) (r:ByteArray) (w:World) (hr:r.size<=281474976710656) (hn0:0<=n) (hn:n<18446744073709551616):
 Calls Tryz.prog 90 #[shaV hs n r] w fun e' w'=>e'=.returned (.tuple #[.string (bs (endP hs n r).1),.int .i64 (endP hs n r).2])/\Below w.heap.size w w':=by
 obtain⟨a,b,c,d,e,f,g,h',rfl⟩:=of_eight hl
 unfold endP
 cases hrt:rightB n r.size with
 |true=>exact rend_eight a b c d e f g h' n r w hr hn0 hn hrt
 |false=>exact rend_not a b c d e f g h' n r w hr hn0 hn hrt
set_option maxHeartbeats 1000000 in
theorem rsum_any (s:ByteArray) (w:World) (hs:s.size<=281474976710656):
 Calls Tryz.prog 60 #[.string s] w fun e' w'=>e'=.returned (.string (bs (shaL s.data.toList)))/\Below w.heap.size w w':=by
 have hL:s.data.toList.length=s.size:=(ba_size s).symm
 have HL:=hid hL;clear hL
 go_enter Tryz.func60,Tryz.ntmps60
 go_wp2_with fail
 go_at_call 92
 refine(rstart_any _).mono ?_
 rintro e' w1 ⟨rfl,hb⟩
 have H1:=hid hb;clear hb
 go_wp2_with fail
 go_at_call 91
 refine(all_any h0 rfl 0 (bs []) s _ (by rw[bs_size];simpa using hs) (by decide) (by decide)).mono ?_
 rintro e' w2 ⟨he,hb⟩
 have e1:((0:Int)+(s.size:Int))%18446744073709551616=(s.data.toList.length:Int):=by rw[HL.out];omega
 rw[bs_toList,List.nil_append,e1]at he
 subst he
 have H2:=hid (below_ext H1.out hb);clear hb e1
 go_wp2_with fail
 go_at_call 90
 refine(rend_any (more h0 s.data.toList).1 (more_length _ rfl _) (s.data.toList.length:Int) (bs (more h0 s.data.toList).2) _ (by rw[bs_size,more_rest _ _ _ (Nat.le_refl _)];omega) (by omega) (by rw[HL.out];omega)).mono ?_
 rintro e' w3 ⟨he,hb⟩
 rw[endP_more _ (by rw[HL.out];omega)]at he
 subst he
 have H3:=hid (below_ext H2.out hb);clear hb
 go_wp2_with fail
 go_ret
 exact⟨rfl,H3.out⟩
end Go.Proofs.YtcihbnpckicljaaGreatDoor
