/- merkle: half, leaf, node. Conditions: a number from 2 to 2^40; texts no longer than 2^40 bytes; the table of constants. A map from parts of a tree to digests: what it holds, a lookup, a store. No conditions. The closure that makes a tree's digests. Conditions: at most 2^40 texts, none longer than 2^40 bytes; the table of constants reads as the text lays it. merkle: what Tree.made does at first: the closure that Once calls. Conditions: the tree lies in memory; its texts are no longer than 2^40 bytes, at most 2^40. merkle.New and Root. Conditions: texts no longer than 2^40 bytes, at most 1024; the table of constants. The document's root, and Same of texts. Conditions: texts no longer than 2^40 bytes, at most 2^40. -/
import Derived.Test.YtcihbnpckicljaaGreatDoorrGA
import Derived.Test.YtcihbnpckicljaaGreatDoorrGS
import Derived.Test.YtcihbnpckicljaaGreatDoorrShelf
import Derived.Laws.StructEq
import Derived.MapKept
import Derived.Maps.Own
import Derived.WalkSpells
import Derived.WalkLawsBesides
import Derived.Outline
import Derived.BigQuiet
import Derived.BigRegion
import Derived.Deep.DeepCutAuto
import Derived.Deep.CutBlock
import Derived.Laws.EntriesVeiled
import Derived.Tactics
import Derived.Tactics2
import Derived.Defers
import Derived.Laws.Pointers
import Derived.Laws.LoneSync
import Derived.RegionTactic
import Derived.RegionCalls
import Derived.ChangeAlike
import Derived.Laws.NewBlocks
set_option linter.unusedVariables false
set_option linter.unusedSimpArgs false
namespace Go.Proofs.YtcihbnpckicljaaGreatDoor
open Go Go.RowKit Go.BigFrame
open Go.Lib(hid)
set_option maxRecDepth 100000
def halfN (n:Nat):Nat:=2^(Lib.bitLen (n-1)-1)
theorem bitLen_pow :∀(m x:Nat),x<=m->x≠0->x<2^64->2^(Lib.bitLen x-1)<=x/\x<2^Lib.bitLen x/\1<=Lib.bitLen x:=by
 intro m
 induction m with
 |zero=>intro x h h0;omega
 |succ m ih=>
  intro x h h0 h64
  rw[Lib.bitLen_half x h0 h64]
  by_cases h1:x/2=0
  ·have:x=1:=by omega
   subst this
   decide
  ·obtain⟨a,b,c⟩:=ih (x/2) (by omega) h1 (by omega)
   obtain⟨L,hL⟩:∃L,Lib.bitLen (x/2)=L+1:=⟨Lib.bitLen (x/2)-1,by omega⟩
   rw[hL]at a b⊢
   rw[Nat.add_sub_cancel]at a
   rw[show 1+(L+1)-1=L+1 by omega,show 1+(L+1)=L+1+1 by omega,Nat.pow_succ]
   rw[Nat.pow_succ]at b
   refine⟨by omega,?_,by omega⟩
   rw[Nat.pow_succ,Nat.pow_succ]
   omega
theorem halfN_fits {n:Nat} (h2:2<=n) (h:n<=1099511627776):1<=halfN n/\halfN n<n/\n<=2*halfN n:=by
 obtain⟨a,b,c⟩:=bitLen_pow (n-1) (n-1) (Nat.le_refl _) (by omega) (by omega)
 unfold halfN
 obtain⟨L,hL⟩:∃L,Lib.bitLen (n-1)=L+1:=⟨Lib.bitLen (n-1)-1,by omega⟩
 rw[hL]at a b⊢
 rw[Nat.add_sub_cancel]at a⊢
 rw[Nat.pow_succ]at b
 have:=Nat.one_le_two_pow (n:=L)
 omega
theorem bitLen_le {x k:Nat} (h:x<2^k) (hk:k<=64) (h0:x≠0):Lib.bitLen x<=k:=by
 obtain⟨a,b,c⟩:=bitLen_pow x x (Nat.le_refl _) h0 (Nat.lt_of_lt_of_le h (Nat.pow_le_pow_right (by omega) hk))
 rcases Nat.lt_or_ge k (Lib.bitLen x)with h1|h1
 ·have:=Nat.pow_le_pow_right (show 0<2 by omega) (show k<=Lib.bitLen x-1 by omega)
  omega
 ·exact h1
set_option maxHeartbeats 2000000 in
theorem half_any (n:Nat) (h2:2<=n) (hn:n<=1099511627776) (w:World):Calls Tryz.prog 98 #[.int .i64 (n:Int)] w fun e' w'=>e'=.returned (.int .i64 (halfN n:Int))/\w=w':=by
 obtain⟨L,hL⟩:∃L,L=Lib.bitLen (n-1):=⟨_,rfl⟩
 have hL0:=bitLen_pow (n-1) (n-1) (Nat.le_refl _) (by omega) (by omega)
 have hL1:L<=41:=by rw[hL];exact bitLen_le (by omega) (by omega) (by omega)
 rw[←hL]at hL0
 have hL2:1<=L:=hL0.2.2
 have HL:Hid (L=Lib.bitLen ((n:Int)-1).toNat):=hid (by rw[hL];congr 1;omega)
 have hpw:2^(L-1)<=2^40:=Nat.pow_le_pow_right (by omega) (by omega)
 have HR:Hid ((halfN n:Int)=wrap64 (2^(L-1))):=hid (by
  have e:((2:Int)^(L-1))=((2^(L-1):Nat):Int):=by simp
  rw[halfN,←hL,e]
  have h40:(2:Nat)^40=1099511627776:=by decide
  generalize 2^(L-1)=P at hpw
  rw[IntWalk.wrap64_in _ ⟨by omega,by omega⟩])
 clear hpw
 generalize(halfN n:Int)=R at HR⊢
 clear hL0 hL
 go_enter Tryz.func98,Tryz.ntmps98
 go_wp2_with fail
 go_at_call 129
 refine(Tryz.bits_Len _ _ (by omega) (by omega)).mono ?_
 rintro e' w1 ⟨he,rfl⟩
 rw[←HL.out]at he
 subst he
 go_wp2
 go_ret
 exact⟨by rw[HR.out];rfl,rfl⟩
def leafL (s:List UInt8):List UInt8:=shaL (0::s)
def nodeL (a b:List UInt8):List UInt8:=shaL (1::(a++b))
theorem more_length8 (hs:List Int) (h:hs.length=8) (l:List UInt8):(more hs l).1.length=8:=more_length _ h _
theorem shaL_length (l:List UInt8):(shaL l).length=32:=by
 unfold shaL endOf
 have h1:(more (more h0 l).1 ((more h0 l).2++pad l.length)).1.length=8:=more_length8 _ (more_length8 _ rfl _) _
 generalize(more (more h0 l).1 ((more h0 l).2++pad l.length)).1=v at h1⊢
 obtain⟨a,b,c,d,e,f,g,h,rfl⟩:=of_eight h1
 exact outB_length _ _ _ _ _ _ _ _
theorem leafL_length (s:List UInt8):(leafL s).length=32:=shaL_length _
theorem nodeL_length (a b:List UInt8):(nodeL a b).length=32:=shaL_length _
theorem bs_cons (c:UInt8) (l:List UInt8):bs (c::l)=bs [c]++bs l:=by rw[bs_app];rfl
theorem bs_cons2 (c:UInt8) (l m:List UInt8):bs (c::(l++m))=bs [c]++bs l++bs m:=by rw[bs_app,bs_app];rfl
theorem sum_l (l:List UInt8) (s:ByteArray) (hs:s=bs l) (w:World) (hK:Ks w) (hl:l.length<=281474976710656):
 Calls Tryz.prog 50 #[.string s] w fun e' w'=>e'=.returned (.string (bs (shaL l)))/\Below w.heap.size w w':=by
 subst hs
 exact sum_any (bs l) w hK (by rw[bs_size];exact hl)
theorem leaf_any (s:List UInt8) (w:World) (hK:Ks w) (hs:s.length<=1099511627776):
 Calls Tryz.prog 97 #[.string (bs s)] w fun e' w'=>e'=.returned (.string (bs (leafL s)))/\Below w.heap.size w w':=by
 have hsz:=bs_size s
 have HK:=hid hK
 have HS:Hid (∀x:ByteArray,x=⟨#[0]⟩++bs s->x=bs (0::s)):=hid (fun x h=>by rw[h,bs_cons];rfl)
 clear hK
 go_enter Tryz.func97,Tryz.ntmps97
 go_wp2_with fail
 go_at_call 50
 refine(sum_l (0::s) _ (HS.out _ rfl) _ HK.out (by rw[List.length_cons];omega)).mono ?_
 rintro e' w1 ⟨rfl,hb⟩
 have HB:=hid hb
 clear hb
 go_wp2
 go_ret
 exact⟨rfl,HB.out⟩
theorem node_any (a b:List UInt8) (w:World) (hK:Ks w) (ha:a.length<=1099511627776) (hb:b.length<=1099511627776):
 Calls Tryz.prog 99 #[.string (bs a),.string (bs b)] w fun e' w'=>e'=.returned (.string (bs (nodeL a b)))/\Below w.heap.size w w':=by
 have hsa:=bs_size a
 have hsb:=bs_size b
 have HK:=hid hK
 have HS:Hid (∀x:ByteArray,x=⟨#[1]⟩++bs a++bs b->x=bs (1::(a++b))):=hid (fun x h=>by rw[h,bs_cons2];rfl)
 clear hK
 go_enter Tryz.func99,Tryz.ntmps99
 go_wp2_with fail
 go_at_call 50
 refine(sum_l (1::(a++b)) _ (HS.out _ rfl) _ HK.out (by rw[List.length_cons,List.length_append];omega)).mono ?_
 rintro e' w1 ⟨rfl,hb⟩
 have HB:=hid hb
 clear hb
 go_wp2
 go_ret
 exact⟨rfl,HB.out⟩
open Go Go.RowKit
open Go.Lib(hid)
abbrev Span :=Int×Int
def spanV (k:Span):Value:=.agg #[.int .i64 k.1,.int .i64 k.2]
theorem eqf_cons {P:Program} {d:Nat} {xs ys:Array Value} {f:Field} {fs:List Field} {a b:Value} {r s:Bool} {w:World} (hn:(f.name== "_")=false) (ha:(part f.type xs f.offset).run P w=.ok a w) (hb:(part f.type ys f.offset).run P w=.ok b w) (he:(Op.equalIn d f.type a b).run P w=.ok r w) (hr:(Op.eqFields d xs ys fs).run P w=.ok s w):(Op.eqFields d xs ys (f::fs)).run P w=.ok (r&&s) w:=by
 have hn':f.name≠ "_" :=by simpa using hn
 rw[Op.eqFields]
 simp only[if_pos hn',Sem.run_bind,ha,hb,he,Result.andThen_ok]
 cases r
 ·simp
 ·simpa using hr
theorem eqf_nil {P:Program} {d:Nat} {xs ys:Array Value} {w:World}:(Op.eqFields d xs ys []).run P w=.ok true w:=by simp[Op.eqFields]
theorem run_eq_span (k k':Span) (w:World):(Op.equal 116 (spanV k) (spanV k')).run Tryz.prog w=.ok (k==k') w:=by
 have hf:(Tryz.prog.fieldsOf 116).toList.map (fun f=>((f.name== "_"),f.type,f.offset))=[(false,3,0),(false,3,1)]:=by kernel_rfl
 have q0:∀(a b:Int),(part 3 #[.int .i64 a,.int .i64 b] 0).run Tryz.prog w=.ok (.int .i64 a) w:=fun _ _=>by kernel_rfl
 have q1:∀(a b:Int),(part 3 #[.int .i64 a,.int .i64 b] 1).run Tryz.prog w=.ok (.int .i64 b) w:=fun _ _=>by kernel_rfl
 have hs:Tryz.prog.underlying 116=some (.struct (Tryz.prog.fieldsOf 116)):=by kernel_rfl
 obtain⟨a,b⟩:=k
 obtain⟨a',b'⟩:=k'
 unfold Op.equal spanV
 rw[show Op.maxDepth=9999+1 from rfl,run_equalIn_struct w 9999 116 _ _ hs (by kernel_rfl)]
 obtain⟨f0,l0,hl0,h0,hf⟩:=List.map_eq_cons_iff.1 hf
 obtain⟨f1,l1,rfl,h1,hf⟩:=List.map_eq_cons_iff.1 hf
 obtain rfl:=List.map_eq_nil_iff.1 hf
 simp only[Prod.mk.injEq]at h0 h1
 obtain⟨m0,t0,o0⟩:=h0
 obtain⟨m1,t1,o1⟩:=h1
 rw[hl0,eqf_cons m0 (by rw[t0,o0];exact q0 ..) (by rw[t0,o0];exact q0 ..) (by rw[t0];exact run_equalIn_int w 9998 3 .i64 .i64 _ _ Tryz.underlying3)
  (eqf_cons m1 (by rw[t1,o1];exact q1 ..) (by rw[t1,o1];exact q1 ..) (by rw[t1];exact run_equalIn_int w 9998 3 .i64 .i64 _ _ Tryz.underlying3) eqf_nil)]
 rw[Bool.and_true]
 rfl
def look :List (Span×List UInt8)->Span->Option (Nat×List UInt8)
 |[],_=>none
 |p::L,k=>if k==p.1 then some (0,p.2)else(look L k).map fun r=>(r.1+1,r.2)
def EntsAre (es:List MapEntry) (L:List (Span×List UInt8)):Prop:=es.map (fun e=>(e.key,e.val))=L.map fun p=>(spanV p.1,Value.string (bs p.2))
def MapIs (w:World) (b:Nat) (L:List (Span×List UInt8)):Prop:=∃es clock,w.heap[b]?=some (.map es clock)/\EntsAre es.toList L
def got (L:List (Span×List UInt8)) (k:Span):Option (List UInt8):=(look L k).map (·.2)
theorem findAsking_run (k:Span) (w:World):∀(es:List MapEntry) (L:List (Span×List UInt8)) (i:Nat),EntsAre es L->(Instr.findAsking 116 (spanV k) es i).run Tryz.prog w=.ok ((look L k).map fun r=>(i+r.1,Value.string (bs r.2))) w
 |[],[],i,_=>rfl
 |[],_::_,i,h=>by simp[EntsAre]at h
 |_::_,[],i,h=>by simp[EntsAre]at h
 |e::es,p::L,i,h=>by
  have h2:e.key=spanV p.1/\e.val=.string (bs p.2)/\EntsAre es L:=by
   simp only[EntsAre,List.map_cons,List.cons.injEq,Prod.mk.injEq]at h
   exact⟨h.1.1,h.1.2,h.2⟩
  obtain⟨hk,hv,ht⟩:=h2
  rw[Instr.findAsking,Sem.run_bind,hk,run_eq_span,Result.andThen_ok,look]
  cases hc:(k==p.1)
  ·have ih:=findAsking_run k w es L (i+1) ht
   simp only[Bool.false_eq_true,if_false]
   rw[ih]
   cases look L k with
   |none=>rfl
   |some r=>
    show Result.ok (some (i+1+r.1,_)) w=Result.ok (some (i+(r.1+1),_)) w
    rw[show i+1+r.1=i+(r.1+1)by omega]
  ·simp only[if_true,hv]
   rfl
theorem checkKey_run (e:Bool) (k:Span) (w:World):(Instr.checkKey e 10000 116 (spanV k)).run Tryz.prog w=.ok () w:=by
 obtain⟨a,b⟩:=k
 unfold spanV
 cases e<;>kernel_rfl
theorem underK :Tryz.prog.underlying 116=some (.struct (Tryz.prog.fieldsOf 116)):=by kernel_rfl
theorem findKey_run (k:Span) (w:World) (es:List MapEntry) (L:List (Span×List UInt8)) (h:EntsAre es L):(Instr.findKey 116 (spanV k) es).run Tryz.prog w=.ok ((look L k).map fun r=>(r.1,Value.string (bs r.2))) w:=by
 have hk:(underlying 116).run Tryz.prog w=.ok (.struct (Tryz.prog.fieldsOf 116)) w:=run_underlying underK w
 unfold Instr.findKey
 rw[Sem.run_bind,hk,Result.andThen_ok]
 cases es with
 |nil=>cases L with
  |nil=>rfl
  |cons p L=>simp[EntsAre]at h
 |cons e es=>
  have hn:Instr.findNow (.struct (Tryz.prog.fieldsOf 116)) (spanV k) (e::es) 0=none:=rfl
  rw[hn]
  show(Instr.findAsking _ _ _ 0).run _ _=_
  rw[findAsking_run k w (e::es) L 0 h]
  cases look L k with
  |none=>rfl
  |some r=>simp
theorem run_lookup_span (k:Span) (w:World) (b:Nat) (L:List (Span×List UInt8)) (h:MapIs w b L):
 (Instr.lookup 111 (.map (some b)) (spanV k) false).run Tryz.prog w=.ok (.string (bs ((got L k).getD []))) w:=by
 obtain⟨es,clock,hb,he⟩:=h
 have ht:(underlying 111).run Tryz.prog w=.ok (.map 116 9) w:=run_underlying Tryz.underlying111 w
 have hz:(zeroValue 9).run Tryz.prog w=.ok (.string (bs [])) w:=by kernel_rfl
 have hg:(getObj b).run Tryz.prog w=.ok (.map es clock) w:=MapKept.run_getObj_map hb
 unfold Instr.lookup
 simp only[Sem.run_bind,ht,Result.andThen_ok,hg,Sem.run_pure,checkKey_run,findKey_run k w es.toList L he,got]
 cases look L k with
 |none=>simp[hz,Sem.run_bind]
 |some r=>simp
theorem look_lt :∀{L:List (Span×List UInt8)} {k:Span} {i:Nat} {d:List UInt8},look L k=some (i,d)->i<L.length/\L[i]?=some (k,d)
 |p::L,k,i,d,h=>by
  rw[look]at h
  split at h
  ·rename_i hk
   simp only[Option.some.injEq,Prod.mk.injEq]at h
   obtain⟨rfl,rfl⟩:=h
   rw[eq_of_beq hk]
   exact⟨by simp,rfl⟩
  ·obtain⟨⟨j,e⟩,h1,h2⟩:=Option.map_eq_some_iff.1 h
   simp only[Prod.mk.injEq]at h2
   obtain⟨rfl,rfl⟩:=h2
   obtain⟨h3,h4⟩:=look_lt h1
   exact⟨by simp;omega,by simpa using h4⟩
theorem got_snoc (L:List (Span×List UInt8)) (k:Span) (d:List UInt8) (hn:look L k=none) (k':Span):got (L++[(k,d)]) k'=if k'=k then some d else got L k':=by
 induction L with
 |nil=>
  simp only[got,List.nil_append,look]
  by_cases h:k'=k
  ·simp[h]
  ·simp[h]
 |cons p L ih=>
  rw[look]at hn
  split at hn
  ·cases hn
  ·rename_i hk
   have hn2:look L k=none:=by simpa using hn
   have ih:=ih hn2
   simp only[got,List.cons_append,look]at ih⊢
   by_cases hp:k'=p.1
   ·have:k'≠k:=fun e=>by rw[←e,hp]at hk;simp at hk
    simp[hp,this]
    intro h2
    rw[←h2]at hk
    simp at hk
   ·simp only[show(k'==p.1)=false by simpa using hp,Bool.false_eq_true,if_false,Option.map_map]
    simpa[Function.comp_def]using ih
theorem got_set :∀(L:List (Span×List UInt8)) (k:Span) (d e:List UInt8) (i:Nat),look L k=some (i,e)->∀k',got (L.set i (k,d)) k'=if k'=k then some d else got L k'
 |p::L,k,d,e,i,h,k'=>by
  rw[look]at h
  split at h
  ·rename_i hk
   simp only[Option.some.injEq,Prod.mk.injEq]at h
   obtain⟨rfl,rfl⟩:=h
   have hk:=eq_of_beq hk
   simp only[got,List.set_cons_zero,look]
   by_cases h2:k'=k
   ·simp[h2]
   ·rw[if_neg h2]
    simp only[show(k'==k)=false by simpa using h2,show(k'==p.1)=false by rw[←hk];simpa using h2]
    rfl
  ·rename_i hk
   obtain⟨⟨j,e'⟩,h1,h2⟩:=Option.map_eq_some_iff.1 h
   simp only[Prod.mk.injEq]at h2
   obtain⟨rfl,rfl⟩:=h2
   have ih:=got_set L k d e' j h1 k'
   simp only[got,List.set_cons_succ,look]at ih⊢
   by_cases hp:k'=p.1
   ·have hne:k'≠k:=fun e=>by rw[←e,hp]at hk;simp at hk
    simp[hp,hne]
    intro h2
    rw[←h2]at hk
    simp at hk
   ·simp only[show(k'==p.1)=false by simpa using hp,Bool.false_eq_true,if_false,Option.map_map]
    simpa[Function.comp_def]using ih
theorem run_update_span (k:Span) (d:List UInt8) (w:World) (b:Nat) (L:List (Span×List UInt8)) (h:MapIs w b L):
 ∃L' o,(Instr.mapUpdate 111 (.map (some b)) (spanV k) (.string (bs d))).run Tryz.prog w=.ok () {w with heap:=w.heap.setIfInBounds b o}/\MapIs {w with heap:=w.heap.setIfInBounds b o} b L'/\∀k',got L' k'=if k'=k then some d else got L k':=by
 obtain⟨es,clock,hb,he⟩:=h
 have ht:(underlying 111).run Tryz.prog w=.ok (.map 116 9) w:=run_underlying Tryz.underlying111 w
 have hg:(getObj b).run Tryz.prog w=.ok (.map es clock) w:=MapKept.run_getObj_map hb
 have hlt:b<w.heap.size:=(Array.getElem?_eq_some_iff.1 hb).1
 have hnew:∀o:Obj,(w.heap.setIfInBounds b o)[b]?=some o:=fun o=>by rw[Array.getElem?_setIfInBounds_self_of_lt hlt]
 unfold Instr.mapUpdate
 simp only[Sem.run_bind,ht,Result.andThen_ok,hg,checkKey_run,findKey_run k w es.toList L he]
 cases hl:look L k with
 |none=>
  refine⟨L++[(k,d)],.map (es.push {key:=spanV k,val:=.string (bs d),born:=clock}) (clock+1),?_,⟨_,_,hnew _,?_⟩,got_snoc L k d hl⟩
  ·simp only[Option.map_none]
   exact MapKept.run_setObj_map _ hb
  ·unfold EntsAre at he⊢
   simp[he]
 |some r=>
  obtain⟨i,e⟩:=r
  obtain⟨hi,hLi⟩:=look_lt hl
  have hes:i<es.size:=by
   have:=congrArg List.length he
   simp at this
   omega
  have hkey:es[i].key=spanV k:=by
   have:=congrArg (fun l=>l[i]?) he
   simp only[List.getElem?_map,hLi,Array.getElem?_toList,Array.getElem?_eq_getElem hes,Option.map_some,Option.some.injEq,Prod.mk.injEq]at this
   exact this.1
  refine⟨L.set i (k,d),.map (es.modify i fun e=>{e with key:=spanV k,val:=.string (bs d)}) clock,?_,⟨_,_,hnew _,?_⟩,got_set L k d e i hl⟩
  ·simp only[Option.map_some,Sem.run_bind,Array.getElem?_eq_getElem hes,Option.getD_some,hkey]
   have hsame:(Instr.keyThatStays (spanV k) (spanV k)).run Tryz.prog w=.ok (spanV k) w:=by
    obtain⟨a,c⟩:=k
    unfold Instr.keyThatStays spanV
    have:Instr.sameBits 10000 (.agg #[.int .i64 a,.int .i64 c]) (.agg #[.int .i64 a,.int .i64 c])=true:=by simp[Instr.sameBits]
    rw[if_pos this]
    rfl
   rw[hsame,Result.andThen_ok]
   exact MapKept.run_setObj_map _ hb
  ·unfold EntsAre at he⊢
   apply List.ext_getElem?
   intro j
   have hj:=congrArg (fun l=>l[j]?) he
   simp only[List.getElem?_map,Array.getElem?_toList]at hj⊢
   rw[Array.getElem?_modify,List.getElem?_set]
   by_cases hij:i=j
   ·subst hij
    simp[hes,hi]
   ·simp only[if_neg hij]
    exact hj
def rootF :Nat->List (List UInt8)->List UInt8
 |0,_=>shaL []
 |f+1,l=>match l with
  |[]=>shaL []
  |[s]=>leafL s
  |l=>nodeL (rootF f (l.take (halfN l.length))) (rootF f (l.drop (halfN l.length)))
def rootL (l:List (List UInt8)):List UInt8:=rootF l.length l
theorem rootF_fuel :∀(f g:Nat) (l:List (List UInt8)),l.length<=f->l.length<=g->l.length<=1099511627776->rootF f l=rootF g l:=by
 intro f
 induction f with
 |zero=>
  intro g l hf hg _
  obtain rfl:l=[]:=List.eq_nil_of_length_eq_zero (by omega)
  cases g<;>rfl
 |succ f ih=>
  intro g l hf hg hl
  cases g with
  |zero=>
   obtain rfl:l=[]:=List.eq_nil_of_length_eq_zero (by omega)
   rfl
  |succ g=>
   match l,hf,hg,hl with
   |[],_,_,_=>rfl
   |[s],_,_,_=>rfl
   |a::b::l,hf,hg,hl=>
    obtain⟨h1,h2,h3⟩:=halfN_fits (n:=(a::b::l).length) (by simp) hl
    show nodeL _ _=nodeL _ _
    rw[ih g ((a::b::l).take (halfN (a::b::l).length)) (by rw[List.length_take];omega) (by rw[List.length_take];omega) (by rw[List.length_take];omega),
     ih g ((a::b::l).drop (halfN (a::b::l).length)) (by rw[List.length_drop];omega) (by rw[List.length_drop];omega) (by rw[List.length_drop];omega)]
theorem rootL_one (s:List UInt8):rootL [s]=leafL s:=rfl
theorem rootL_two {l:List (List UInt8)} (h2:2<=l.length) (hl:l.length<=1099511627776):rootL l=nodeL (rootL (l.take (halfN l.length))) (rootL (l.drop (halfN l.length))):=by
 match l,h2,hl with
 |a::b::l,h2,hl=>
  obtain⟨h1,h2,h3⟩:=halfN_fits (n:=(a::b::l).length) (by simp) hl
  unfold rootL
  conv=>lhs;rw[List.length_cons]
  show nodeL _ _=nodeL _ _
  rw[rootF_fuel (b::l).length _ ((a::b::l).take (halfN (a::b::l).length)) (by rw[List.length_take];simp only[List.length_cons]at*;omega) (Nat.le_refl _) (by rw[List.length_take];omega),
   rootF_fuel (b::l).length _ ((a::b::l).drop (halfN (a::b::l).length)) (by rw[List.length_drop];simp only[List.length_cons]at*;omega) (Nat.le_refl _) (by rw[List.length_drop];omega)]
theorem rootF_len :∀(f:Nat) (l:List (List UInt8)),(rootF f l).length=32
 |0,l=>shaL_length _
 |f+1,[]=>shaL_length _
 |f+1,[s]=>leafL_length _
 |f+1,a::b::l=>nodeL_length _ _
theorem rootL_len (l:List (List UInt8)):(rootL l).length=32:=rootF_len _ _
def seg (l:List (List UInt8)) (a n:Nat):List (List UInt8):=(l.drop a).take n
theorem seg_length {l:List (List UInt8)} {a n:Nat} (h:a+n<=l.length):(seg l a n).length=n:=by
 unfold seg
 rw[List.length_take,List.length_drop]
 omega
theorem seg_take {l:List (List UInt8)} {a n k:Nat} (h:k<=n):(seg l a n).take k=seg l a k:=by
 unfold seg
 rw[List.take_take,Nat.min_eq_left h]
theorem seg_drop {l:List (List UInt8)} {a n k:Nat}:(seg l a n).drop k=seg l (a+k) (n-k):=by
 unfold seg
 rw[List.drop_take,List.drop_drop]
theorem seg_one {l:List (List UInt8)} {a:Nat} (h:a<l.length):seg l a 1=[l[a]]:=by
 unfold seg
 rw[List.drop_eq_getElem_cons h]
 rfl
theorem seg_all (l:List (List UInt8)):seg l 0 l.length=l:=by
 unfold seg
 rw[List.drop_zero,List.take_length]
inductive Under :Nat->Nat->Nat->Nat->Prop
 |self (a n:Nat):Under a n a n
 |left {a n c d:Nat} (h:2<=n) (hu:Under a (halfN n) c d):Under a n c d
 |right {a n c d:Nat} (h:2<=n) (hu:Under (a+halfN n) (n-halfN n) c d):Under a n c d
theorem Under.trans {a n c d e f:Nat} (h:Under a n c d) (k:Under c d e f):Under a n e f:=by
 induction h with
 |self a n=>exact k
 |left h2 _ ih=>exact .left h2 (ih k)
 |right h2 _ ih=>exact .right h2 (ih k)
def GoodM (texts:List (List UInt8)) (L:List (Span×List UInt8)):Prop:=∀(a n:Nat) (d:List UInt8),got L ((a:Int),(n:Int))=some d->d=rootL (seg texts a n)
section
variable {P:Program} {ops:Array Oper} {rest:List Oper} {o:Oper} {a:Act} {Q:Exit->Act->World->Prop}
theorem wpList_update_span (w:World) (hg:o.guard=none) (m x v:Operand) (hop:o.op=.mapUpdate 111 m x v) (b:Nat) (L:List (Span×List UInt8)) (k:Span) (d:List UInt8) (hm:a.eval m=.map (some b)) (hx:a.eval x=spanV k) (hv:a.eval v=.string (bs d)) (h:MapIs w b L)
 (hK:∀L' w',MapIs w' b L'->(∀k',got L' k'=if k'=k then some d else got L k')->KeptG b w w'->Below b w w'->w'.heap.size=w.heap.size->wpList Tryz.prog ops Q rest (a.put o.dst undef) w'):wpList Tryz.prog ops Q (o::rest) a w:=by
 refine wpList_plain hg fun K' hK'=>?_
 obtain⟨L',ob,hrun,hmi,hgt⟩:=run_update_span k d w b L h
 unfold Oper.wp
 simp[execOp,hop,hm,hx,hv,hrun,Result.andThen]
 refine hK' _ _ (hK L' _ hmi hgt ⟨by simp,fun i hi hne=>?_⟩ ⟨rfl,rfl,rfl,by simp,fun i hi=>?_⟩ (by simp))
 ·show(w.heap.setIfInBounds b ob)[i]?=_
  rw[Array.getElem?_setIfInBounds_ne (Ne.symm hne)]
 ·show(w.heap.setIfInBounds b ob)[i]?=_
  rw[Array.getElem?_setIfInBounds_ne (by omega)]
end
theorem cell_lt' {w:World} {b o:Nat} {v:Value} (h:w.cell? ⟨b,o,none⟩=some v):b<w.heap.size:=by
 rcases Nat.lt_or_ge b w.heap.size with h'|h'
 ·exact h'
 ·unfold World.cell? at h
  simp[Array.getElem?_eq_none h']at h
theorem cell_keptG {w w':World} {b g o:Nat} {v:Value} (hk:KeptG b w w') (h:w.cell? ⟨g,o,none⟩=some v) (hne:g≠b):w'.cell? ⟨g,o,none⟩=some v:=by
 rw[←h]
 unfold World.cell?
 rw[hk.2 g (cell_lt' h) hne]
structure OfEnv (texts:List (List UInt8)) (b g bt bo br:Nat) (tp:Option Addr) (cap:Nat) (w:World):Prop where
 ct:w.cell? ⟨bt,0,none⟩=some (.pointer (some ⟨g,0,none⟩))
 co:w.cell? ⟨bo,0,none⟩=some (.func (.func 96) #[] #[.pointer (some ⟨bt,0,none⟩),.pointer (some ⟨bo,0,none⟩),.pointer (some ⟨br,0,none⟩)])
 cr:w.cell? ⟨br,0,none⟩=some (.map (some b))
 cg:w.cell? ⟨g,0,none⟩=some (.slice tp texts.length cap)
 nt:bt≠b
 no:bo≠b
 nr:br≠b
 ng:g≠b
 hs:HasS (fun x=>x≠b) w tp texts
 k:Ks w
 kb:0≠b
theorem OfEnv.kept {texts:List (List UInt8)} {b g bt bo br cap:Nat} {tp:Option Addr} {w w':World} (h:OfEnv texts b g bt bo br tp cap w) (hk:KeptG b w w'):OfEnv texts b g bt bo br tp cap w' where
 ct:=cell_keptG hk h.ct h.nt
 co:=cell_keptG hk h.co h.no
 cr:=cell_keptG hk h.cr h.nr
 cg:=cell_keptG hk h.cg h.ng
 nt:=h.nt
 no:=h.no
 nr:=h.nr
 ng:=h.ng
 hs:=h.hs.ext_to (fun _ h=>h) (fun x hx hlt=>hk.2 x hlt hx)
 k:=by
  obtain⟨t,fr,hb⟩:=h.k
  exact⟨t,fr,(hk.2 _ h.k.lt h.kb).trans hb⟩
 kb:=h.kb
def OfPost (texts:List (List UInt8)) (b a n:Nat) (L:List (Span×List UInt8)) (w:World) (e':Ending) (w':World):Prop:=e'=.returned (.string (bs (rootL (seg texts a n))))/\KeptG b w w'/\Below b w w'/\∃L',MapIs w' b L'/\GoodM texts L'/\(∀k,got L k≠none->got L' k≠none)/\∀c d,Under a n c d->got L' ((c:Int),(d:Int))≠none
def OfOk (texts:List (List UInt8)) (b g bt bo br:Nat) (tp:Option Addr) (cap n:Nat):Prop:=∀(a:Nat) (L:List (Span×List UInt8)) (w:World),a+n<=texts.length->OfEnv texts b g bt bo br tp cap w->MapIs w b L->GoodM texts L→
 Calls Tryz.prog 96 #[spanV ((a:Int),(n:Int)),.pointer (some ⟨bt,0,none⟩),.pointer (some ⟨bo,0,none⟩),.pointer (some ⟨br,0,none⟩)] w (OfPost texts b a n L w)
theorem MapIs.keptG {w w':World} {b x:Nat} {L:List (Span×List UInt8)} (h:MapIs w b L) (hb:Below w.heap.size w w'):MapIs w' b L:=by
 obtain⟨es,c,h1,h2⟩:=h
 exact⟨es,c,(hb.block b (Array.getElem?_eq_some_iff.1 h1).1).trans h1,h2⟩
theorem MapIs.lt {w:World} {b:Nat} {L:List (Span×List UInt8)} (h:MapIs w b L):b<w.heap.size:=by
 obtain⟨es,c,h1,_⟩:=h
 exact(Array.getElem?_eq_some_iff.1 h1).1
theorem good_put {texts:List (List UInt8)} {L L':List (Span×List UInt8)} {a n:Nat} (hL:GoodM texts L) (hg:∀k',got L' k'=if k'=((a:Int),(n:Int))then some (rootL (seg texts a n))else got L k'):GoodM texts L':=by
 intro c d x hx
 rw[hg]at hx
 split at hx
 ·rename_i he
  simp only[Prod.mk.injEq]at he
  obtain rfl:c=a:=by omega
  obtain rfl:d=n:=by omega
  exact(Option.some.inj hx).symm
 ·exact hL c d x hx
set_option maxHeartbeats 8000000 in
theorem of_step (texts:List (List UInt8)) (b g bt bo br:Nat) (tp:Option Addr) (cap n:Nat) (htl:texts.length<=1099511627776) (hts:∀s∈texts,s.length<=1099511627776) (ih:∀m,m<n->OfOk texts b g bt bo br tp cap m):OfOk texts b g bt bo br tp cap n:=by
 intro a L w han henv hmi hgood
 have IH:=hid ih
 have HTS:=hid hts
 have HG:=hid hgood
 clear ih hts hgood
 have hbx:Below w.heap.size w (w.alloc (.cells #[.int .i64 (a:Int),.int .i64 (n:Int)] 116)):=(Below.refl _ _).alloc (Nat.le_refl _) _
 have henv1:=henv.kept (KeptG.of_below hbx)
 have hmi1:=hmi.keptG (x:=0) hbx
 have hbw:=hmi.lt
 have hx1:IsBlk (w.alloc (.cells #[.int .i64 (a:Int),.int .i64 (n:Int)] 116)) w.heap.size #[.int .i64 (a:Int),.int .i64 (n:Int)] 116:=IsBlk.new _ _ _
 have HB1:=hid hbx
 clear hbx henv hmi
 show Calls Tryz.prog 96 #[.agg #[.int .i64 (a:Int),.int .i64 (n:Int)],.pointer (some ⟨bt,0,none⟩),.pointer (some ⟨bo,0,none⟩),.pointer (some ⟨br,0,none⟩)] w _
 obtain⟨D,hD⟩:∃D,D=rootL (seg texts a n):=⟨_,rfl⟩
 have HD:=hid hD
 clear hD
 go_enter Tryz.func96,Tryz.ntmps96
 go_upto_region 2 with(fail)
 generalize hW1:World.alloc w _=W1 at henv1 hmi1 hx1 HB1
 clear hW1
 have x1:=hx1.cell (i:=1) rfl
 have HX1:=hid hx1
 have HE1:=hid henv1
 have HM1:=hid hmi1
 clear hx1 henv1 hmi1
 go_upto_block 0 with(fail)
 clear x1
 go_cut [6] (fun s wx=>s=.string (bs D)/\KeptG b W1 wx/\Below b W1 wx/\∃L',MapIs wx b L'/\GoodM texts L'/\(∀k,got L k≠none->got L' k≠none)/\∀c d,Under a n c d->(c≠a\/d≠n)->got L' ((c:Int),(d:Int))≠none)
 case first=>
  have hxlt:=HX1.out.lt
  by_cases h0:n=0
  ·have q0:((n:Int)==0)=true:=by simp;omega
   have HD2:Hid (D=shaL []):=hid (by rw[HD.out,h0];unfold seg;rw[List.take_zero];rfl)
   have H0:=hid h0
   clear h0
   go_wp2_with fail
   go_at_call 50
   refine(sum_l [] _ rfl _ HE1.out.k (by simp)).mono ?_
   rintro e' w2 ⟨he,hb⟩
   rw[←HD2.out]at he
   subst he
   have HB2:=hid hb
   clear hb
   go_wp2
   go_meet
   refine⟨rfl,KeptG.of_below HB2.out,HB2.out.mono (by have:=HM1.out.lt;omega),L,HM1.out.keptG (x:=0) HB2.out,HG.out,fun _ h=>h,fun c d hu hne=>?_⟩
   have h0:=H0.out
   cases hu with
   |self=>omega
   |left h2 _=>omega
   |right h2 _=>omega
  ·have q0:((n:Int)==0)=false:=by simp;omega
   by_cases h1:n=1
   ·have q1:((n:Int)==1)=true:=by simp;omega
    have hat:a<texts.length:=by omega
    obtain⟨gt,ot,htp,_,hgt,hct⟩:=HE1.out.hs a hat
    have hsl:=HTS.out _ (List.getElem_mem hat)
    have hseg:D=leafL texts[a]:=by rw[HD.out,h1,seg_one hat];rfl
    generalize texts[a]=s at hct hsl hseg
    have HD2:=hid hseg
    have H1:=hid h1
    have hatI:(a:Int)<(texts.length:Int):=by omega
    have ct:=HE1.out.ct
    have cg:=HE1.out.cg
    have x0:=HX1.out.cell (i:=0) rfl
    have hl1:=cell_lt' ct
    have hl2:=cell_lt' cg
    rw[htp]at cg
    clear hseg hat htp h0 h1
    go_upto_region 8 with(fail)
    refine mixB_start [] (Cls W1) (by kernel_rfl) (Cls.of ((Below.refl _ _).drew)) (fun hCw=>?_)
    refine mixB_flt (by kernel_rfl) [0,1,2,3,4,5,6,7] 2 _ _ hCw (by kernel_rfl) ?_
    simp only[opsAt,zo1,zo2,zo3,zo4,zo5]
    unfold Cls
    repeat(go_big_quiet_step (fail))
    refine wpQuiet_nil ?_
    (try rw[←Cls_def])
    refine mixB_ch (i:=8) (fuel:=1) (by kernel_rfl) (by kernel_rfl) ?_
    simp only[opsAt,zo1,zo2,zo3,zo4,zo5]
    go_wp2_with(go_at_call 97;refine(leaf_any s _ (HE1.out.k.ext hCw.below) hsl).mono ?_;rintro e' w5 ⟨he,hb⟩;rw[←HD2.out]at he;subst he)
    refine ThenB.mk (hCw.trans hb) (fun hCw=>?_)
    refine mixB_flt (by kernel_rfl) [9] 0 _ _ hCw (by kernel_rfl) ?_
    simp only[opsAt,zo1,zo2,zo3,zo4,zo5]
    unfold Cls
    repeat(go_big_quiet_step (fail))
    refine wpQuiet_nil ?_
    (try rw[←Cls_def])
    refine mixB_end [] (by kernel_rfl) ?_
    refine wpList_nil ?_
    refine Calm.normal ?_
    have HB2:=hid hCw.below
    clear hb ct cg x0
    go_wp2
    go_meet
    refine⟨rfl,KeptG.of_below HB2.out,HB2.out.mono (by have:=HM1.out.lt;omega),L,HM1.out.keptG (x:=0) HB2.out,HG.out,fun _ h=>h,fun c d hu hne=>?_⟩
    have h1:=H1.out
    cases hu with
    |self=>omega
    |left h2 _=>omega
    |right h2 _=>omega
   ·have q1:((n:Int)==1)=false:=by simp;omega
    have h2:2<=n:=by omega
    have hn40:n<=1099511627776:=by omega
    obtain⟨ha,hb,hc⟩:=halfN_fits h2 hn40
    obtain⟨k,hk⟩:∃k,k=halfN n:=⟨_,rfl⟩
    have HK:=hid hk
    rw[←hk]at ha hb hc
    have hsl:=seg_length (l:=texts) (a:=a) (n:=n) han
    have hroot:D=nodeL (rootL (seg texts a k)) (rootL (seg texts (a+k) (n-k))):=by
     rw[HD.out,rootL_two (by rw[hsl];exact h2) (by rw[hsl];exact hn40),hsl,←hk,seg_take (by omega),seg_drop]
    have HD2:=hid hroot
    clear hk hsl hroot h0 h1
    have x1:=HX1.out.cell (i:=1) rfl
    have hi1:(a:Int)+(k:Int)<=1099511627776:=by omega
    have hi2:(k:Int)<=(n:Int):=by omega
    have hi3:(n:Int)<=1099511627776:=by omega
    go_wp2_with fail
    go_at_call 98
    refine(half_any n h2 hn40 _).mono ?_
    rintro e' w2 ⟨he,rfl⟩
    rw[←HK.out]at he
    subst he
    have co:=HE1.out.co
    have x0:=HX1.out.cell (i:=0) rfl
    have hog1:Og b W1 bo:=⟨cell_lt' co,HE1.out.no⟩
    have hog2:Og b W1 w.heap.size:=⟨hxlt,by omega⟩
    go_upto_region 4 with(fail)
    refine mixB_start [] (ClsG b W1) (by kernel_rfl) (ClsG.drew b W1) (fun hCw=>?_)
    refine mixB_flt (by kernel_rfl) [0,1,2,3,4,6,7,8,9,10,11,12,13,14,15] 4 _ _ hCw (by kernel_rfl) ?_
    simp only[opsAt,zo1,zo2,zo3,zo4,zo5]
    unfold ClsG
    repeat(go_big_quiet_step (fail))
    refine wpQuiet_nil ?_
    (try rw[←ClsG_def])
    refine mixB_ch (i:=5) (fuel:=3) (by kernel_rfl) (by kernel_rfl) ?_
    simp only[opsAt,zo1,zo2,zo3,zo4,zo5]
    go_wp2_with(go_at_call 96;refine(IH.out k (by omega) a L _ (by omega) (HE1.out.kept hCw.kept) (by have:=HM1.out;exact this) HG.out).mono ?_;rintro e' w5 ⟨rfl,hk5,hb5,L5,hm5,hg5,hmo5,hu5⟩)
    refine ThenB.mk (hCw.trans hk5) (fun hCw=>?_)
    refine mixB_ch (i:=16) (fuel:=2) (by kernel_rfl) (by kernel_rfl) ?_
    simp only[opsAt,zo1,zo2,zo3,zo4,zo5]
    go_wp2_with(go_at_call 96;have h16:=IH.out (n-k) (by omega) (a+k) L5 w5 (by omega) (HE1.out.kept hCw.kept) hm5 hg5;rw[show((a+k:Nat):Int)=(a:Int)+(k:Int)by omega,show((n-k:Nat):Int)=(n:Int)-(k:Int)by omega]at h16;refine h16.mono ?_;clear h16;rintro e' w16 ⟨rfl,hk16,hb16,L16,hm16,hg16,hmo16,hu16⟩)
    refine ThenB.mk (hCw.trans hk16) (fun hCw=>?_)
    refine mixB_ch (i:=17) (fuel:=1) (by kernel_rfl) (by kernel_rfl) ?_
    simp only[opsAt,zo1,zo2,zo3,zo4,zo5]
    go_wp2_with(go_at_call 99;refine(node_any _ _ _ (HE1.out.kept hCw.kept).k (by rw[rootL_len];omega) (by rw[rootL_len];omega)).mono ?_;rintro e' w17 ⟨he,hb⟩;rw[←HD2.out]at he;subst he)
    refine ThenB.mk (hCw.trans (KeptG.of_below hb)) (fun hCw=>?_)
    refine mixB_flt (by kernel_rfl) [18] 0 _ _ hCw (by kernel_rfl) ?_
    simp only[opsAt,zo1,zo2,zo3,zo4,zo5]
    unfold ClsG
    repeat(go_big_quiet_step (fail))
    refine wpQuiet_nil ?_
    (try rw[←ClsG_def])
    refine mixB_end [] (by kernel_rfl) ?_
    refine wpList_nil ?_
    refine Calm.normal ?_
    have hs5:=hb5.size
    have hs16:=hb16.size
    have hlt1:=HM1.out.lt
    have HKW:=hid hCw.kept
    have HBW:Hid (Below b W1 w17):=hid ((((Below.refl b W1).drew.trans hb5).trans hb16).trans (hb.mono (by have:=hm16.lt;omega)))
    have HM17:=hid (hm16.keptG (x:=0) hb)
    have HG17:=hid hg16
    have HMO:Hid (∀k,got L k≠none->got L16 k≠none):=hid (fun k h=>hmo16 k (hmo5 k h))
    have HU5:=hid (fun c d (h:Under a k c d)=>hmo16 _ (hu5 c d h))
    have HU16:=hid hu16
    clear hb hb5 hb16 hk5 hk16 hm5 hm16 hg5 hg16 hmo5 hmo16 hu5 hu16 hs5 hs16 co x0 x1 hog1 hog2
    go_wp2
    go_meet
    refine⟨rfl,HKW.out,HBW.out,L16,HM17.out,HG17.out,HMO.out,fun c d hu hne=>?_⟩
    cases hu with
    |self=>omega
    |left _ hu=>exact HU5.out c d (by rw[HK.out];exact hu)
    |right _ hu=>exact HU16.out c d (by rw[HK.out];exact hu)
 case rest=>
  obtain⟨rfl,hkw,hbw1,L',hm',hg',hmo',hu'⟩:=hcut
  have hx:=(hkw.2 w.heap.size HX1.out.lt (by omega)).trans (show W1.heap[w.heap.size]?=_ from HX1.out)
  have hx2:IsBlk _ w.heap.size #[.int .i64 (a:Int),.int .i64 (n:Int)] 116:=hx
  have x0:=hx2.cell (i:=0) rfl
  have x1:=hx2.cell (i:=1) rfl
  have cr:=(HE1.out.kept hkw).cr
  have HKW:=hid hkw
  have HBW1:=hid hbw1
  have HM':=hid hm'
  have HG':=hid hg'
  have HMO:=hid hmo'
  have HU:=hid hu'
  clear hkw hbw1 hm' hg' hmo' hu' hx hx2
  go_wp2_with(at_mapUpdate;refine wpList_update_span _ rfl _ _ _ rfl b L' ((a:Int),(n:Int)) D rfl rfl rfl HM'.out ?_)
  intro L2 w2 hm2 hgt0 hk2 hb2 hs2
  have hgt:∀k',got L2 k'=if k'=((a:Int),(n:Int))then some D else got L' k':=fun k'=>by
   obtain⟨x,y⟩:=k'
   simpa only[Prod.mk.injEq]using hgt0 x y
  clear hgt0
  have hlast:OfPost texts b a n L w (.returned (.string (bs D))) w2:=by
   refine⟨by rw[HD.out],?_,?_,L2,hm2,good_put HG'.out (by rw[←HD.out];exact hgt),fun k h=>?_,fun c d hu=>?_⟩
   ·exact((KeptG.of_below HB1.out).trans HKW.out).trans hk2
   ·exact((HB1.out.mono (by omega)).trans HBW1.out).trans hb2
   ·rw[hgt]
    split
    ·simp
    ·exact HMO.out k h
   ·rw[hgt]
    split
    ·simp
    ·rename_i hne
     refine HU.out c d hu ?_
     by_cases hca:c=a
     ·right
      intro hdn
      exact hne (by rw[hca,hdn])
     ·exact Or.inl hca
  have HLAST:=hid hlast
  clear hlast hm2 hgt hk2 hb2 hs2 x0 x1 cr
  go_wp2
  go_ret
  exact HLAST.out
theorem of_all (texts:List (List UInt8)) (b g bt bo br:Nat) (tp:Option Addr) (cap:Nat) (htl:texts.length<=1099511627776) (hts:∀s∈texts,s.length<=1099511627776):∀m n,n<m->OfOk texts b g bt bo br tp cap n:=by
 intro m
 induction m with
 |zero=>intro n h;omega
 |succ m ih=>intro n h;exact of_step texts b g bt bo br tp cap n htl hts (fun j hj=>ih j (by omega))
set_option maxHeartbeats 4000000 in
theorem made1_any (texts:List (List UInt8)) (g bt:Nat) (tp:Option Addr) (cap:Nat) (x1 x2 x3:Value) (w:World) (hK:Ks w) (hkg:0≠g) (htl:texts.length<=1099511627776) (hts:∀s∈texts,s.length<=1099511627776)
 (ht:w.cell? ⟨bt,0,none⟩=some (.pointer (some ⟨g,0,none⟩))) (hbt:bt≠g) (hg:IsBlk w g #[.slice tp texts.length cap,x1,x2,x3,.map none] 113) (hs:HasS (fun _=>True) w tp texts):
 Calls Tryz.prog 95 #[.pointer (some ⟨bt,0,none⟩)] w fun e' w'=>e'=.returned (.tuple #[])/\KeptG g w w'/\Below g w w'/\∃b L,IsBlk w' g #[.slice tp texts.length cap,x1,x2,x3,.map (some b)] 113/\MapIs w' b L/\GoodM texts L/\(∀c d,Under 0 texts.length c d->got L ((c:Int),(d:Int))≠none)/\w.heap.size<=b:=by
 have hmm:= @run_makeMap Tryz.prog
 have hmf:∀(fn:Fn) (first cap:Array Value) (w:World),(Instr.makeFunc fn first cap).run Tryz.prog w=.ok (.func fn first cap) w:=fun _ _ _ _=>rfl
 have HTS:=hid hts
 have hgl:=hg.lt
 have hbl:=cell_lt' ht
 have HG:=hid hg
 have HS:=hid hs
 have HK:=hid hK
 have HT:=hid ht
 clear hts hg hs hK ht
 go_enter Tryz.func95,Tryz.ntmps95
 go_upto_region 3 with(fail)
 generalize hW3:World.alloc (World.alloc (World.alloc w _) _) _=W3
 have hbw:Below w.heap.size w W3:=by rw[←hW3];exact(((Below.refl _ _).alloc (Nat.le_refl _) _).alloc (by simp) _).alloc (by simp;omega) _
 have hmap:MapIs W3 w.heap.size []:=by
  refine⟨#[],0,?_,rfl⟩
  rw[←hW3]
  rw[Below.heap_alloc _ _ _ (by simp;omega),Below.heap_alloc _ _ _ (by simp)]
  show(w.heap.push _)[w.heap.size]?=_
  simp
 have hbr:IsBlk W3 (w.heap.size+1) #[.map (some w.heap.size)] 111:=by rw[←hW3];exact(IsBlk.new_at (by simp)).alloc _
 have hbo:IsBlk W3 (w.heap.size+2) #[.func (.func 96) #[] #[.pointer (some ⟨bt,0,none⟩),.pointer (some ⟨w.heap.size+2,0,none⟩),.pointer (some ⟨w.heap.size+1,0,none⟩)]] 145:=by rw[←hW3];exact IsBlk.new_at (by simp)
 have hg3:=HG.out.ext hbw
 have henv:OfEnv texts w.heap.size g bt (w.heap.size+2) (w.heap.size+1) tp cap W3:={
  ct:=by rw[hbw.cell (p:=⟨bt,0,none⟩) hbl];exact HT.out
  co:=hbo.cell rfl
  cr:=hbr.cell rfl
  cg:=hg3.cell rfl
  nt:=by omega
  no:=by omega
  nr:=by omega
  ng:=by omega
  hs:=by
   intro i hi
   obtain⟨gg,o,h1,_,h3,h4⟩:=HS.out i hi
   exact⟨gg,o,h1,by omega,Nat.lt_of_lt_of_le h3 hbw.size,by rw[hbw.cell (p:=⟨gg,o+i,none⟩) h3];exact h4⟩
  k:=HK.out.ext hbw
  kb:=by have:=HK.out.lt;omega}
 clear hW3
 have hog1:Og w.heap.size W3 (w.heap.size+2):=⟨hbo.lt,by omega⟩
 have hog2:Og w.heap.size W3 bt:=⟨by have:=hbw.size;omega,by omega⟩
 have hog3:Og w.heap.size W3 g:=⟨hg3.lt,by omega⟩
 have ct:=henv.ct
 have co:=henv.co
 have cg:=henv.cg
 have HOF:=hid (of_all texts w.heap.size g bt (w.heap.size+2) (w.heap.size+1) tp cap htl HTS.out _ _ (Nat.lt_succ_self texts.length))
 have HE:=hid henv
 have HM:=hid hmap
 have HB:=hid hbw
 have HBR:=hid hbr
 have HG3:=hid hg3
 clear henv hmap hbw hbr hbo hg3 hmm
 refine mixB_start [] (ClsG w.heap.size W3) (by kernel_rfl) (ClsG.drew w.heap.size W3) (fun hCw=>?_)
 refine mixB_flt (by kernel_rfl) [0,1,2,3,4,5,6] 1 _ _ hCw (by kernel_rfl) ?_
 simp only[opsAt,zo1,zo2,zo3,zo4,zo5]
 unfold ClsG
 repeat(go_big_quiet_step (fail))
 refine wpQuiet_nil ?_
 (try rw[←ClsG_def])
 refine mixB_ch (i:=7) (fuel:=0) (by kernel_rfl) (by kernel_rfl) ?_
 simp only[opsAt,zo1,zo2,zo3,zo4,zo5]
 go_wp2_with(go_at_call 96;have h7:=HOF.out 0 [] _ (by omega) (HE.out.kept hCw.kept) (by have:=HM.out;exact this) (fun a n d h=>by cases h);rw[show((0:Nat):Int)=0 from rfl]at h7;refine h7.mono ?_;clear h7;rintro e' w5 ⟨rfl,hk5,hb5,L5,hm5,hg5,hmo5,hu5⟩)
 refine ThenB.mk (hCw.trans hk5) (fun hCw=>?_)
 refine mixB_end [] (by kernel_rfl) ?_
 refine wpList_nil ?_
 refine Calm.normal ?_
 have hk:=hCw.kept
 have henv:=HE.out.kept hk
 have hbr5:IsBlk w5 (w.heap.size+1) #[.map (some w.heap.size)] 111:=(hk.2 _ HBR.out.lt (by omega)).trans HBR.out
 have hg5b:IsBlk w5 g #[.slice tp texts.length cap,x1,x2,x3,.map none] 113:=(hk.2 _ HG3.out.lt (by omega)).trans HG3.out
 have hb35:Below w.heap.size W3 w5:=(Below.refl _ W3).drew.trans hb5
 have r0:=hbr5.cell (i:=0) rfl
 have c4:=hg5b.cell (i:=4) rfl
 have f4:=hg5b.frozen 4
 clear ct co cg hog1 hog2 hog3
 have ct:=henv.ct
 have HFIN:Hid (KeptG g w (w5.setCell ⟨g,4,none⟩ (.map (some w.heap.size)))/\Below g w (w5.setCell ⟨g,4,none⟩ (.map (some w.heap.size)))/\∃b L,IsBlk (w5.setCell ⟨g,4,none⟩ (.map (some w.heap.size))) g #[.slice tp texts.length cap,x1,x2,x3,.map (some b)] 113/\MapIs (w5.setCell ⟨g,4,none⟩ (.map (some w.heap.size))) b L/\GoodM texts L/\(∀c d,Under 0 texts.length c d->got L ((c:Int),(d:Int))≠none)/\w.heap.size<=b):=by
  refine hid ⟨?_,?_,w.heap.size,L5,by simpa using hg5b.set 4 (.map (some w.heap.size)),?_,hg5,hu5,Nat.le_refl _⟩
  ·refine⟨?_,fun b hb hne=>?_⟩
   ·have h1:=HB.out.size;have h2:=hb35.size;simp;omega
   ·rw[Below.heap_setCell _ _ _ _ hne,hk.2 b (by have:=HB.out.size;omega) (by omega),HB.out.block b hb]
  ·exact below_set ((HB.out.mono (by omega)).trans (hb35.mono (by omega))) (Nat.le_refl _)
  ·obtain⟨es,cl,h1,h2⟩:=hm5
   exact⟨es,cl,by rw[Below.heap_setCell _ _ _ _ (show w.heap.size≠g by omega)];exact h1,h2⟩
 clear hk henv hbr5 hg5b hb35 hk5 hb5 hm5 hg5 hmo5 hu5 hCw
 go_wp2
 go_end0
 exact⟨rfl,HFIN.out⟩
theorem race_disable (w:World):(callFunc 172 #[]).run Tryz.prog w=.ok (.value (.tuple #[])) w:=run_call_mark0 Tryz.func172 (by kernel_rfl) (by kernel_rfl) (by kernel_rfl) .disable (by kernel_rfl) w
theorem race_enable (w:World):(callFunc 174 #[]).run Tryz.prog w=.ok (.value (.tuple #[])) w:=run_call_mark0 Tryz.func174 (by kernel_rfl) (by kernel_rfl) (by kernel_rfl) .enable (by kernel_rfl) w
theorem race_acquire (a:Addr) (w:World):(callFunc 175 #[.pointer (some a)]).run Tryz.prog w=.ok (.value (.tuple #[])) w:=run_call_marked Tryz.func175 (by kernel_rfl) (by kernel_rfl) (by kernel_rfl) .acquire (by kernel_rfl) a w
theorem race_releaseMerge (a:Addr) (w:World):(callFunc 177 #[.pointer (some a)]).run Tryz.prog w=.ok (.value (.tuple #[])) w:=run_call_marked Tryz.func177 (by kernel_rfl) (by kernel_rfl) (by kernel_rfl) .releaseMerge (by kernel_rfl) a w
theorem store_deferred (a:Addr) (x:Value) (u:FrameMode) (w:World) (hc:w.cell? a=some x) (hz:w.frozen? a=false):
 CallsD Tryz.prog 151 #[.pointer (some a),.bool true] u w fun e u' w'=>u'=u/\(e=.returned (.tuple #[])/\w'=w.drew.setCell a (.int .u32 1)):=by
 have hc':w.drew.cell? a=some x:=by go_simp
 have hz':w.drew.frozen? a=false:=by go_simp
 have hst:=run_call_store (P:=Tryz.prog) Tryz.func164 (by kernel_rfl) (by kernel_rfl) (by kernel_rfl) (by kernel_rfl) (k:=.u32) (y:=1) hc' hz'
 go_enter_d Tryz.func151,Tryz.ntmps151
 go_wp2
 go_region_calls
 all_goals(go_end0;exact⟨rfl,rfl⟩)
theorem unlock_deferred (a:Addr) (u:FrameMode) (w:World) (hc:w.cell? a=some (.int .i32 1)) (hz:w.frozen? a=false):
 CallsD Tryz.prog 150 #[.pointer (some a)] u w fun e u' w'=>u'=u/\(e=.returned (.tuple #[])/\w'=w.setCell a (.int .i32 0)):=by
 have hd:=race_disable
 have he:=race_enable
 have hr:=race_releaseMerge
 have hadd:=run_call_add (P:=Tryz.prog) Tryz.func178 (by kernel_rfl) (by kernel_rfl) (by kernel_rfl) .i32 (by kernel_rfl) (y:= -1) (s:=0) hc hz (by simp[go_sem];rfl)
 have hcv:=run_convert_to_unsafe (P:=Tryz.prog) (src:=222) (dst:=226) Tryz.underlying222 Tryz.underlying226 (by kernel_rfl) hc
 go_enter_d Tryz.func150,Tryz.ntmps150
 go_wp2
 go_end0
 go_wp2
 go_end0
 exact⟨rfl,rfl⟩
theorem lock_free (a:Addr) (w:World) (hc:w.cell? a=some (.int .i32 0)) (hz:w.frozen? a=false):
 Calls Tryz.prog 149 #[.pointer (some a)] w fun e w'=>e=.returned (.tuple #[])/\w'=w.setCell a (.int .i32 1):=by
 have hd:=race_disable
 have he:=race_enable
 have ha:=race_acquire
 have hcas:=run_call_cas_hit (P:=Tryz.prog) Tryz.func173 (by kernel_rfl) (by kernel_rfl) (by kernel_rfl) .i32 (by kernel_rfl) (y:=1) hc hz
 have hc':(w.setCell a (.int .i32 1)).cell? a=some (.int .i32 1):=World.cell?_setCell_same w a _ hc
 have hcv:=run_convert_to_unsafe (P:=Tryz.prog) (src:=222) (dst:=226) Tryz.underlying222 Tryz.underlying226 (by kernel_rfl) hc'
 go_enter Tryz.func149,Tryz.ntmps149
 go_wp2
 first|go_end0|(simp only[Exit.inBlock,Exit.then];refine bodyPost_ret (results_none rfl _ _ _) rfl ?_)|refine bodyPost_ret (results_none rfl _ _ _) rfl ?_
 go_wp2
 go_end0
 exact⟨rfl,rfl⟩
def MadeAt (texts:List (List UInt8)) (g:Nat) (tp:Option Addr) (cap:Nat) (x3:Value) (w:World) (b:Nat):Prop:=∃L,IsBlk w g #[.slice tp texts.length cap,.int .u32 1,.int .i32 0,x3,.map (some b)] 113/\MapIs w b L/\GoodM texts L/\∀c d,Under 0 texts.length c d->got L ((c:Int),(d:Int))≠none
def FreshAt (texts:List (List UInt8)) (g:Nat) (tp:Option Addr) (cap:Nat) (x3:Value) (w:World):Prop:=IsBlk w g #[.slice tp texts.length cap,.int .u32 0,.int .i32 0,x3,.map none] 113
theorem bload_any (a:Addr) (d:Int) (w:World) (h:w.cell? a=some (.int .u32 d)):
 Calls Tryz.prog 127 #[.pointer (some a)] w fun e w'=>e=.returned (.bool (d !=0))/\w=w':=by
 have hl:=run_call_load (P:=Tryz.prog) Tryz.func148 (by kernel_rfl) (by kernel_rfl) (by kernel_rfl) .u32 (by kernel_rfl) h
 go_enter Tryz.func127,Tryz.ntmps127
 go_wp2
 go_ret
 exact⟨rfl,rfl⟩
set_option maxHeartbeats 4000000 in
theorem slow_any (texts:List (List UInt8)) (g bt:Nat) (tp:Option Addr) (cap:Nat) (x3:Value) (w:World) (hK:Ks w) (hkg:0≠g) (htl:texts.length<=1099511627776) (hts:∀s∈texts,s.length<=1099511627776)
 (ht:w.cell? ⟨bt,0,none⟩=some (.pointer (some ⟨g,0,none⟩))) (hbt:bt≠g) (hg:FreshAt texts g tp cap x3 w) (hs:HasS (fun x=>x≠g) w tp texts):
 Calls Tryz.prog 128 #[.pointer (some ⟨g,1,none⟩),.func (.func 95) #[] #[.pointer (some ⟨bt,0,none⟩)]] w fun e' w'=>e'=.returned (.tuple #[])/\KeptG g w w'/\Below g w w'/\∃b,w.heap.size<=b/\MadeAt texts g tp cap x3 w' b:=by
 have hgb:IsBlk w g #[.slice tp texts.length cap,.int .u32 0,.int .i32 0,x3,.map none] 113:=hg
 have h1:=hgb.cell (i:=1) rfl
 have h2:=hgb.cell (i:=2) rfl
 have f1:=hgb.frozen 1
 have f2:=hgb.frozen 2
 have hW1:IsBlk (w.setCell ⟨g,2,none⟩ (.int .i32 1)) g #[.slice tp texts.length cap,.int .u32 0,.int .i32 1,x3,.map none] 113:=by simpa using hgb.set 2 (.int .i32 1)
 have hl0:=hW1.cell (i:=1) rfl
 have HL:=hid hl0
 clear hl0
 have hk1:KeptG g w (w.setCell ⟨g,2,none⟩ (.int .i32 1)):=KeptG.set _ _ _ _
 have hb1:Below g w (w.setCell ⟨g,2,none⟩ (.int .i32 1)):=below_set (Below.refl _ _) (Nat.le_refl _)
 have hm1:Hid (Calls Tryz.prog 95 #[.pointer (some ⟨bt,0,none⟩)] (w.setCell ⟨g,2,none⟩ (.int .i32 1)) fun e' w'=>e'=.returned (.tuple #[])/\KeptG g (w.setCell ⟨g,2,none⟩ (.int .i32 1)) w'/\Below g (w.setCell ⟨g,2,none⟩ (.int .i32 1)) w'/\∃b L,IsBlk w' g #[.slice tp texts.length cap,.int .u32 0,.int .i32 1,x3,.map (some b)] 113/\MapIs w' b L/\GoodM texts L/\(∀c d,Under 0 texts.length c d->got L ((c:Int),(d:Int))≠none)/\(w.setCell ⟨g,2,none⟩ (.int .i32 1)).heap.size<=b):=
  hid (made1_any texts g bt tp cap _ _ _ _ (by
   obtain⟨t,fr,hb⟩:=hK
   exact⟨t,fr,by rw[Below.heap_setCell _ _ _ _ hkg];exact hb⟩) hkg htl hts ((World.cell?_setCell_other _ _ _ _ (fun h=>hbt (congrArg Addr.block h).symm)).trans ht) hbt hW1 (hs.ext_to (fun _ _=>trivial) (fun x hx _=>Below.heap_setCell _ _ _ _ hx)))
 have HK1:=hid hk1
 have HB1:=hid hb1
 have hnot:∀(x:Bool) (w:World),(Op.unary .not (.bool x)).run Tryz.prog w=.ok (.bool (!x)) w:=fun _ _=>rfl
 clear hgb hg hW1 hk1 hb1 hs ht hts hK
 go_enter_defers Tryz.func128,Tryz.ntmps128
 go_wp2_with(go_at_call 149;refine(lock_free ⟨g,2,none⟩ _ (by go_simp) (by go_simp)).mono ?_;rintro e w ⟨rfl,rfl⟩)
 go_at_call 127
 refine(bload_any _ 0 _ HL.out).mono ?_
 rintro e w9 ⟨rfl,rfl⟩
 rw[show((0:Int) !=0)=false from rfl]
 go_wp2_with fail
 go_at_call 95
 refine hm1.out.mono ?_
 rintro e' w2 ⟨rfl,hk2,hb2,b,L,hg2,hm2,hgood,hu,hbs⟩
 have c1:=hg2.cell (i:=1) rfl
 have c2:=hg2.cell (i:=2) rfl
 have z1:=hg2.frozen 1
 have z2:=hg2.frozen 2
 have HG2:=hid hg2
 have HM2:=hid hm2
 have HK2:=hid hk2
 have HB2:=hid hb2
 clear hg2 hm2 hk2 hb2 h1 h2 f1 f2
 go_wp2
 refine leaves_cons (f:=151) (args:= #[.pointer (some ⟨g,1,none⟩),.bool true]) (by simp) (by simp[go_sem]) ?_
 refine(store_deferred ⟨g,1,none⟩ (.int .u32 0) .returning _ c1 z1).mono ?_
 rintro e u' w'' ⟨rfl,rfl,rfl⟩
 refine leaves_cons (f:=150) (args:= #[.pointer (some ⟨g,2,none⟩)]) (by simp[settle]) (by simp[go_sem]) ?_
 have hW3:IsBlk (w2.drew.setCell ⟨g,1,none⟩ (.int .u32 1)) g #[.slice tp texts.length cap,.int .u32 1,.int .i32 1,x3,.map (some b)] 113:=by simpa using HG2.out.drew.set 1 (.int .u32 1)
 refine(unlock_deferred ⟨g,2,none⟩ _ _ (hW3.cell rfl) (hW3.frozen 2)).mono ?_
 rintro e u' w'' ⟨rfl,rfl,rfl⟩
 have hfin:KeptG g w ((w2.drew.setCell ⟨g,1,none⟩ (.int .u32 1)).setCell ⟨g,2,none⟩ (.int .i32 0))/\Below g w ((w2.drew.setCell ⟨g,1,none⟩ (.int .u32 1)).setCell ⟨g,2,none⟩ (.int .i32 0))/\∃b,w.heap.size<=b/\MadeAt texts g tp cap x3 ((w2.drew.setCell ⟨g,1,none⟩ (.int .u32 1)).setCell ⟨g,2,none⟩ (.int .i32 0)) b:=by
  refine⟨?_,?_,b,by simpa using hbs,L,by simpa using hW3.set 2 (.int .i32 0),?_,hgood,hu⟩
  ·exact(((HK1.out.trans HK2.out).drew).trans (KeptG.set g 1 _ _)).trans (KeptG.set g 2 _ _)
  ·exact below_set (below_set ((HB1.out.trans HB2.out).drew) (Nat.le_refl _)) (Nat.le_refl _)
  ·have hbg:b≠g:=fun e=>by
    obtain⟨es,cl,h1,_⟩:=HM2.out
    rw[e,show w2.heap[g]?=_ from HG2.out]at h1
    cases h1
   obtain⟨es,cl,h1,h2⟩:=HM2.out
   refine⟨es,cl,?_,h2⟩
   rw[Below.heap_setCell _ _ _ _ hbg,Below.heap_setCell _ _ _ _ hbg]
   exact h1
 simp[Leaves,settle,results,Tryz.results128]
 exact hfin
def MadeT (S:Nat->Prop) (texts:List (List UInt8)) (g:Nat) (tp:Option Addr) (cap:Nat) (w:World) (b:Nat) (L:List (Span×List UInt8)):Prop:=
 S g/\HasS (fun x=>S x/\x≠g) w tp texts/\S b/\(∃x3,IsBlk w g #[.slice tp texts.length cap,.int .u32 1,.int .i32 0,x3,.map (some b)] 113)/\MapIs w b L/\GoodM texts L/\∀c d,Under 0 texts.length c d->got L ((c:Int),(d:Int))≠none
def TreeIn (S:Nat->Prop) (texts:List (List UInt8)) (g:Nat) (tp:Option Addr) (cap:Nat) (w:World):Prop:=
 (∃b L,MadeT S texts g tp cap w b L)\/(S g/\HasS (fun x=>S x/\x≠g) w tp texts/\∃x3,FreshAt texts g tp cap x3 w)
theorem MapIs.of_block {w w':World} {b:Nat} {L:List (Span×List UInt8)} (h:MapIs w b L) (hb:w'.heap[b]?=w.heap[b]?):MapIs w' b L:=by
 obtain⟨es,c,h1,h2⟩:=h
 exact⟨es,c,hb.trans h1,h2⟩
theorem MadeT.ext_to {S S':Nat->Prop} {texts:List (List UInt8)} {g b cap:Nat} {tp:Option Addr} {w w':World} {L:List (Span×List UInt8)} (h:MadeT S texts g tp cap w b L) (hS:∀x,S x->x<w.heap.size->S' x) (hw:∀x,S x->x<w.heap.size->w'.heap[x]?=w.heap[x]?):MadeT S' texts g tp cap w' b L:=by
 obtain⟨h1,h2,h3,⟨x3,h4⟩,h5,h6,h7⟩:=h
 have hg:=h4.lt
 have hb:=h5.lt
 refine⟨hS _ h1 hg,?_,hS _ h3 hb,⟨x3,(hw _ h1 hg).trans h4⟩,h5.of_block (hw _ h3 hb),h6,h7⟩
 have h2':HasS (fun x=>(S x/\x≠g)/\x<w.heap.size) w tp texts:=fun i hi=>by
  obtain⟨gg,o,q1,q2,q3,q4⟩:=h2 i hi
  exact⟨gg,o,q1,⟨q2,q3⟩,q3,q4⟩
 exact h2'.ext_to (fun x hx=>⟨hS _ hx.1.1 hx.2,hx.1.2⟩) (fun x hx hlt=>hw _ hx.1.1 hlt)
theorem TreeIn.ext_to {S S':Nat->Prop} {texts:List (List UInt8)} {g cap:Nat} {tp:Option Addr} {w w':World} (h:TreeIn S texts g tp cap w) (hS:∀x,S x->x<w.heap.size->S' x) (hw:∀x,S x->x<w.heap.size->w'.heap[x]?=w.heap[x]?):TreeIn S' texts g tp cap w':=by
 rcases h with⟨b,L,h⟩|⟨h1,h2,x3,h3⟩
 ·exact .inl ⟨b,L,h.ext_to hS hw⟩
 ·have hg:g<w.heap.size:=IsBlk.lt h3
  refine .inr ⟨hS _ h1 hg,?_,x3,(hw _ h1 hg).trans h3⟩
  have h2':HasS (fun x=>(S x/\x≠g)/\x<w.heap.size) w tp texts:=fun i hi=>by
   obtain⟨gg,o,q1,q2,q3,q4⟩:=h2 i hi
   exact⟨gg,o,q1,⟨q2,q3⟩,q3,q4⟩
  exact h2'.ext_to (fun x hx=>⟨hS _ hx.1.1 hx.2,hx.1.2⟩) (fun x hx hlt=>hw _ hx.1.1 hlt)
theorem TreeIn.ext {S:Nat->Prop} {texts:List (List UInt8)} {g cap:Nat} {tp:Option Addr} {w w':World} (h:TreeIn S texts g tp cap w) (hb:Below w.heap.size w w'):TreeIn S texts g tp cap w':=h.ext_to (fun _ h _=>h) (fun x _ hx=>hb.block x hx)
theorem TreeIn.block {S:Nat->Prop} {texts:List (List UInt8)} {g cap:Nat} {tp:Option Addr} {w:World} (h:TreeIn S texts g tp cap w):∃d s x3 m,IsBlk w g #[.slice tp texts.length cap,.int .u32 d,.int .i32 s,x3,.map m] 113:=by
 rcases h with⟨b,L,_,_,_,⟨x3,h4⟩,_⟩|⟨_,_,x3,h3⟩
 ·exact⟨_,_,x3,_,h4⟩
 ·exact⟨_,_,x3,_,h3⟩
theorem TreeIn.texts {S:Nat->Prop} {texts:List (List UInt8)} {g cap:Nat} {tp:Option Addr} {w:World} (h:TreeIn S texts g tp cap w):HasS (fun x=>S x/\x≠g) w tp texts:=by
 rcases h with⟨b,L,_,h2,_⟩|⟨_,h2,_⟩
 ·exact h2
 ·exact h2
def MadePost (S:Nat->Prop) (texts:List (List UInt8)) (g:Nat) (tp:Option Addr) (cap:Nat) (w w':World) (b:Nat):Prop:=KeptG g w w'/\Below g w w'/\∃L,MadeT S texts g tp cap w' b L
theorem KeptG.grow {g:Nat} {w w1 w':World} (h1:Below w.heap.size w w1) (h:KeptG g w1 w'):KeptG g w w':=(KeptG.of_below h1).trans h
set_option maxHeartbeats 4000000 in
theorem do_any (S:Nat->Prop) (texts:List (List UInt8)) (g bt:Nat) (tp:Option Addr) (cap:Nat) (w:World) (hK:Ks w) (hkg:0≠g) (htl:texts.length<=1099511627776) (hts:∀s∈texts,s.length<=1099511627776)
 (ht:w.cell? ⟨bt,0,none⟩=some (.pointer (some ⟨g,0,none⟩))) (hbt:bt≠g) (h:TreeIn S texts g tp cap w) (hS:∀x,w.heap.size<=x->S x):
 Calls Tryz.prog 94 #[.pointer (some ⟨g,1,none⟩),.func (.func 95) #[] #[.pointer (some ⟨bt,0,none⟩)]] w fun e' w'=>e'=.returned (.tuple #[])/\∃b,MadePost S texts g tp cap w w' b:=by
 rcases h with⟨b,L,h⟩|⟨h1,h2,x3,h3⟩
 ·have hc:=h.2.2.2.1
  obtain⟨x3,hc⟩:=hc
  have c1:=hc.cell (i:=1) rfl
  have H:=hid h
  clear h hc ht
  go_enter Tryz.func94,Tryz.ntmps94
  go_wp2_with fail
  go_at_call 127
  refine(bload_any _ 1 _ c1).mono ?_
  rintro e w1 ⟨rfl,rfl⟩
  rw[show((1:Int) !=0)=true from rfl]
  go_wp2
  go_end0
  exact⟨rfl,b,KeptG.refl _ _,Below.refl _ _,L,H.out⟩
 ·have hc:IsBlk w g #[.slice tp texts.length cap,.int .u32 0,.int .i32 0,x3,.map none] 113:=h3
  have c1:=hc.cell (i:=1) rfl
  have HS:=hid (slow_any texts g bt tp cap x3 w hK hkg htl hts ht hbt h3 (h2.ext_to (fun x hx=>hx.2) (fun _ _ _=>rfl)))
  have H1:=hid h1
  have H2:=hid h2
  have H3:=hid hS
  clear ht h1 h2 h3 hc hS
  go_enter Tryz.func94,Tryz.ntmps94
  go_wp2_with fail
  go_at_call 127
  refine(bload_any _ 0 _ c1).mono ?_
  rintro e w1 ⟨rfl,rfl⟩
  rw[show((0:Int) !=0)=false from rfl]
  clear c1
  go_wp2_with fail
  go_at_call 128
  refine HS.out.mono ?_
  rintro e w1 ⟨rfl,hk,hb,b,hlb,L,hm1,hm2,hm3,hm4⟩
  have HF:Hid (∃b,MadePost S texts g tp cap w w1 b):=hid ⟨b,hk,hb,L,H1.out,H2.out.ext_to (fun _ h=>h) (fun x hx hlt=>hk.2 x hlt hx.2),H3.out b hlb,⟨x3,hm1⟩,hm2,hm3,hm4⟩
  clear hk hb hm1 hm2 hm3 hm4
  go_wp2
  go_end0
  exact⟨rfl,HF.out⟩
set_option maxHeartbeats 4000000 in
theorem made_any (S:Nat->Prop) (texts:List (List UInt8)) (g:Nat) (tp:Option Addr) (cap:Nat) (w:World) (hK:Ks w) (hkg:0≠g) (htl:texts.length<=1099511627776) (hts:∀s∈texts,s.length<=1099511627776)
 (h:TreeIn S texts g tp cap w) (hS:∀x,w.heap.size<=x->S x):
 Calls Tryz.prog 65 #[.pointer (some ⟨g,0,none⟩)] w fun e' w'=>∃b,e'=.returned (.map (some b))/\MadePost S texts g tp cap w w' b:=by
 have hmf:∀(fn:Fn) (first cap:Array Value) (w:World),(Instr.makeFunc fn first cap).run Tryz.prog w=.ok (.func fn first cap) w:=fun _ _ _ _=>rfl
 obtain⟨_,_,_,_,hblk⟩:=h.block
 have hgl:=hblk.lt
 clear hblk
 have hb1:Below w.heap.size w (w.alloc (.cells #[.pointer (some ⟨g,0,none⟩)] 57)):=(Below.refl _ _).alloc (Nat.le_refl _) _
 have hc1:IsBlk (w.alloc (.cells #[.pointer (some ⟨g,0,none⟩)] 57)) w.heap.size #[.pointer (some ⟨g,0,none⟩)] 57:=IsBlk.new _ _ _
 have HD:=hid (do_any S texts g w.heap.size tp cap _ (hK.ext hb1) hkg htl hts (hc1.cell rfl) (by omega) (h.ext hb1) (fun x hx=>hS x (by have:=hb1.size;omega)))
 have HC:=hid hc1
 have HB:=hid hb1
 clear hb1 hc1 hK h hS
 go_enter Tryz.func65,Tryz.ntmps65
 go_wp2_with fail
 go_at_call 94
 refine HD.out.mono ?_
 rintro e w1 ⟨rfl,b,hk,hb,L,hm⟩
 have hc2:=(hk.2 w.heap.size HC.out.lt (by omega)).trans (show(w.alloc _).heap[w.heap.size]?=_ from HC.out)
 have hc3:IsBlk w1 w.heap.size #[.pointer (some ⟨g,0,none⟩)] 57:=hc2
 have c0:=hc3.cell (i:=0) rfl
 obtain⟨x3,hg⟩:=hm.2.2.2.1
 have g4:=hg.cell (i:=4) rfl
 have HF:Hid (MadePost S texts g tp cap w w1 b):=hid ⟨hk.grow HB.out,(HB.out.mono (by omega)).trans hb,L,hm⟩
 clear hk hb hm hc2 hc3 hg
 go_wp2
 go_ret
 exact⟨b,rfl,HF.out⟩
def KeptH (g:Nat) (v:Value) (w w':World):Prop:=KeptG g w w'/\w'.cell? ⟨g,0,none⟩=some v
open Classical in
noncomputable def extH (g:Nat) (v:Value) (w x:World):World:=if KeptH g v w x then x else w
theorem extH_of {g:Nat} {v:Value} {w x:World} (h:KeptH g v w x):x=extH g v w x:=by
 unfold extH
 rw[if_pos h]
theorem extH_kept (g:Nat) (v:Value) (w x:World):KeptG g w (extH g v w x):=by
 unfold extH
 split
 ·rename_i h;exact h.1
 ·exact KeptG.refl _ _
def ClsH (g:Nat) (v:Value) (w:World):World->Prop:=fun w'=>∃x,w'=extH g v w x
theorem ClsH_def (g:Nat) (v:Value) (w:World):ClsH g v w=fun w'=>∃x,w'=extH g v w x:=rfl
theorem ClsH.of {g:Nat} {v:Value} {w x:World} (h:KeptH g v w x):ClsH g v w x:=⟨x,extH_of h⟩
theorem ClsH.kept {g:Nat} {v:Value} {w x:World} (h:ClsH g v w x):KeptG g w x:=by
 obtain⟨y,rfl⟩:=h
 exact extH_kept g v w y
@[go_sem] theorem extH_cell0 (g : Nat) (v : Value) (w x : World) (h : w.cell? ⟨g, 0, none⟩ = some v) : (extH g v w x).cell? ⟨g, 0, none⟩ = some v := by
  unfold extH
  split
  ·rename_i h;exact h.2
  ·exact h
set_option maxHeartbeats 4000000 in
theorem root_any (S:Nat->Prop) (texts:List (List UInt8)) (g:Nat) (tp:Option Addr) (cap:Nat) (w:World) (hK:Ks w) (hkg:0≠g) (htl:texts.length<=1099511627776) (hts:∀s∈texts,s.length<=1099511627776)
 (h:TreeIn S texts g tp cap w) (hS:∀x,w.heap.size<=x->S x):
 Calls Tryz.prog 26 #[.pointer (some ⟨g,0,none⟩)] w fun e' w'=>e'=.returned (.string (bs (rootL texts)))/\∃b,MadePost S texts g tp cap w w' b:=by
 obtain⟨_,_,_,_,hblk⟩:=h.block
 have c0:=hblk.cell (i:=0) rfl
 have hgl:=hblk.lt
 have hd:Below w.heap.size w w.drew:=(Below.refl _ _).drew
 have HM:=hid (made_any S texts g tp cap w.drew (hK.ext hd) hkg htl hts (h.ext hd) hS)
 have HR:Hid (∀L,GoodM texts L->(∀c d,Under 0 texts.length c d->got L ((c:Int),(d:Int))≠none)->(got L (0,(texts.length:Int))).getD []=rootL texts):=hid (fun L h1 h2=>by
  have h3:=h2 0 texts.length (.self _ _)
  rw[show((0:Nat):Int)=0 from rfl]at h3
  cases hq:got L (0,(texts.length:Int))with
  |none=>exact absurd hq h3
  |some d=>
   have h4:=h1 0 texts.length d (by rw[show((0:Nat):Int)=0 from rfl];exact hq)
   rw[seg_all]at h4
   exact h4)
 clear hK h hS hblk hd
 go_enter Tryz.func26,Tryz.ntmps26
 go_upto_region 3 with(fail)
 refine mixB_start [8,9] (ClsH g (.slice tp texts.length cap) w) (by kernel_rfl) (ClsH.of ⟨⟨Nat.le_refl _,fun _ _ _=>rfl⟩,c0⟩) (fun hCw=>?_)
 refine mixB_flt (by kernel_rfl) [0,2,3,4,5,6,7] 3 _ _ hCw (by kernel_rfl) ?_
 simp only[opsAt,zo1,zo2,zo3,zo4,zo5]
 unfold ClsH
 repeat(go_big_quiet_step (fail))
 refine wpQuiet_nil ?_
 (try rw[←ClsH_def])
 refine mixB_ch (i:=1) (fuel:=2) (by kernel_rfl) (by kernel_rfl) ?_
 simp only[opsAt,zo1,zo2,zo3,zo4,zo5]
 go_wp2_with(go_at_call 65;refine HM.out.mono ?_;rintro e w1 ⟨b,rfl,hk,hb,L,hm⟩)
 refine ThenB.mk (ClsH.of ⟨hCw.kept.trans hk,by obtain⟨x3,hg⟩:=hm.2.2.2.1;exact hg.cell rfl⟩) (fun hCw=>?_)
 refine mixB_end [8,9] (by kernel_rfl) ?_
 simp only[opsAt,zo1,zo2,zo3,zo4,zo5]
 have hlk:(Instr.lookup 111 (.map (some b)) (.agg #[.int .i64 0,.int .i64 (texts.length:Int)]) false).run Tryz.prog w1=.ok (.string (bs (rootL texts))) w1:=by
  have:=run_lookup_span (0,(texts.length:Int)) w1 b L hm.2.2.2.2.1
  rw[HR.out L hm.2.2.2.2.2.1 hm.2.2.2.2.2.2]at this
  exact this
 have HF:Hid (∃b,MadePost S texts g tp cap w w1 b):=hid ⟨b,(KeptG.of_below ((Below.refl _ w).drew)).trans hk,((Below.refl _ w).drew).trans hb,L,hm⟩
 clear hk hb hm hCw
 go_wp2
 refine Calm.normal ?_
 go_wp2
 go_ret
 exact⟨rfl,HF.out⟩
theorem hasS_own {R:Nat} {w:World} {v:Value} {l:List (List UInt8)} (h:w.ownsRow R 9 1 v l.length (l.map fun s=>Value.string (bs s))):∃p c,v=.slice p l.length c/\HasS (fun x=>R<=x) w p l:=by
 rcases Nat.eq_zero_or_pos l.length with h0|h0
 ·rcases h.2 with⟨rfl,h0'⟩|⟨g,cap,cur,rfl,_⟩
  ·exact⟨none,0,by rw[h0],fun j hj=>by omega⟩
  ·exact⟨_,_,rfl,fun j hj=>by omega⟩
 ·obtain⟨g,cap,rfl,hr,hg,_,hc⟩:=own_open h h0
  exact⟨_,_,rfl,fun j hj=>⟨g,0,rfl,hr,hg,by rw[Nat.zero_add];exact hc j _ hj (by rw[List.getElem?_map,List.getElem?_eq_getElem hj];rfl)⟩⟩
set_option maxHeartbeats 2000000 in
theorem clone_any (l:List (List UInt8)) (S:Nat->Prop) (p:Option Addr) (c:Nat) (w:World) (hl:HasS S w p l) (hn:l.length<=4294967296):
 Calls Tryz.prog 64 #[.slice p l.length c] w fun e' w'=>∃v,e'=.returned v/\w'.ownsRow w.heap.size 9 1 v l.length (l.map fun s=>Value.string (bs s))/\Below w.heap.size w w':=by
 rcases Nat.eq_zero_or_pos l.length with h0|h0
 ·obtain rfl:=List.eq_nil_of_length_eq_zero h0
  cases p with
  |none=>exact(Tryz.slices_Clone_string_nil 0 c w).mono (by rintro e w1 ⟨rfl,rfl⟩;exact⟨_,rfl,⟨rfl,Or.inl ⟨rfl,rfl⟩⟩,Below.refl _ _⟩)
  |some a=>exact(Tryz.slices_Clone_string_zero a c w).mono (by rintro e w1 ⟨v,rfl,h,_,hb⟩;exact⟨_,rfl,h,hb⟩)
 ·obtain⟨g,o,rfl,_⟩:=hl 0 h0
  have h:=Tryz.slices_Clone_string g o l.length c (l.map bs) w (by simp) (by omega) (fun j hj=>by
   rw[List.length_map]at hj
   obtain⟨g',o',he,_,_,hc⟩:=hl j hj
   simp only[Option.some.injEq,Addr.mk.injEq]at he
   obtain⟨rfl,rfl,_⟩:=he
   rw[hc,List.getD_eq_getElem?_getD,List.getElem?_map,List.getElem?_eq_getElem hj]
   rfl)
  refine h.mono ?_
  rintro e w1 ⟨v,rfl,h,_,hb⟩
  refine⟨_,rfl,?_,hb⟩
  rw[List.take_of_length_le (by simp),List.map_map]at h
  exact h
set_option maxHeartbeats 2000000 in
theorem new_any (l:List (List UInt8)) (S:Nat->Prop) (p:Option Addr) (c:Nat) (w:World) (hl:HasS S w p l) (hn:l.length<=1024):
 Calls Tryz.prog 25 #[.slice p l.length c] w fun e' w'=>∃g tp cap,e'=.returned (.tuple #[.pointer (some ⟨g,0,none⟩),.int .i64 0])/\TreeIn (fun x=>w.heap.size<=x) l g tp cap w'/\Below w.heap.size w w':=by
 have HC:=hid (clone_any l S p c w hl (by omega))
 obtain⟨n,hnl⟩:∃n,n=l.length:=⟨_,rfl⟩
 rw[←hnl]at hn HC⊢
 have HN:=hid hnl
 have hd:decide (1024<n)=false:=decide_eq_false (by omega)
 clear hl hnl
 go_enter Tryz.func25,Tryz.ntmps25
 go_wp2_with fail
 go_at_call 64
 refine HC.out.mono ?_
 rintro e w1 ⟨v,rfl,ho,hb⟩
 rw[HN.out]at ho
 obtain⟨tp,cap,rfl,hs⟩:=hasS_own ho
 rw[←HN.out]
 have HO:=hid hs
 have HB:=hid hb
 clear ho hb hs
 go_wp2
 go_ret2
 have hs:=HO.out
 rw[HN.out]
 refine⟨w1.heap.size,tp,cap,rfl,.inr ⟨HB.out.size,?_,_,IsBlk.new _ _ _⟩,HB.out.alloc HB.out.size _⟩
 have hs2:HasS (fun x=>w.heap.size<=x/\x<w1.heap.size) w1 tp l:=fun i hi=>by
  obtain⟨gg,o,q1,q2,q3,q4⟩:=hs i hi
  exact⟨gg,o,q1,⟨q2,q3⟩,q3,q4⟩
 exact hs2.ext_to (fun x hx=>⟨hx.1,by omega⟩) (fun x hx _=>((Below.refl w1.heap.size w1).alloc (Nat.le_refl _) _).block x hx.2)
theorem rsum_l (l:List UInt8) (s:ByteArray) (hs:s=bs l) (w:World) (hl:l.length<=281474976710656):
 Calls Tryz.prog 60 #[.string s] w fun e' w'=>e'=.returned (.string (bs (shaL l)))/\Below w.heap.size w w':=by
 subst hs
 exact rsum_any (bs l) w (by rw[bs_size];exact hl)
theorem rleaf_any (s:List UInt8) (w:World) (hs:s.length<=1099511627776):
 Calls Tryz.prog 104 #[.string (bs s)] w fun e' w'=>e'=.returned (.string (bs (leafL s)))/\Below w.heap.size w w':=by
 have hsz:=bs_size s
 have HS:Hid (∀x:ByteArray,x=⟨#[0]⟩++bs s->x=bs (0::s)):=hid (fun x h=>by rw[h,bs_cons];rfl)
 go_enter Tryz.func104,Tryz.ntmps104
 go_wp2_with fail
 go_at_call 60
 refine(rsum_l (0::s) _ (HS.out _ rfl) _ (by rw[List.length_cons];omega)).mono ?_
 rintro e' w1 ⟨rfl,hb⟩
 have HB:=hid hb
 clear hb
 go_wp2
 go_ret
 exact⟨rfl,HB.out⟩
theorem rnode_any (a b:List UInt8) (w:World) (ha:a.length<=1099511627776) (hb:b.length<=1099511627776):
 Calls Tryz.prog 106 #[.string (bs a),.string (bs b)] w fun e' w'=>e'=.returned (.string (bs (nodeL a b)))/\Below w.heap.size w w':=by
 have hsa:=bs_size a
 have hsb:=bs_size b
 have HS:Hid (∀x:ByteArray,x=⟨#[1]⟩++bs a++bs b->x=bs (1::(a++b))):=hid (fun x h=>by rw[h,bs_cons2];rfl)
 go_enter Tryz.func106,Tryz.ntmps106
 go_wp2_with fail
 go_at_call 60
 refine(rsum_l (1::(a++b)) _ (HS.out _ rfl) _ (by rw[List.length_cons,List.length_append];omega)).mono ?_
 rintro e' w1 ⟨rfl,hb⟩
 have HB:=hid hb
 clear hb
 go_wp2
 go_ret
 exact⟨rfl,HB.out⟩
theorem half_of {n j:Nat} (h2:2<=n) (hn:n<=1099511627776) (h:2^j<n) (h':n<=2*2^j):halfN n=2^j:=by
 obtain⟨a,b,c⟩:=bitLen_pow (n-1) (n-1) (Nat.le_refl _) (by omega) (by omega)
 unfold halfN
 obtain⟨L,hL⟩:∃L,Lib.bitLen (n-1)=L+1:=⟨Lib.bitLen (n-1)-1,by omega⟩
 rw[hL]at a b⊢
 rw[Nat.add_sub_cancel]at a⊢
 rcases Nat.lt_trichotomy j L with hj|rfl|hj
 ·have:=Nat.pow_le_pow_right (show 0<2 by omega) (show j+1<=L by omega)
  rw[Nat.pow_succ]at this
  omega
 ·rfl
 ·have:=Nat.pow_le_pow_right (show 0<2 by omega) (show L+1<=j by omega)
  omega
theorem rhalf_any (n:Nat) (h2:2<=n) (hn:n<=1099511627776) (w:World):Calls Tryz.prog 105 #[.int .i64 (n:Int)] w fun e' w'=>e'=.returned (.int .i64 (halfN n:Int))/\w=w':=by
 obtain⟨R,hR⟩:∃R,R=halfN n:=⟨_,rfl⟩
 rw[←hR]
 have HR:Hid (∀j,2^j<n->n<=2*2^j->2^j=R):=hid (fun j h1 h3=>by rw[hR,half_of h2 hn h1 h3])
 clear hR
 go_enter Tryz.func105,Tryz.ntmps105
 go_wp2
 go_loop [3] (fun v=>∃k j:Nat,v=.int .i64 (k:Int)/\k=2^j/\k<n/\1<=k) (fun v=>n-(intOf v).toNat)
 case atStart=>exact⟨1,0,rfl,rfl,by omega,by omega⟩
 case round=>
 obtain⟨k,j,rfl,hk,hkn,hk1⟩:=hrel
 have HK:=hid hk
 clear hk
 by_cases hlt:2*k<n
 ·have hltI:2*(k:Int)<(n:Int):=by omega
  go_wp2
  go_round
  case rel=>exact⟨2*k,j+1,by go_num,by rw[HK.out,Nat.pow_succ];omega,by omega,by omega⟩
  case measure=>simp[intOf];omega
 ·have hltI:(n:Int)<=2*(k:Int):=by omega
  have hr:k=R:=by have h:=HR.out j;rw[←HK.out]at h;exact h hkn (by omega)
  subst hr
  go_wp2
  go_ret
  exact⟨rfl,rfl⟩
theorem HasS.take {S:Nat->Prop} {w:World} {p:Option Addr} {l:List (List UInt8)} (h:HasS S w p l) (k:Nat):HasS S w p (l.take k):=fun i hi=>by
 have hi':i<l.length:=by rw[List.length_take]at hi;omega
 rw[List.getElem_take]
 exact h i hi'
theorem HasS.drop {S:Nat->Prop} {w:World} {g o:Nat} {l:List (List UInt8)} (h:HasS S w (some ⟨g,o,none⟩) l) (k:Nat):HasS S w (some ⟨g,o+k,none⟩) (l.drop k):=fun i hi=>by
 rw[List.length_drop]at hi
 obtain⟨g',o',h1,h2,h3,h4⟩:=h (k+i) (by omega)
 simp only[Option.some.injEq,Addr.mk.injEq]at h1
 obtain⟨rfl,rfl,_⟩:=h1
 refine⟨g,o+k,rfl,h2,h3,?_⟩
 rw[List.getElem_drop,show o+k+i=o+(k+i)by omega]
 exact h4
theorem HasS.at0 {S:Nat->Prop} {w:World} {p:Option Addr} {l:List (List UInt8)} (h:HasS S w p l) (hl:0<l.length):∃g o,p=some ⟨g,o,none⟩:=by
 obtain⟨g,o,h,_⟩:=h 0 hl
 exact⟨g,o,h⟩
def RootOk (n:Nat):Prop:=∀(l:List (List UInt8)) (S:Nat->Prop) (p:Option Addr) (c:Nat) (w:World),l.length=n->n<=c->n<=1099511627776->HasS S w p l->(∀s∈l,s.length<=1099511627776)→
 Calls Tryz.prog 74 #[.slice p n c] w fun e' w'=>e'=.returned (.string (bs (rootL l)))/\Below w.heap.size w w'
set_option maxHeartbeats 4000000 in
theorem root_step (n:Nat) (ih:∀m,m<n->RootOk m):RootOk n:=by
 intro l S p c w hl hc hn hs hts
 obtain⟨D,hD⟩:∃D,D=rootL l:=⟨_,rfl⟩
 rw[←hD]
 have HD:=hid hD
 have HS:=hid hs
 have HTS:=hid hts
 have IH:=hid ih
 have HL:=hid hl
 clear ih hts hD hs hl
 by_cases h0:n=0
 ·subst h0
  have HD2:Hid (D=shaL []):=hid (by rw[HD.out,List.eq_nil_of_length_eq_zero HL.out];rfl)
  go_enter Tryz.func74,Tryz.ntmps74
  go_wp2_with fail
  go_at_call 60
  refine(rsum_l [] _ rfl _ (by simp)).mono ?_
  rintro e' w2 ⟨he,hb⟩
  rw[←HD2.out]at he
  subst he
  have HB2:=hid hb
  clear hb
  go_wp2
  go_ret
  exact⟨rfl,HB2.out⟩
 have q0:((n:Int)==0)=false:=by rw[beq_eq_false_iff_ne];omega
 by_cases h1:n=1
 ·subst h1
  have hat:0<l.length:=by rw[HL.out];omega
  obtain⟨g,o,rfl,_,hg,hc0⟩:=HS.out 0 hat
  have hsl:=HTS.out _ (List.getElem_mem hat)
  have hdl:D=leafL l[0]:=by
   have h2:=HL.out
   rw[HD.out]
   match l,h2 with
   |[s],_=>rfl
  generalize l[0]=s at hc0 hsl hdl
  have HD2:=hid hdl
  rw[Nat.add_zero]at hc0
  clear hdl hat h0 q0
  go_enter Tryz.func74,Tryz.ntmps74
  go_wp2_with fail
  go_at_call 104
  refine(rleaf_any s _ hsl).mono ?_
  rintro e' w2 ⟨he,hb⟩
  rw[←HD2.out]at he
  subst he
  have HB2:=hid hb
  clear hb
  go_wp2
  go_ret
  exact⟨rfl,HB2.out⟩
 have q1:((n:Int)==1)=false:=by rw[beq_eq_false_iff_ne];omega
 have h2:2<=n:=by omega
 obtain⟨g,o,rfl⟩:=HS.out.at0 (by rw[HL.out];omega)
 obtain⟨ha,hb,hc1⟩:=halfN_fits h2 hn
 obtain⟨k,hk⟩:∃k,k=halfN n:=⟨_,rfl⟩
 have HK:=hid hk
 rw[←hk]at ha hb hc1
 have hroot:D=nodeL (rootL (l.take k)) (rootL (l.drop k)):=by rw[HD.out,rootL_two (by rw[HL.out];exact h2) (by rw[HL.out];exact hn),HL.out,←hk]
 have HD2:=hid hroot
 have hi1:(k:Int)<=(n:Int):=by omega
 have hi2:(k:Int)<=(c:Int):=by omega
 clear hk hroot h0 h1
 go_enter Tryz.func74,Tryz.ntmps74
 go_wp2_with fail
 go_at_call 105
 refine(rhalf_any n h2 hn _).mono ?_
 rintro e' w2 ⟨he,rfl⟩
 rw[←HK.out]at he
 subst he
 go_upto_region 7 with(fail)
 refine mixB_start [] (Cls w) (by kernel_rfl) (Cls.of ((Below.refl _ _).drew)) (fun hCw=>?_)
 refine mixB_flt (by kernel_rfl) [0,1,2,4,5,6] 4 _ _ hCw (by kernel_rfl) ?_
 simp only[opsAt,zo1,zo2,zo3,zo4,zo5]
 unfold Cls
 repeat(go_big_quiet_step (fail))
 refine wpQuiet_nil ?_
 (try rw[←Cls_def])
 refine mixB_ch (i:=3) (fuel:=3) (by kernel_rfl) (by kernel_rfl) ?_
 simp only[opsAt,zo1,zo2,zo3,zo4,zo5]
 go_wp2_with(go_at_call 74;go_at_call 74;refine(IH.out k hb (l.take k) S _ c _ (by rw[List.length_take,HL.out];omega) (by omega) (by omega) ((HS.out.take k).ext hCw.below) (fun s hs=>HTS.out s (List.mem_of_mem_take hs))).mono ?_;rintro e' w3 ⟨rfl,hb3⟩)
 refine ThenB.mk (hCw.trans hb3) (fun hCw=>?_)
 refine mixB_ch (i:=7) (fuel:=2) (by kernel_rfl) (by kernel_rfl) ?_
 simp only[opsAt,zo1,zo2,zo3,zo4,zo5]
 go_wp2_with(go_at_call 74;go_at_call 74;refine(IH.out (n-k) (by omega) (l.drop k) S _ (c-k) _ (by rw[List.length_drop,HL.out]) (by omega) (by omega) ((HS.out.drop k).ext hCw.below) (fun s hs=>HTS.out s (List.mem_of_mem_drop hs))).mono ?_;rintro e' w7 ⟨rfl,hb7⟩)
 refine ThenB.mk (hCw.trans hb7) (fun hCw=>?_)
 refine mixB_ch (i:=8) (fuel:=1) (by kernel_rfl) (by kernel_rfl) ?_
 simp only[opsAt,zo1,zo2,zo3,zo4,zo5]
 go_wp2_with(go_at_call 106;refine(rnode_any _ _ _ (by rw[rootL_len];omega) (by rw[rootL_len];omega)).mono ?_;rintro e' w8 ⟨he,hb8⟩;rw[←HD2.out]at he;subst he)
 refine ThenB.mk (hCw.trans hb8) (fun hCw=>?_)
 refine mixB_flt (by kernel_rfl) [9] 0 _ _ hCw (by kernel_rfl) ?_
 simp only[opsAt,zo1,zo2,zo3,zo4,zo5]
 unfold Cls
 repeat(go_big_quiet_step (fail))
 refine wpQuiet_nil ?_
 (try rw[←Cls_def])
 refine mixB_end [] (by kernel_rfl) ?_
 refine wpList_nil ?_
 refine Calm.normal ?_
 have HB:=hid hCw.below
 clear hb3 hb7 hb8
 go_wp2
 go_ret
 exact⟨rfl,HB.out⟩
theorem rroot_all :∀m n,n<m->RootOk n:=by
 intro m
 induction m with
 |zero=>intro n h;omega
 |succ m ih=>intro n h;exact root_step n (fun j hj=>ih j (by omega))
theorem rroot_any (l:List (List UInt8)) (S:Nat->Prop) (p:Option Addr) (c:Nat) (w:World) (hc:l.length<=c) (hn:l.length<=1099511627776) (hs:HasS S w p l) (hts:∀s∈l,s.length<=1099511627776):
 Calls Tryz.prog 74 #[.slice p l.length c] w fun e' w'=>e'=.returned (.string (bs (rootL l)))/\Below w.heap.size w w':=rroot_all _ _ (Nat.lt_succ_self _) l S p c w rfl hc hn hs hts
theorem bs_beq (a b:List UInt8):((bs a).toList==(bs b).toList)=decide (a=b):=by
 rw[tl_bs,tl_bs,Bool.eq_iff_iff,beq_iff_eq,decide_eq_true_iff]
set_option maxHeartbeats 2000000 in
theorem same_any (l m:List (List UInt8)) (S S':Nat->Prop) (p q:Option Addr) (c d:Nat) (w:World) (hl:HasS S w p l) (hm:HasS S' w q m) (hn:l.length<=1099511627776) (hn':m.length<=1099511627776):
 Calls Tryz.prog 51 #[.slice p l.length c,.slice q m.length d] w fun e' w'=>e'=.returned (.bool (decide (l=m)))/\Below w.heap.size w w':=by
 obtain⟨R,hR⟩:∃R,R=decide (l=m):=⟨_,rfl⟩
 rw[←hR]
 have HR:=hid hR
 have HL:=hid hl
 have HM:=hid hm
 obtain⟨n,hn1⟩:∃n,n=l.length:=⟨_,rfl⟩
 obtain⟨n',hn2⟩:∃n',n'=m.length:=⟨_,rfl⟩
 rw[←hn1]at hn⊢
 rw[←hn2]at hn'⊢
 have HN:=hid hn1
 have HN':=hid hn2
 clear hl hm hR hn1 hn2
 by_cases hne:n=n'
 case neg=>
  have HR2:Hid (R=false):=hid (by rw[HR.out,decide_eq_false];intro e;apply hne;rw[HN.out,HN'.out,e])
  have hneI:((n:Int) !=(n':Int))=true:=by rw[bne_iff_ne];omega
  clear hne
  go_enter Tryz.func51,Tryz.ntmps51
  go_wp2
  go_ret
  exact⟨by rw[HR2.out];rfl,Below.refl _ _⟩
 subst hne
 go_enter Tryz.func51,Tryz.ntmps51
 go_wp2
 go_loopw [13] (fun v wr=>∃j:Nat,v=.int .i64 (j:Int)/\j<=n/\l.take j=m.take j/\Below w.heap.size w wr) (fun v _=>n-(intOf v).toNat)
 case atStart=>exact⟨0,rfl,by omega,rfl,Below.refl _ _⟩
 case round=>
 obtain⟨j,rfl,hj,hrel,hbw⟩:=hrel
 have HREL:=hid hrel
 have HBW:=hid hbw
 clear hrel hbw
 by_cases hlt:j<n
 ·have hj1:j<l.length:=by rw[←HN.out];exact hlt
  have hj2:j<m.length:=by rw[←HN'.out];exact hlt
  obtain⟨g1,o1,hp1,_,hg1,hc1⟩:=(HL.out.ext HBW.out) j hj1
  obtain⟨g2,o2,hp2,_,hg2,hc2⟩:=(HM.out.ext HBW.out) j hj2
  have hl1:l.take (j+1)=l.take j++[l[j]]:=by rw[List.take_add_one,List.getElem?_eq_getElem hj1];rfl
  have hm1:m.take (j+1)=m.take j++[m[j]]:=by rw[List.take_add_one,List.getElem?_eq_getElem hj2];rfl
  have hno:l[j]≠m[j]->R=false:=fun h=>by
   rw[HR.out]
   refine decide_eq_false (fun e=>h ?_)
   subst e
   rfl
  have hyes:l[j]=m[j]->l.take (j+1)=m.take (j+1):=fun h=>by rw[hl1,hm1,HREL.out,h]
  generalize l[j]=a at hc1 hno hyes
  generalize m[j]=b at hc2 hno hyes
  have HNO:=hid hno
  have HYES:=hid hyes
  have hab:=bs_beq a b
  clear hl1 hm1 hno hyes
  subst hp1
  subst hp2
  by_cases he:a=b
  ·rw[decide_eq_true he]at hab
   have HY:=hid (HYES.out he)
   clear he HYES HNO
   go_upto_region 6 with(fail)
   refine mixB_start [] (Cls wr) (by kernel_rfl) (Cls.of ((Below.refl _ _).drew)) (fun hCw=>?_)
   refine mixB_flt (by kernel_rfl) [0,1,2,3,4,5,6,7,8] 0 _ _ hCw (by kernel_rfl) ?_
   simp only[opsAt,zo1,zo2,zo3,zo4,zo5]
   unfold Cls
   repeat(go_big_quiet_step (fail))
   refine wpQuiet_nil ?_
   (try rw[←Cls_def])
   refine mixB_end [] (by kernel_rfl) ?_
   refine wpList_nil ?_
   refine Calm.normal ?_
   go_wp2
   exact⟨⟨j+1,by go_num,by omega,HY.out,HBW.out.drew⟩,by simp[intOf];omega⟩
  ·rw[decide_eq_false he]at hab
   have HR2:=hid (HNO.out he)
   clear he HYES HNO
   go_upto_region 6 with(fail)
   refine mixB_start [] (Cls wr) (by kernel_rfl) (Cls.of ((Below.refl _ _).drew)) (fun hCw=>?_)
   refine mixB_flt (by kernel_rfl) [0,1,2,3,4,5,6,7,8] 0 _ _ hCw (by kernel_rfl) ?_
   simp only[opsAt,zo1,zo2,zo3,zo4,zo5]
   unfold Cls
   repeat(go_big_quiet_step (fail))
   refine wpQuiet_nil ?_
   (try rw[←Cls_def])
   refine mixB_end [] (by kernel_rfl) ?_
   refine wpList_nil ?_
   refine Calm.normal ?_
   go_wp2
   go_ret
   exact⟨by rw[HR2.out];rfl,HBW.out.drew⟩
 ·have hr:R=true:=by
   rw[HR.out]
   refine decide_eq_true ?_
   have h:=HREL.out
   rw[List.take_of_length_le (by rw[←HN.out];omega),List.take_of_length_le (by rw[←HN'.out];omega)]at h
   exact h
  have HR2:=hid hr
  clear hr
  go_wp2
  go_ret
  exact⟨by rw[HR2.out];rfl,HBW.out⟩
end Go.Proofs.YtcihbnpckicljaaGreatDoor
