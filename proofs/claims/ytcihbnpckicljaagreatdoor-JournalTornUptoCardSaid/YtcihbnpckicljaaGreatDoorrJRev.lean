/- journal's revisions: checkRev, RevText. Conditions: a revision lies in memory; its texts no longer than 2^36 bytes; utf8's tables read as the text lays them. -/
import Derived.Test.YtcihbnpckicljaaGreatDoorrJSmall
import Derived.MapKept
import Derived.Maps.Own
set_option linter.unusedVariables false
set_option linter.unusedSimpArgs false
namespace Go.Proofs.YtcihbnpckicljaaGreatDoor
open Go Go.RowKit Go.BigFrame
open Go.Lib(hid)
set_option maxRecDepth 100000
def kEnt (k q c:Nat):MapEntry:={key:=.int .u8 (k:Int),val:=.int .u8 (q:Int),born:=c}
def kEs (j:Nat):List MapEntry:=([kEnt 1 0 0,kEnt 2 3 1,kEnt 3 6 2,kEnt 4 0 3]:List MapEntry).take j
theorem alloc_set (w:World) (o o':Obj):({w.alloc o with heap:=(w.alloc o).heap.setIfInBounds w.heap.size o'}:World)=w.alloc o':=by
 have e:∀o,w.alloc o={w with heap:=w.heap.push o}:=fun o=>rfl
 have h:(w.heap.push o).setIfInBounds w.heap.size o'=w.heap.push o':=by
  apply Array.ext_getElem?
  intro i
  rw[Array.getElem?_setIfInBounds,Array.getElem?_push,Array.getElem?_push]
  by_cases hi:w.heap.size=i
  ·subst hi;simp
  ·rw[if_neg hi,if_neg (fun h=>hi h.symm),if_neg (fun h=>hi h.symm)]
 rw[e,e]
 show({w with heap:=(w.heap.push o).setIfInBounds w.heap.size o'}:World)=_
 rw[h]
theorem alloc_get (w:World) (o:Obj):(w.alloc o).heap[w.heap.size]?=some o:=by
 show(w.heap.push o)[w.heap.size]?=some o
 simp
theorem underRev :Tryz.prog.underlying 47=some (.int .u8):=by kernel_rfl
theorem upd_rev (w:World) (j:Nat) (k q:Int) (h:(j=0/\k=1/\q=0)\/(j=1/\k=2/\q=3)\/(j=2/\k=3/\q=6)\/(j=3/\k=4/\q=0)):
 (Instr.mapUpdate 141 (.map (some w.heap.size)) (.int .u8 k) (.int .u8 q)).run Tryz.prog (w.alloc (.map (kEs j).toArray j))=.ok () (w.alloc (.map (kEs (j+1)).toArray (j+1))):=by
 have hb:=alloc_get w (.map (kEs j).toArray j)
 have hf:Instr.findNow (.int .u8) (.int .u8 k) (kEs j) 0=some none:=by
  rcases h with⟨rfl,rfl,rfl⟩|⟨rfl,rfl,rfl⟩|⟨rfl,rfl,rfl⟩|⟨rfl,rfl,rfl⟩<;>rfl
 have hp:(kEs j).toArray.push {key:=.int .u8 k,val:=.int .u8 q,born:=j}=(kEs (j+1)).toArray:=by
  rcases h with⟨rfl,rfl,rfl⟩|⟨rfl,rfl,rfl⟩|⟨rfl,rfl,rfl⟩|⟨rfl,rfl,rfl⟩<;>rfl
 have hs:=alloc_set w (.map (kEs j).toArray j) (.map (kEs (j+1)).toArray (j+1))
 have hc:∀e,(Instr.checkKey e 10000 47 (.int .u8 k)).run Tryz.prog (w.alloc (.map (kEs j).toArray j))=.ok () (w.alloc (.map (kEs j).toArray j)):=fun e=>MapKept.run_checkKey underRev (by simp[MapKept.IsKey]) e 9999
 unfold Instr.mapUpdate
 simp only[Sem.run_bind,run_underlying Tryz.underlying141,Result.andThen_ok,MapKept.run_getObj_map hb,hc,MapKept.run_findKey underRev hf,hp]
 rw[←hs]
 exact MapKept.run_setObj_map _ hb
theorem look_rev (w:World) (b:Nat) (hb:w.heap[b]?=some (.map (kEs 4).toArray 4)) (k:Nat) (q:Option Nat) (h:(k=1/\q=some 0)\/(k=2/\q=some 3)\/(k=3/\q=some 6)\/(k=4/\q=some 0)\/(k≠1/\k≠2/\k≠3/\k≠4/\q=none)):
 (Instr.lookup 141 (.map (some b)) (.int .u8 (k:Int)) true).run Tryz.prog w=.ok (.tuple #[.int .u8 ((q.getD 0:Nat):Int),.bool q.isSome]) w:=by
 have hf:∃r,Instr.findNow (.int .u8) (.int .u8 (k:Int)) (kEs 4) 0=some r/\r.map (·.2)=q.map fun x=>Value.int .u8 (x:Int):=by
  rcases h with⟨rfl,rfl⟩|⟨rfl,rfl⟩|⟨rfl,rfl⟩|⟨rfl,rfl⟩|⟨h1,h2,h3,h4,rfl⟩
  ·exact⟨_,rfl,rfl⟩
  ·exact⟨_,rfl,rfl⟩
  ·exact⟨_,rfl,rfl⟩
  ·exact⟨_,rfl,rfl⟩
  ·refine⟨none,?_,rfl⟩
   have e1:((k:Int)==1)=false:=by rw[beq_eq_false_iff_ne];omega
   have e2:((k:Int)==2)=false:=by rw[beq_eq_false_iff_ne];omega
   have e3:((k:Int)==3)=false:=by rw[beq_eq_false_iff_ne];omega
   have e4:((k:Int)==4)=false:=by rw[beq_eq_false_iff_ne];omega
   simp[Instr.findNow,kEs,kEnt,Instr.sameNow,e1,e2,e3,e4]
 obtain⟨r,hf,hr⟩:=hf
 have hc:∀e,(Instr.checkKey e 10000 47 (.int .u8 (k:Int))).run Tryz.prog w=.ok () w:=fun e=>MapKept.run_checkKey underRev (by simp[MapKept.IsKey]) e 9999
 have hz:(zeroValue 48).run Tryz.prog w=.ok (.int .u8 0) w:=by kernel_rfl
 unfold Instr.lookup
 simp only[Sem.run_bind,run_underlying Tryz.underlying141,Result.andThen_ok,MapKept.run_getObj_map hb,hc,Sem.run_pure,MapKept.run_findKey underRev hf]
 cases r with
 |none=>
  cases q with
  |none=>simp[hz,Sem.run_bind]
  |some x=>cases hr
 |some r=>
  obtain⟨i,v⟩:=r
  cases q with
  |none=>cases hr
  |some x=>
   obtain rfl:=Option.some.inj hr
   simp
theorem wantK_none {k:Nat} (h:wantK k=none):k≠1/\k≠2/\k≠3/\k≠4:=by
 refine⟨?_,?_,?_,?_⟩<;>(rintro rfl;revert h;decide)
set_option maxHeartbeats 4000000 in
theorem chkR_none (r:DRev) (S:Nat->Prop) (cs:List Value) (w:World) (hr:HasRev S w r cs) (hq:wantK r.k=none):
 Calls Tryz.prog 63 #[.agg cs.toArray] w fun e' w'=>e'=.returned (.int .i64 5)/\Below w.heap.size w w':=by
 obtain⟨k,t,d,n,v⟩:=r
 obtain⟨cs',rfl,_,hv⟩:=hr
 obtain⟨vk,vb,vn,vs,vl,vf⟩:=v
 obtain⟨pl,cl,pf,cf,rfl,_⟩:=hasVal_mk.1 hv
 obtain⟨n1,n2,n3,n4⟩:=wantK_none hq
 show Calls Tryz.prog 63 #[.agg #[.int .u8 (k:Int),.string (bs t),.int .u64 (d:Int),.int .u64 (n:Int),.int .u8 (vk:Int),.bool vb,.int .i64 vn,.string (bs vs),.slice pl vl.length cl,.slice pf vf.length cf]] w _
 have hmm:= @run_makeMap Tryz.prog
 obtain⟨W,hW⟩:∃W,W=w.alloc (.cells #[.int .u8 (k:Int),.string (bs t),.int .u64 (d:Int),.int .u64 (n:Int),.int .u8 (vk:Int),.bool vb,.int .i64 vn,.string (bs vs),.slice pl vl.length cl,.slice pf vf.length cf] 54):=⟨_,rfl⟩
 have hz:W.heap.size=w.heap.size+1:=by rw[hW];simp
 have hu0:=upd_rev W 0 1 0 (.inl ⟨rfl,rfl,rfl⟩)
 have hu1:=upd_rev W 1 2 3 (.inr (.inl ⟨rfl,rfl,rfl⟩))
 have hu2:=upd_rev W 2 3 6 (.inr (.inr (.inl ⟨rfl,rfl,rfl⟩)))
 have hu3:=upd_rev W 3 4 0 (.inr (.inr (.inr ⟨rfl,rfl,rfl⟩)))
 have hlk:=look_rev (W.alloc (.map (kEs 4).toArray 4)) W.heap.size (alloc_get _ _) k none (.inr (.inr (.inr (.inr ⟨n1,n2,n3,n4,rfl⟩))))
 rw[hz,hW]at hu0 hu1 hu2 hu3 hlk
 clear hz hW
 clear W
 have hk0:kEs 0=[]:=rfl
 rw[hk0]at hu0
 have e3:((k:Int)==3)=false:=by rw[beq_eq_false_iff_ne];have:k≠3:=n3;omega
 have e4:((k:Int)==4)=false:=by rw[beq_eq_false_iff_ne];have:k≠4:=n4;omega
 clear n1 n2 n3 n4 hq hv hk0
 go_enter Tryz.func63,Tryz.ntmps63
 go_wp2
 go_ret
 exact⟨rfl,((Below.refl _ _).alloc (Nat.le_refl _) _).alloc (by simp) _⟩
set_option maxHeartbeats 8000000 in
theorem chkR_1 (t:List UInt8) (d n:Nat) (v:DVal) (S:Nat->Prop) (cs:List Value) (w:World) (hr:HasRev S w ⟨1,t,d,n,v⟩ cs) (hT:U8T w):
 Calls Tryz.prog 63 #[.agg cs.toArray] w fun e' w'=>e'=.returned (.int .i64 (checkR ⟨1,t,d,n,v⟩))/\Below w.heap.size w w':=by
 obtain⟨cs',rfl,⟨_,htl,hdl,hnl⟩,hv⟩:=hr
 have htl':t.length<=1073741824:=htl
 obtain⟨R,hR⟩:∃R,R=checkR ⟨1,t,d,n,v⟩:=⟨_,rfl⟩
 rw[←hR]
 have hR':R=if t=[]then 4 else if utfE t≠0 then utfE t else if 4611686018427387904<max d n\/(1<3/\0<max d n)then 2 else if checkV 0 v≠0 then checkV 0 v else if kindV v≠0 then 5 else 0:=hR
 have HR:=hid hR'
 have HV:=hid hv
 have HT:=hid hT
 have hsz:=bs_size t
 obtain⟨C,hC⟩:∃C,C=checkV 0 v:=⟨_,rfl⟩
 have HCV:Hid (∀w',Below w.heap.size w w'->Calls Tryz.prog 87 #[.agg cs'.toArray] w' fun e' w2=>e'=.returned (.int .i64 C)/\Below w'.heap.size w' w2):=hid (fun w' hb=>by rw[hC];exact check_any v S cs' w' (hv.ext hb) (U8T_ext hT hb))
 obtain⟨U,hU⟩:∃U,U=utfE t:=⟨_,rfl⟩
 have HU:Hid (∀w',Below w.heap.size w w'->Calls Tryz.prog 93 #[.string (bs t)] w' fun e' w2=>e'=.returned (.int .i64 U)/\Below w'.heap.size w' w2):=hid (fun w' hb=>by rw[hU];exact utf_any t w' (by omega) (U8T_ext hT hb))
 rw[←hC,←hU]at HR
 clear hR hR' hT hC hU
 obtain⟨vk,vb,vn,vs,vl,vf⟩:=v
 obtain⟨pl,cl,pf,cf,rfl,_⟩:=hasVal_mk.1 hv
 have hkv:kindV (.mk vk vb vn vs vl vf)=vk:=rfl
 rw[hkv]at HR
 show Calls Tryz.prog 63 #[.agg #[.int .u8 1,.string (bs t),.int .u64 (d:Int),.int .u64 (n:Int),.int .u8 (vk:Int),.bool vb,.int .i64 vn,.string (bs vs),.slice pl vl.length cl,.slice pf vf.length cf]] w _
 have hmm:= @run_makeMap Tryz.prog
 obtain⟨W,hW⟩:∃W,W=w.alloc (.cells #[.int .u8 1,.string (bs t),.int .u64 (d:Int),.int .u64 (n:Int),.int .u8 (vk:Int),.bool vb,.int .i64 vn,.string (bs vs),.slice pl vl.length cl,.slice pf vf.length cf] 54):=⟨_,rfl⟩
 have hz:W.heap.size=w.heap.size+1:=by rw[hW];simp
 have hu0:=upd_rev W 0 1 0 (.inl ⟨rfl,rfl,rfl⟩)
 have hu1:=upd_rev W 1 2 3 (.inr (.inl ⟨rfl,rfl,rfl⟩))
 have hu2:=upd_rev W 2 3 6 (.inr (.inr (.inl ⟨rfl,rfl,rfl⟩)))
 have hu3:=upd_rev W 3 4 0 (.inr (.inr (.inr ⟨rfl,rfl,rfl⟩)))
 have hlk:(Instr.lookup 141 (.map (some W.heap.size)) (.int .u8 1) true).run Tryz.prog (W.alloc (.map (kEs 4).toArray 4))=.ok (.tuple #[.int .u8 0,.bool true]) (W.alloc (.map (kEs 4).toArray 4)):=
  look_rev (W.alloc (.map (kEs 4).toArray 4)) W.heap.size (alloc_get _ _) 1 (some 0) (by decide)
 have hb1:Below w.heap.size w (W.alloc (.map (kEs 4).toArray 4)):=by rw[hW];exact((Below.refl _ _).alloc (Nat.le_refl _) _).alloc (by simp) _
 have hblk:IsBlk (W.alloc (.map (kEs 4).toArray 4)) w.heap.size #[.int .u8 1,.string (bs t),.int .u64 (d:Int),.int .u64 (n:Int),.int .u8 (vk:Int),.bool vb,.int .i64 vn,.string (bs vs),.slice pl vl.length cl,.slice pf vf.length cf] 54:=by rw[hW];exact(IsBlk.new _ _ _).alloc _
 rw[hz,hW]at hu0 hu1 hu2 hu3 hlk
 rw[hW]at hb1 hblk
 clear hz hW
 clear W
 have hk0:kEs 0=[]:=rfl
 rw[hk0]at hu0
 have HB1:=hid hb1
 have HBK:=hid hblk
 clear hv hk0 hb1 hblk hkv
 go_enter Tryz.func63,Tryz.ntmps63
 go_upto_region 4 with(fail)
 clear hu0 hu1 hu2 hu3 hlk hmm
 generalize hW1:World.alloc _ _=W1 at HB1 HBK
 clear hW1
 have hd1:=HBK.out
 have hlt:=hd1.lt
 have x0:=hd1.cell (i:=0) rfl
 have x1:=hd1.cell (i:=1) rfl
 have x2:=hd1.cell (i:=2) rfl
 have x3:=hd1.cell (i:=3) rfl
 have x4:=hd1.cell (i:=4) rfl
 have x5:=hd1.cell (i:=5) rfl
 have x6:=hd1.cell (i:=6) rfl
 have x7:=hd1.cell (i:=7) rfl
 have x8:=hd1.cell (i:=8) rfl
 have x9:=hd1.cell (i:=9) rfl
 clear hd1
 by_cases h0:t=[]
 ·have HR2:Hid (R=4):=hid (by rw[HR.out,if_pos h0])
  have he:((bs t).toList==([]:List UInt8))=true:=by rw[tl_bs,h0];rfl
  clear h0
  go_wp2
  go_ret
  exact⟨by rw[HR2.out];rfl,HB1.out⟩
 have he:((bs t).toList==([]:List UInt8))=false:=by rw[tl_bs];simpa using h0
 have HR2:Hid (R=if U≠0 then U else if 4611686018427387904<max d n\/(1<3/\0<max d n)then 2 else if C≠0 then C else if vk≠0 then 5 else 0):=hid (by rw[HR.out,if_neg h0])
 clear h0 HR
 go_wp2_with fail
 go_at_call 93
 refine(HU.out _ HB1.out).mono ?_
 rintro e' w2 ⟨rfl,hb2⟩
 have HB2:=hid (HB1.out.trans (hb2.mono HB1.out.size))
 have hd2:=HBK.out.ext hb2
 have HBK2:=hid hd2
 clear x0 x1 x2 x3 x4 x5 x6 x7 x8 x9 hb2 hlt HBK
 have hlt:=hd2.lt
 have x0:=hd2.cell (i:=0) rfl
 have x1:=hd2.cell (i:=1) rfl
 have x2:=hd2.cell (i:=2) rfl
 have x3:=hd2.cell (i:=3) rfl
 have x4:=hd2.cell (i:=4) rfl
 have x5:=hd2.cell (i:=5) rfl
 have x6:=hd2.cell (i:=6) rfl
 have x7:=hd2.cell (i:=7) rfl
 have x8:=hd2.cell (i:=8) rfl
 have x9:=hd2.cell (i:=9) rfl
 clear hd2
 by_cases hu:U=0
 case neg=>
  have hub:(U !=0)=true:=by rw[bne_iff_ne];exact hu
  have HR3:Hid (R=U):=hid (by rw[HR2.out,if_pos hu])
  clear hu HR2
  go_wp2_with fail
  go_at_call 93
  refine(HU.out _ HB2.out).mono ?_
  rintro e' w3 ⟨rfl,hb3⟩
  have HB3:=hid (HB2.out.trans (hb3.mono HB2.out.size))
  clear hb3
  go_wp2
  go_ret
  exact⟨by rw[HR3.out];rfl,HB3.out⟩
 subst hu
 have HR3:Hid (R=if 4611686018427387904<max d n\/(1<3/\0<max d n)then 2 else if C≠0 then C else if vk≠0 then 5 else 0):=hid (by rw[HR2.out,if_neg (by simp)])
 clear HR2
 by_cases hm:4611686018427387904<max d n
 ·have hmI:(4611686018427387904:Int)<max (d:Int) (n:Int):=by omega
  have HR4:Hid (R=2):=hid (by rw[HR3.out,if_pos (.inl hm)])
  clear hm HR3
  go_wp2
  go_ret
  exact⟨by rw[HR4.out];rfl,HB2.out⟩
 have hmI:max (d:Int) (n:Int)<=4611686018427387904:=by omega
 by_cases hz:1<3/\0<max d n
 ·have hzI:(0:Int)<max (d:Int) (n:Int):=by omega
  have HR4:Hid (R=2):=hid (by rw[HR3.out,if_pos (.inr hz)])
  have hk3:1<3:=hz.1
  clear hm HR3 hz
  first
  |(exfalso;omega)
  |(go_wp2
    go_ret
    exact⟨by rw[HR4.out];rfl,HB2.out⟩)
 have hzI:1<3->max (d:Int) (n:Int)<=0:=fun h=>by omega
 have HR4:Hid (R=if C≠0 then C else if vk≠0 then 5 else 0):=hid (by rw[HR3.out,if_neg (by omega)])
 try replace hzI:=hzI (by omega)
 clear hm hz HR3
 go_wp2_with fail
 go_at_call 87
 refine(HCV.out _ HB2.out).mono ?_
 rintro e' w3 ⟨rfl,hb3⟩
 have HB3:=hid (HB2.out.trans (hb3.mono HB2.out.size))
 have hd3:=HBK2.out.ext hb3
 clear x0 x1 x2 x3 x4 x5 x6 x7 x8 x9 hb3 hlt HBK2
 have hlt:=hd3.lt
 have x0:=hd3.cell (i:=0) rfl
 have x1:=hd3.cell (i:=1) rfl
 have x2:=hd3.cell (i:=2) rfl
 have x3:=hd3.cell (i:=3) rfl
 have x4:=hd3.cell (i:=4) rfl
 have x5:=hd3.cell (i:=5) rfl
 have x6:=hd3.cell (i:=6) rfl
 have x7:=hd3.cell (i:=7) rfl
 have x8:=hd3.cell (i:=8) rfl
 have x9:=hd3.cell (i:=9) rfl
 clear hd3
 by_cases hc:C=0
 case neg=>
  have hcb:(C !=0)=true:=by rw[bne_iff_ne];exact hc
  have HR5:Hid (R=C):=hid (by rw[HR4.out,if_pos hc])
  clear hc HR4
  go_wp2
  go_ret
  exact⟨by rw[HR5.out];rfl,HB3.out⟩
 subst hc
 by_cases hk:vk=0
 ·subst hk
  have HR5:Hid (R=0):=hid (by rw[HR4.out,if_neg (by simp),if_neg (by simp)])
  clear HR4
  go_wp2
  go_ret
  exact⟨by rw[HR5.out];rfl,HB3.out⟩
 ·have hkb:((vk:Int) !=0)=true:=by rw[bne_iff_ne];omega
  have HR5:Hid (R=5):=hid (by rw[HR4.out,if_neg (by simp),if_pos hk])
  clear HR4 hk
  go_wp2
  go_ret
  exact⟨by rw[HR5.out];rfl,HB3.out⟩
set_option maxHeartbeats 8000000 in
theorem chkR_2 (t:List UInt8) (d n:Nat) (v:DVal) (S:Nat->Prop) (cs:List Value) (w:World) (hr:HasRev S w ⟨2,t,d,n,v⟩ cs) (hT:U8T w):
 Calls Tryz.prog 63 #[.agg cs.toArray] w fun e' w'=>e'=.returned (.int .i64 (checkR ⟨2,t,d,n,v⟩))/\Below w.heap.size w w':=by
 obtain⟨cs',rfl,⟨_,htl,hdl,hnl⟩,hv⟩:=hr
 have htl':t.length<=1073741824:=htl
 obtain⟨R,hR⟩:∃R,R=checkR ⟨2,t,d,n,v⟩:=⟨_,rfl⟩
 rw[←hR]
 have hR':R=if t=[]then 4 else if utfE t≠0 then utfE t else if 4611686018427387904<max d n\/(2<3/\0<max d n)then 2 else if checkV 0 v≠0 then checkV 0 v else if kindV v≠3 then 5 else 0:=hR
 have HR:=hid hR'
 have HV:=hid hv
 have HT:=hid hT
 have hsz:=bs_size t
 obtain⟨C,hC⟩:∃C,C=checkV 0 v:=⟨_,rfl⟩
 have HCV:Hid (∀w',Below w.heap.size w w'->Calls Tryz.prog 87 #[.agg cs'.toArray] w' fun e' w2=>e'=.returned (.int .i64 C)/\Below w'.heap.size w' w2):=hid (fun w' hb=>by rw[hC];exact check_any v S cs' w' (hv.ext hb) (U8T_ext hT hb))
 obtain⟨U,hU⟩:∃U,U=utfE t:=⟨_,rfl⟩
 have HU:Hid (∀w',Below w.heap.size w w'->Calls Tryz.prog 93 #[.string (bs t)] w' fun e' w2=>e'=.returned (.int .i64 U)/\Below w'.heap.size w' w2):=hid (fun w' hb=>by rw[hU];exact utf_any t w' (by omega) (U8T_ext hT hb))
 rw[←hC,←hU]at HR
 clear hR hR' hT hC hU
 obtain⟨vk,vb,vn,vs,vl,vf⟩:=v
 obtain⟨pl,cl,pf,cf,rfl,_⟩:=hasVal_mk.1 hv
 have hkv:kindV (.mk vk vb vn vs vl vf)=vk:=rfl
 rw[hkv]at HR
 show Calls Tryz.prog 63 #[.agg #[.int .u8 2,.string (bs t),.int .u64 (d:Int),.int .u64 (n:Int),.int .u8 (vk:Int),.bool vb,.int .i64 vn,.string (bs vs),.slice pl vl.length cl,.slice pf vf.length cf]] w _
 have hmm:= @run_makeMap Tryz.prog
 obtain⟨W,hW⟩:∃W,W=w.alloc (.cells #[.int .u8 2,.string (bs t),.int .u64 (d:Int),.int .u64 (n:Int),.int .u8 (vk:Int),.bool vb,.int .i64 vn,.string (bs vs),.slice pl vl.length cl,.slice pf vf.length cf] 54):=⟨_,rfl⟩
 have hz:W.heap.size=w.heap.size+1:=by rw[hW];simp
 have hu0:=upd_rev W 0 1 0 (.inl ⟨rfl,rfl,rfl⟩)
 have hu1:=upd_rev W 1 2 3 (.inr (.inl ⟨rfl,rfl,rfl⟩))
 have hu2:=upd_rev W 2 3 6 (.inr (.inr (.inl ⟨rfl,rfl,rfl⟩)))
 have hu3:=upd_rev W 3 4 0 (.inr (.inr (.inr ⟨rfl,rfl,rfl⟩)))
 have hlk:(Instr.lookup 141 (.map (some W.heap.size)) (.int .u8 2) true).run Tryz.prog (W.alloc (.map (kEs 4).toArray 4))=.ok (.tuple #[.int .u8 3,.bool true]) (W.alloc (.map (kEs 4).toArray 4)):=
  look_rev (W.alloc (.map (kEs 4).toArray 4)) W.heap.size (alloc_get _ _) 2 (some 3) (by decide)
 have hb1:Below w.heap.size w (W.alloc (.map (kEs 4).toArray 4)):=by rw[hW];exact((Below.refl _ _).alloc (Nat.le_refl _) _).alloc (by simp) _
 have hblk:IsBlk (W.alloc (.map (kEs 4).toArray 4)) w.heap.size #[.int .u8 2,.string (bs t),.int .u64 (d:Int),.int .u64 (n:Int),.int .u8 (vk:Int),.bool vb,.int .i64 vn,.string (bs vs),.slice pl vl.length cl,.slice pf vf.length cf] 54:=by rw[hW];exact(IsBlk.new _ _ _).alloc _
 rw[hz,hW]at hu0 hu1 hu2 hu3 hlk
 rw[hW]at hb1 hblk
 clear hz hW
 clear W
 have hk0:kEs 0=[]:=rfl
 rw[hk0]at hu0
 have HB1:=hid hb1
 have HBK:=hid hblk
 clear hv hk0 hb1 hblk hkv
 go_enter Tryz.func63,Tryz.ntmps63
 go_upto_region 4 with(fail)
 clear hu0 hu1 hu2 hu3 hlk hmm
 generalize hW1:World.alloc _ _=W1 at HB1 HBK
 clear hW1
 have hd1:=HBK.out
 have hlt:=hd1.lt
 have x0:=hd1.cell (i:=0) rfl
 have x1:=hd1.cell (i:=1) rfl
 have x2:=hd1.cell (i:=2) rfl
 have x3:=hd1.cell (i:=3) rfl
 have x4:=hd1.cell (i:=4) rfl
 have x5:=hd1.cell (i:=5) rfl
 have x6:=hd1.cell (i:=6) rfl
 have x7:=hd1.cell (i:=7) rfl
 have x8:=hd1.cell (i:=8) rfl
 have x9:=hd1.cell (i:=9) rfl
 clear hd1
 by_cases h0:t=[]
 ·have HR2:Hid (R=4):=hid (by rw[HR.out,if_pos h0])
  have he:((bs t).toList==([]:List UInt8))=true:=by rw[tl_bs,h0];rfl
  clear h0
  go_wp2
  go_ret
  exact⟨by rw[HR2.out];rfl,HB1.out⟩
 have he:((bs t).toList==([]:List UInt8))=false:=by rw[tl_bs];simpa using h0
 have HR2:Hid (R=if U≠0 then U else if 4611686018427387904<max d n\/(2<3/\0<max d n)then 2 else if C≠0 then C else if vk≠3 then 5 else 0):=hid (by rw[HR.out,if_neg h0])
 clear h0 HR
 go_wp2_with fail
 go_at_call 93
 refine(HU.out _ HB1.out).mono ?_
 rintro e' w2 ⟨rfl,hb2⟩
 have HB2:=hid (HB1.out.trans (hb2.mono HB1.out.size))
 have hd2:=HBK.out.ext hb2
 have HBK2:=hid hd2
 clear x0 x1 x2 x3 x4 x5 x6 x7 x8 x9 hb2 hlt HBK
 have hlt:=hd2.lt
 have x0:=hd2.cell (i:=0) rfl
 have x1:=hd2.cell (i:=1) rfl
 have x2:=hd2.cell (i:=2) rfl
 have x3:=hd2.cell (i:=3) rfl
 have x4:=hd2.cell (i:=4) rfl
 have x5:=hd2.cell (i:=5) rfl
 have x6:=hd2.cell (i:=6) rfl
 have x7:=hd2.cell (i:=7) rfl
 have x8:=hd2.cell (i:=8) rfl
 have x9:=hd2.cell (i:=9) rfl
 clear hd2
 by_cases hu:U=0
 case neg=>
  have hub:(U !=0)=true:=by rw[bne_iff_ne];exact hu
  have HR3:Hid (R=U):=hid (by rw[HR2.out,if_pos hu])
  clear hu HR2
  go_wp2_with fail
  go_at_call 93
  refine(HU.out _ HB2.out).mono ?_
  rintro e' w3 ⟨rfl,hb3⟩
  have HB3:=hid (HB2.out.trans (hb3.mono HB2.out.size))
  clear hb3
  go_wp2
  go_ret
  exact⟨by rw[HR3.out];rfl,HB3.out⟩
 subst hu
 have HR3:Hid (R=if 4611686018427387904<max d n\/(2<3/\0<max d n)then 2 else if C≠0 then C else if vk≠3 then 5 else 0):=hid (by rw[HR2.out,if_neg (by simp)])
 clear HR2
 by_cases hm:4611686018427387904<max d n
 ·have hmI:(4611686018427387904:Int)<max (d:Int) (n:Int):=by omega
  have HR4:Hid (R=2):=hid (by rw[HR3.out,if_pos (.inl hm)])
  clear hm HR3
  go_wp2
  go_ret
  exact⟨by rw[HR4.out];rfl,HB2.out⟩
 have hmI:max (d:Int) (n:Int)<=4611686018427387904:=by omega
 by_cases hz:2<3/\0<max d n
 ·have hzI:(0:Int)<max (d:Int) (n:Int):=by omega
  have HR4:Hid (R=2):=hid (by rw[HR3.out,if_pos (.inr hz)])
  have hk3:2<3:=hz.1
  clear hm HR3 hz
  first
  |(exfalso;omega)
  |(go_wp2
    go_ret
    exact⟨by rw[HR4.out];rfl,HB2.out⟩)
 have hzI:2<3->max (d:Int) (n:Int)<=0:=fun h=>by omega
 have HR4:Hid (R=if C≠0 then C else if vk≠3 then 5 else 0):=hid (by rw[HR3.out,if_neg (by omega)])
 try replace hzI:=hzI (by omega)
 clear hm hz HR3
 go_wp2_with fail
 go_at_call 87
 refine(HCV.out _ HB2.out).mono ?_
 rintro e' w3 ⟨rfl,hb3⟩
 have HB3:=hid (HB2.out.trans (hb3.mono HB2.out.size))
 have hd3:=HBK2.out.ext hb3
 clear x0 x1 x2 x3 x4 x5 x6 x7 x8 x9 hb3 hlt HBK2
 have hlt:=hd3.lt
 have x0:=hd3.cell (i:=0) rfl
 have x1:=hd3.cell (i:=1) rfl
 have x2:=hd3.cell (i:=2) rfl
 have x3:=hd3.cell (i:=3) rfl
 have x4:=hd3.cell (i:=4) rfl
 have x5:=hd3.cell (i:=5) rfl
 have x6:=hd3.cell (i:=6) rfl
 have x7:=hd3.cell (i:=7) rfl
 have x8:=hd3.cell (i:=8) rfl
 have x9:=hd3.cell (i:=9) rfl
 clear hd3
 by_cases hc:C=0
 case neg=>
  have hcb:(C !=0)=true:=by rw[bne_iff_ne];exact hc
  have HR5:Hid (R=C):=hid (by rw[HR4.out,if_pos hc])
  clear hc HR4
  go_wp2
  go_ret
  exact⟨by rw[HR5.out];rfl,HB3.out⟩
 subst hc
 by_cases hk:vk=3
 ·subst hk
  have HR5:Hid (R=0):=hid (by rw[HR4.out,if_neg (by simp),if_neg (by simp)])
  clear HR4
  go_wp2
  go_ret
  exact⟨by rw[HR5.out];rfl,HB3.out⟩
 ·have hkb:((vk:Int) !=3)=true:=by rw[bne_iff_ne];omega
  have HR5:Hid (R=5):=hid (by rw[HR4.out,if_neg (by simp),if_pos hk])
  clear HR4 hk
  go_wp2
  go_ret
  exact⟨by rw[HR5.out];rfl,HB3.out⟩
set_option maxHeartbeats 8000000 in
theorem chkR_3 (t:List UInt8) (d n:Nat) (v:DVal) (S:Nat->Prop) (cs:List Value) (w:World) (hr:HasRev S w ⟨3,t,d,n,v⟩ cs) (hT:U8T w):
 Calls Tryz.prog 63 #[.agg cs.toArray] w fun e' w'=>e'=.returned (.int .i64 (checkR ⟨3,t,d,n,v⟩))/\Below w.heap.size w w':=by
 obtain⟨cs',rfl,⟨_,htl,hdl,hnl⟩,hv⟩:=hr
 have htl':t.length<=1073741824:=htl
 obtain⟨R,hR⟩:∃R,R=checkR ⟨3,t,d,n,v⟩:=⟨_,rfl⟩
 rw[←hR]
 have hR':R=if t=[]then 4 else if utfE t≠0 then utfE t else if 4611686018427387904<max d n\/(3<3/\0<max d n)then 2 else if checkV 0 v≠0 then checkV 0 v else if kindV v≠6 then 5 else 0:=hR
 have HR:=hid hR'
 have HV:=hid hv
 have HT:=hid hT
 have hsz:=bs_size t
 obtain⟨C,hC⟩:∃C,C=checkV 0 v:=⟨_,rfl⟩
 have HCV:Hid (∀w',Below w.heap.size w w'->Calls Tryz.prog 87 #[.agg cs'.toArray] w' fun e' w2=>e'=.returned (.int .i64 C)/\Below w'.heap.size w' w2):=hid (fun w' hb=>by rw[hC];exact check_any v S cs' w' (hv.ext hb) (U8T_ext hT hb))
 obtain⟨U,hU⟩:∃U,U=utfE t:=⟨_,rfl⟩
 have HU:Hid (∀w',Below w.heap.size w w'->Calls Tryz.prog 93 #[.string (bs t)] w' fun e' w2=>e'=.returned (.int .i64 U)/\Below w'.heap.size w' w2):=hid (fun w' hb=>by rw[hU];exact utf_any t w' (by omega) (U8T_ext hT hb))
 rw[←hC,←hU]at HR
 clear hR hR' hT hC hU
 obtain⟨vk,vb,vn,vs,vl,vf⟩:=v
 obtain⟨pl,cl,pf,cf,rfl,_⟩:=hasVal_mk.1 hv
 have hkv:kindV (.mk vk vb vn vs vl vf)=vk:=rfl
 rw[hkv]at HR
 show Calls Tryz.prog 63 #[.agg #[.int .u8 3,.string (bs t),.int .u64 (d:Int),.int .u64 (n:Int),.int .u8 (vk:Int),.bool vb,.int .i64 vn,.string (bs vs),.slice pl vl.length cl,.slice pf vf.length cf]] w _
 have hmm:= @run_makeMap Tryz.prog
 obtain⟨W,hW⟩:∃W,W=w.alloc (.cells #[.int .u8 3,.string (bs t),.int .u64 (d:Int),.int .u64 (n:Int),.int .u8 (vk:Int),.bool vb,.int .i64 vn,.string (bs vs),.slice pl vl.length cl,.slice pf vf.length cf] 54):=⟨_,rfl⟩
 have hz:W.heap.size=w.heap.size+1:=by rw[hW];simp
 have hu0:=upd_rev W 0 1 0 (.inl ⟨rfl,rfl,rfl⟩)
 have hu1:=upd_rev W 1 2 3 (.inr (.inl ⟨rfl,rfl,rfl⟩))
 have hu2:=upd_rev W 2 3 6 (.inr (.inr (.inl ⟨rfl,rfl,rfl⟩)))
 have hu3:=upd_rev W 3 4 0 (.inr (.inr (.inr ⟨rfl,rfl,rfl⟩)))
 have hlk:(Instr.lookup 141 (.map (some W.heap.size)) (.int .u8 3) true).run Tryz.prog (W.alloc (.map (kEs 4).toArray 4))=.ok (.tuple #[.int .u8 6,.bool true]) (W.alloc (.map (kEs 4).toArray 4)):=
  look_rev (W.alloc (.map (kEs 4).toArray 4)) W.heap.size (alloc_get _ _) 3 (some 6) (by decide)
 have hb1:Below w.heap.size w (W.alloc (.map (kEs 4).toArray 4)):=by rw[hW];exact((Below.refl _ _).alloc (Nat.le_refl _) _).alloc (by simp) _
 have hblk:IsBlk (W.alloc (.map (kEs 4).toArray 4)) w.heap.size #[.int .u8 3,.string (bs t),.int .u64 (d:Int),.int .u64 (n:Int),.int .u8 (vk:Int),.bool vb,.int .i64 vn,.string (bs vs),.slice pl vl.length cl,.slice pf vf.length cf] 54:=by rw[hW];exact(IsBlk.new _ _ _).alloc _
 rw[hz,hW]at hu0 hu1 hu2 hu3 hlk
 rw[hW]at hb1 hblk
 clear hz hW
 clear W
 have hk0:kEs 0=[]:=rfl
 rw[hk0]at hu0
 have HB1:=hid hb1
 have HBK:=hid hblk
 clear hv hk0 hb1 hblk hkv
 go_enter Tryz.func63,Tryz.ntmps63
 go_upto_region 4 with(fail)
 clear hu0 hu1 hu2 hu3 hlk hmm
 generalize hW1:World.alloc _ _=W1 at HB1 HBK
 clear hW1
 have hd1:=HBK.out
 have hlt:=hd1.lt
 have x0:=hd1.cell (i:=0) rfl
 have x1:=hd1.cell (i:=1) rfl
 have x2:=hd1.cell (i:=2) rfl
 have x3:=hd1.cell (i:=3) rfl
 have x4:=hd1.cell (i:=4) rfl
 have x5:=hd1.cell (i:=5) rfl
 have x6:=hd1.cell (i:=6) rfl
 have x7:=hd1.cell (i:=7) rfl
 have x8:=hd1.cell (i:=8) rfl
 have x9:=hd1.cell (i:=9) rfl
 clear hd1
 by_cases h0:t=[]
 ·have HR2:Hid (R=4):=hid (by rw[HR.out,if_pos h0])
  have he:((bs t).toList==([]:List UInt8))=true:=by rw[tl_bs,h0];rfl
  clear h0
  go_wp2
  go_ret
  exact⟨by rw[HR2.out];rfl,HB1.out⟩
 have he:((bs t).toList==([]:List UInt8))=false:=by rw[tl_bs];simpa using h0
 have HR2:Hid (R=if U≠0 then U else if 4611686018427387904<max d n\/(3<3/\0<max d n)then 2 else if C≠0 then C else if vk≠6 then 5 else 0):=hid (by rw[HR.out,if_neg h0])
 clear h0 HR
 go_wp2_with fail
 go_at_call 93
 refine(HU.out _ HB1.out).mono ?_
 rintro e' w2 ⟨rfl,hb2⟩
 have HB2:=hid (HB1.out.trans (hb2.mono HB1.out.size))
 have hd2:=HBK.out.ext hb2
 have HBK2:=hid hd2
 clear x0 x1 x2 x3 x4 x5 x6 x7 x8 x9 hb2 hlt HBK
 have hlt:=hd2.lt
 have x0:=hd2.cell (i:=0) rfl
 have x1:=hd2.cell (i:=1) rfl
 have x2:=hd2.cell (i:=2) rfl
 have x3:=hd2.cell (i:=3) rfl
 have x4:=hd2.cell (i:=4) rfl
 have x5:=hd2.cell (i:=5) rfl
 have x6:=hd2.cell (i:=6) rfl
 have x7:=hd2.cell (i:=7) rfl
 have x8:=hd2.cell (i:=8) rfl
 have x9:=hd2.cell (i:=9) rfl
 clear hd2
 by_cases hu:U=0
 case neg=>
  have hub:(U !=0)=true:=by rw[bne_iff_ne];exact hu
  have HR3:Hid (R=U):=hid (by rw[HR2.out,if_pos hu])
  clear hu HR2
  go_wp2_with fail
  go_at_call 93
  refine(HU.out _ HB2.out).mono ?_
  rintro e' w3 ⟨rfl,hb3⟩
  have HB3:=hid (HB2.out.trans (hb3.mono HB2.out.size))
  clear hb3
  go_wp2
  go_ret
  exact⟨by rw[HR3.out];rfl,HB3.out⟩
 subst hu
 have HR3:Hid (R=if 4611686018427387904<max d n\/(3<3/\0<max d n)then 2 else if C≠0 then C else if vk≠6 then 5 else 0):=hid (by rw[HR2.out,if_neg (by simp)])
 clear HR2
 by_cases hm:4611686018427387904<max d n
 ·have hmI:(4611686018427387904:Int)<max (d:Int) (n:Int):=by omega
  have HR4:Hid (R=2):=hid (by rw[HR3.out,if_pos (.inl hm)])
  clear hm HR3
  go_wp2
  go_ret
  exact⟨by rw[HR4.out];rfl,HB2.out⟩
 have hmI:max (d:Int) (n:Int)<=4611686018427387904:=by omega
 by_cases hz:3<3/\0<max d n
 ·have hzI:(0:Int)<max (d:Int) (n:Int):=by omega
  have HR4:Hid (R=2):=hid (by rw[HR3.out,if_pos (.inr hz)])
  have hk3:3<3:=hz.1
  clear hm HR3 hz
  first
  |(exfalso;omega)
  |(go_wp2
    go_ret
    exact⟨by rw[HR4.out];rfl,HB2.out⟩)
 have hzI:3<3->max (d:Int) (n:Int)<=0:=fun h=>by omega
 have HR4:Hid (R=if C≠0 then C else if vk≠6 then 5 else 0):=hid (by rw[HR3.out,if_neg (by omega)])
 try replace hzI:=hzI (by omega)
 clear hm hz HR3
 go_wp2_with fail
 go_at_call 87
 refine(HCV.out _ HB2.out).mono ?_
 rintro e' w3 ⟨rfl,hb3⟩
 have HB3:=hid (HB2.out.trans (hb3.mono HB2.out.size))
 have hd3:=HBK2.out.ext hb3
 clear x0 x1 x2 x3 x4 x5 x6 x7 x8 x9 hb3 hlt HBK2
 have hlt:=hd3.lt
 have x0:=hd3.cell (i:=0) rfl
 have x1:=hd3.cell (i:=1) rfl
 have x2:=hd3.cell (i:=2) rfl
 have x3:=hd3.cell (i:=3) rfl
 have x4:=hd3.cell (i:=4) rfl
 have x5:=hd3.cell (i:=5) rfl
 have x6:=hd3.cell (i:=6) rfl
 have x7:=hd3.cell (i:=7) rfl
 have x8:=hd3.cell (i:=8) rfl
 have x9:=hd3.cell (i:=9) rfl
 clear hd3
 by_cases hc:C=0
 case neg=>
  have hcb:(C !=0)=true:=by rw[bne_iff_ne];exact hc
  have HR5:Hid (R=C):=hid (by rw[HR4.out,if_pos hc])
  clear hc HR4
  go_wp2
  go_ret
  exact⟨by rw[HR5.out];rfl,HB3.out⟩
 subst hc
 by_cases hk:vk=6
 ·subst hk
  have HR5:Hid (R=0):=hid (by rw[HR4.out,if_neg (by simp),if_neg (by simp)])
  clear HR4
  go_wp2
  go_ret
  exact⟨by rw[HR5.out];rfl,HB3.out⟩
 ·have hkb:((vk:Int) !=6)=true:=by rw[bne_iff_ne];omega
  have HR5:Hid (R=5):=hid (by rw[HR4.out,if_neg (by simp),if_pos hk])
  clear HR4 hk
  go_wp2
  go_ret
  exact⟨by rw[HR5.out];rfl,HB3.out⟩
set_option maxHeartbeats 8000000 in
theorem chkR_4 (t:List UInt8) (d n:Nat) (v:DVal) (S:Nat->Prop) (cs:List Value) (w:World) (hr:HasRev S w ⟨4,t,d,n,v⟩ cs) (hT:U8T w):
 Calls Tryz.prog 63 #[.agg cs.toArray] w fun e' w'=>e'=.returned (.int .i64 (checkR ⟨4,t,d,n,v⟩))/\Below w.heap.size w w':=by
 obtain⟨cs',rfl,⟨_,htl,hdl,hnl⟩,hv⟩:=hr
 have htl':t.length<=1073741824:=htl
 obtain⟨R,hR⟩:∃R,R=checkR ⟨4,t,d,n,v⟩:=⟨_,rfl⟩
 rw[←hR]
 have hR':R=if t=[]then 4 else if utfE t≠0 then utfE t else if 4611686018427387904<max d n\/(4<3/\0<max d n)then 2 else if checkV 0 v≠0 then checkV 0 v else if kindV v≠0 then 5 else 0:=hR
 have HR:=hid hR'
 have HV:=hid hv
 have HT:=hid hT
 have hsz:=bs_size t
 obtain⟨C,hC⟩:∃C,C=checkV 0 v:=⟨_,rfl⟩
 have HCV:Hid (∀w',Below w.heap.size w w'->Calls Tryz.prog 87 #[.agg cs'.toArray] w' fun e' w2=>e'=.returned (.int .i64 C)/\Below w'.heap.size w' w2):=hid (fun w' hb=>by rw[hC];exact check_any v S cs' w' (hv.ext hb) (U8T_ext hT hb))
 obtain⟨U,hU⟩:∃U,U=utfE t:=⟨_,rfl⟩
 have HU:Hid (∀w',Below w.heap.size w w'->Calls Tryz.prog 93 #[.string (bs t)] w' fun e' w2=>e'=.returned (.int .i64 U)/\Below w'.heap.size w' w2):=hid (fun w' hb=>by rw[hU];exact utf_any t w' (by omega) (U8T_ext hT hb))
 rw[←hC,←hU]at HR
 clear hR hR' hT hC hU
 obtain⟨vk,vb,vn,vs,vl,vf⟩:=v
 obtain⟨pl,cl,pf,cf,rfl,_⟩:=hasVal_mk.1 hv
 have hkv:kindV (.mk vk vb vn vs vl vf)=vk:=rfl
 rw[hkv]at HR
 show Calls Tryz.prog 63 #[.agg #[.int .u8 4,.string (bs t),.int .u64 (d:Int),.int .u64 (n:Int),.int .u8 (vk:Int),.bool vb,.int .i64 vn,.string (bs vs),.slice pl vl.length cl,.slice pf vf.length cf]] w _
 have hmm:= @run_makeMap Tryz.prog
 obtain⟨W,hW⟩:∃W,W=w.alloc (.cells #[.int .u8 4,.string (bs t),.int .u64 (d:Int),.int .u64 (n:Int),.int .u8 (vk:Int),.bool vb,.int .i64 vn,.string (bs vs),.slice pl vl.length cl,.slice pf vf.length cf] 54):=⟨_,rfl⟩
 have hz:W.heap.size=w.heap.size+1:=by rw[hW];simp
 have hu0:=upd_rev W 0 1 0 (.inl ⟨rfl,rfl,rfl⟩)
 have hu1:=upd_rev W 1 2 3 (.inr (.inl ⟨rfl,rfl,rfl⟩))
 have hu2:=upd_rev W 2 3 6 (.inr (.inr (.inl ⟨rfl,rfl,rfl⟩)))
 have hu3:=upd_rev W 3 4 0 (.inr (.inr (.inr ⟨rfl,rfl,rfl⟩)))
 have hlk:(Instr.lookup 141 (.map (some W.heap.size)) (.int .u8 4) true).run Tryz.prog (W.alloc (.map (kEs 4).toArray 4))=.ok (.tuple #[.int .u8 0,.bool true]) (W.alloc (.map (kEs 4).toArray 4)):=
  look_rev (W.alloc (.map (kEs 4).toArray 4)) W.heap.size (alloc_get _ _) 4 (some 0) (by decide)
 have hb1:Below w.heap.size w (W.alloc (.map (kEs 4).toArray 4)):=by rw[hW];exact((Below.refl _ _).alloc (Nat.le_refl _) _).alloc (by simp) _
 have hblk:IsBlk (W.alloc (.map (kEs 4).toArray 4)) w.heap.size #[.int .u8 4,.string (bs t),.int .u64 (d:Int),.int .u64 (n:Int),.int .u8 (vk:Int),.bool vb,.int .i64 vn,.string (bs vs),.slice pl vl.length cl,.slice pf vf.length cf] 54:=by rw[hW];exact(IsBlk.new _ _ _).alloc _
 rw[hz,hW]at hu0 hu1 hu2 hu3 hlk
 rw[hW]at hb1 hblk
 clear hz hW
 clear W
 have hk0:kEs 0=[]:=rfl
 rw[hk0]at hu0
 have HB1:=hid hb1
 have HBK:=hid hblk
 clear hv hk0 hb1 hblk hkv
 go_enter Tryz.func63,Tryz.ntmps63
 go_upto_region 4 with(fail)
 clear hu0 hu1 hu2 hu3 hlk hmm
 generalize hW1:World.alloc _ _=W1 at HB1 HBK
 clear hW1
 have hd1:=HBK.out
 have hlt:=hd1.lt
 have x0:=hd1.cell (i:=0) rfl
 have x1:=hd1.cell (i:=1) rfl
 have x2:=hd1.cell (i:=2) rfl
 have x3:=hd1.cell (i:=3) rfl
 have x4:=hd1.cell (i:=4) rfl
 have x5:=hd1.cell (i:=5) rfl
 have x6:=hd1.cell (i:=6) rfl
 have x7:=hd1.cell (i:=7) rfl
 have x8:=hd1.cell (i:=8) rfl
 have x9:=hd1.cell (i:=9) rfl
 clear hd1
 by_cases h0:t=[]
 ·have HR2:Hid (R=4):=hid (by rw[HR.out,if_pos h0])
  have he:((bs t).toList==([]:List UInt8))=true:=by rw[tl_bs,h0];rfl
  clear h0
  go_wp2
  go_ret
  exact⟨by rw[HR2.out];rfl,HB1.out⟩
 have he:((bs t).toList==([]:List UInt8))=false:=by rw[tl_bs];simpa using h0
 have HR2:Hid (R=if U≠0 then U else if 4611686018427387904<max d n\/(4<3/\0<max d n)then 2 else if C≠0 then C else if vk≠0 then 5 else 0):=hid (by rw[HR.out,if_neg h0])
 clear h0 HR
 go_wp2_with fail
 go_at_call 93
 refine(HU.out _ HB1.out).mono ?_
 rintro e' w2 ⟨rfl,hb2⟩
 have HB2:=hid (HB1.out.trans (hb2.mono HB1.out.size))
 have hd2:=HBK.out.ext hb2
 have HBK2:=hid hd2
 clear x0 x1 x2 x3 x4 x5 x6 x7 x8 x9 hb2 hlt HBK
 have hlt:=hd2.lt
 have x0:=hd2.cell (i:=0) rfl
 have x1:=hd2.cell (i:=1) rfl
 have x2:=hd2.cell (i:=2) rfl
 have x3:=hd2.cell (i:=3) rfl
 have x4:=hd2.cell (i:=4) rfl
 have x5:=hd2.cell (i:=5) rfl
 have x6:=hd2.cell (i:=6) rfl
 have x7:=hd2.cell (i:=7) rfl
 have x8:=hd2.cell (i:=8) rfl
 have x9:=hd2.cell (i:=9) rfl
 clear hd2
 by_cases hu:U=0
 case neg=>
  have hub:(U !=0)=true:=by rw[bne_iff_ne];exact hu
  have HR3:Hid (R=U):=hid (by rw[HR2.out,if_pos hu])
  clear hu HR2
  go_wp2_with fail
  go_at_call 93
  refine(HU.out _ HB2.out).mono ?_
  rintro e' w3 ⟨rfl,hb3⟩
  have HB3:=hid (HB2.out.trans (hb3.mono HB2.out.size))
  clear hb3
  go_wp2
  go_ret
  exact⟨by rw[HR3.out];rfl,HB3.out⟩
 subst hu
 have HR3:Hid (R=if 4611686018427387904<max d n\/(4<3/\0<max d n)then 2 else if C≠0 then C else if vk≠0 then 5 else 0):=hid (by rw[HR2.out,if_neg (by simp)])
 clear HR2
 by_cases hm:4611686018427387904<max d n
 ·have hmI:(4611686018427387904:Int)<max (d:Int) (n:Int):=by omega
  have HR4:Hid (R=2):=hid (by rw[HR3.out,if_pos (.inl hm)])
  clear hm HR3
  go_wp2
  go_ret
  exact⟨by rw[HR4.out];rfl,HB2.out⟩
 have hmI:max (d:Int) (n:Int)<=4611686018427387904:=by omega
 by_cases hz:4<3/\0<max d n
 ·have hzI:(0:Int)<max (d:Int) (n:Int):=by omega
  have HR4:Hid (R=2):=hid (by rw[HR3.out,if_pos (.inr hz)])
  have hk3:4<3:=hz.1
  clear hm HR3 hz
  first
  |(exfalso;omega)
  |(go_wp2
    go_ret
    exact⟨by rw[HR4.out];rfl,HB2.out⟩)
 have hzI:4<3->max (d:Int) (n:Int)<=0:=fun h=>by omega
 have HR4:Hid (R=if C≠0 then C else if vk≠0 then 5 else 0):=hid (by rw[HR3.out,if_neg (by omega)])
 try replace hzI:=hzI (by omega)
 clear hm hz HR3
 go_wp2_with fail
 go_at_call 87
 refine(HCV.out _ HB2.out).mono ?_
 rintro e' w3 ⟨rfl,hb3⟩
 have HB3:=hid (HB2.out.trans (hb3.mono HB2.out.size))
 have hd3:=HBK2.out.ext hb3
 clear x0 x1 x2 x3 x4 x5 x6 x7 x8 x9 hb3 hlt HBK2
 have hlt:=hd3.lt
 have x0:=hd3.cell (i:=0) rfl
 have x1:=hd3.cell (i:=1) rfl
 have x2:=hd3.cell (i:=2) rfl
 have x3:=hd3.cell (i:=3) rfl
 have x4:=hd3.cell (i:=4) rfl
 have x5:=hd3.cell (i:=5) rfl
 have x6:=hd3.cell (i:=6) rfl
 have x7:=hd3.cell (i:=7) rfl
 have x8:=hd3.cell (i:=8) rfl
 have x9:=hd3.cell (i:=9) rfl
 clear hd3
 by_cases hc:C=0
 case neg=>
  have hcb:(C !=0)=true:=by rw[bne_iff_ne];exact hc
  have HR5:Hid (R=C):=hid (by rw[HR4.out,if_pos hc])
  clear hc HR4
  go_wp2
  go_ret
  exact⟨by rw[HR5.out];rfl,HB3.out⟩
 subst hc
 by_cases hk:vk=0
 ·subst hk
  have HR5:Hid (R=0):=hid (by rw[HR4.out,if_neg (by simp),if_neg (by simp)])
  clear HR4
  go_wp2
  go_ret
  exact⟨by rw[HR5.out];rfl,HB3.out⟩
 ·have hkb:((vk:Int) !=0)=true:=by rw[bne_iff_ne];omega
  have HR5:Hid (R=5):=hid (by rw[HR4.out,if_neg (by simp),if_pos hk])
  clear HR4 hk
  go_wp2
  go_ret
  exact⟨by rw[HR5.out];rfl,HB3.out⟩
theorem chkR_any (r:DRev) (S:Nat->Prop) (cs:List Value) (w:World) (hr:HasRev S w r cs) (hT:U8T w):
 Calls Tryz.prog 63 #[.agg cs.toArray] w fun e' w'=>e'=.returned (.int .i64 (checkR r))/\Below w.heap.size w w':=by
 obtain⟨k,t,d,n,v⟩:=r
 by_cases h1:k=1
 ·subst h1;exact chkR_1 t d n v S cs w hr hT
 by_cases h2:k=2
 ·subst h2;exact chkR_2 t d n v S cs w hr hT
 by_cases h3:k=3
 ·subst h3;exact chkR_3 t d n v S cs w hr hT
 by_cases h4:k=4
 ·subst h4;exact chkR_4 t d n v S cs w hr hT
 have hn:wantK k=none:=by unfold wantK;rw[if_neg h1,if_neg h2,if_neg h3,if_neg h4]
 have hc:checkR ⟨k,t,d,n,v⟩=5:=by unfold checkR;simp only[hn]
 rw[hc]
 exact chkR_none ⟨k,t,d,n,v⟩ S cs w hr hn
end Go.Proofs.YtcihbnpckicljaaGreatDoor
