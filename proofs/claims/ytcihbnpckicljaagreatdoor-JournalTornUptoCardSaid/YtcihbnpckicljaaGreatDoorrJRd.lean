/- The journal's reader of values: next, number, opened. Conditions: what is left lies in memory, apart from the reader's block. -/
import Derived.Test.YtcihbnpckicljaaGreatDoorrJReadP
import Derived.Test.YtcihbnpckicljaaGreatDoorrJSmall
set_option linter.unusedVariables false
set_option linter.unusedSimpArgs false
namespace Go.Proofs.YtcihbnpckicljaaGreatDoor
open Go Go.RowKit Go.BigFrame
open Go.Lib(hid)
set_option maxRecDepth 100000
def RdJ (S:Nat->Prop) (w:World) (g:Nat) (st:RSt):Prop:=∃p c,IsBlk w g #[.slice p st.1.length c,.bool st.2] 78/\HasL S w p st.1/\st.1.length<=c/\c<=maxLen/\st.1.length<=1073741824
theorem RdJ.rd {S:Nat->Prop} {w w':World} {B g h:Nat} {st:RSt} (k:RdJ S w g st) (hb:Rd B h w w') (hg:g≠h) (hS:∀b,S b->b≠h):RdJ S w' g st:=by
 obtain⟨p,c,h1,h2,h3⟩:=k
 exact⟨p,c,hb.blk h1 hg,h2.ext_to (fun _ h=>h) (fun b hb' hlt=>hb.2.2 b hlt (hS b hb')),h3⟩
theorem RdJ.lt {S:Nat->Prop} {w:World} {g:Nat} {st:RSt} (k:RdJ S w g st):g<w.heap.size:=by
 obtain⟨p,c,h1,_⟩:=k
 exact h1.lt
theorem RdJ.ext {S:Nat->Prop} {w w':World} {g:Nat} {st:RSt} (k:RdJ S w g st) (hb:Below w.heap.size w w'):RdJ S w' g st:=by
 obtain⟨p,c,h1,h2,h3⟩:=k
 exact⟨p,c,h1.ext hb,h2.ext hb,h3⟩
theorem hasL_tail {S:Nat->Prop} {w:World} {g o:Nat} {v:DVal} {l:List DVal} (h:HasL S w (some ⟨g,o,none⟩) (v::l)):HasL S w (some ⟨g,o+6,none⟩) l:=fun i hi=>by
 obtain⟨g1,o1,cs,e,hc,hv⟩:=h (i+1) (by simpa using hi)
 simp only[Option.some.injEq,Addr.mk.injEq,and_true]at e
 obtain⟨rfl,rfl⟩:=e
 refine⟨g,o+6,cs,rfl,?_,hv⟩
 have:o+6+i*6=o+(i+1)*6:=by omega
 rw[this]
 exact hc
def NextOut (B:Nat) (S:Nat->Prop) (g:Nat) (w:World) (r:DVal×RSt) (e':Ending) (w':World):Prop:=∃cs,e'=.returned (.agg cs.toArray)/\HasVal S w' r.1 cs/\RdJ S w' g r.2/\Rd B g w w'
theorem next_fin {B g h:Nat} {S:Nat->Prop} {w W1:World} {r:DVal×RSt} {zs:List Value} {t:TypeId} (cs:List Value) (hz:IsBlk W1 h zs.toArray t) (hp:putAt zs 0 cs=cs) (hh:w.heap.size<=h) (hB:B<=w.heap.size) (hv:HasVal S W1 r.1 cs) (hr:RdJ S W1 g r.2) (hrd:Rd B g w W1) (hS:∀b,S b->b<g) (hg:g<w.heap.size):
 IsBlk (W1.setCells h 0 cs) h cs.toArray t/\HasVal S (W1.setCells h 0 cs) r.1 cs/\RdJ S (W1.setCells h 0 cs) g r.2/\Rd B g w (W1.setCells h 0 cs):=by
 have ho:∀z,z≠h->(W1.setCells h 0 cs).heap[z]?=W1.heap[z]?:=fun z hz=>other_setCells hz _ _ _
 have hb:=below_setCells (B:=w.heap.size) (w0:=W1) hh cs 0 W1 (Below.refl _ _)
 have hbl:=blk_setCells cs 0 W1 zs hz
 rw[hp]at hbl
 refine⟨hbl,hv.ext_to (fun _ h=>h) (fun b hb' _=>ho b (by have:=hS b hb';omega)),?_,⟨hrd.1.trans (hb.mono hB),Nat.le_trans hrd.2.1 hb.size,fun b hb' hne=>by rw[ho b (by omega)];exact hrd.2.2 b hb' hne⟩⟩
 obtain⟨p,c,h1,h2,h3⟩:=hr
 exact⟨p,c,(ho g (by omega)).trans h1,h2.ext_to (fun _ h=>h) (fun b hb' _=>ho b (by have:=hS b hb';omega)),h3⟩
set_option maxHeartbeats 4000000 in
theorem next_any (B k g:Nat) (st:RSt) (S:Nat->Prop) (w:World) (hB:B<=g) (hk:k<256) (h:RdJ S w g st) (hS:∀b,S b->b<g):
 Calls Tryz.prog 42 #[.pointer (some ⟨g,0,none⟩),.int .u8 (k:Int)] w (NextOut B S g w (nextP k st)):=by
 obtain⟨l,bad⟩:=st
 have hgl:=h.lt
 have hBw:B<=w.heap.size:=by omega
 obtain⟨p,c,hg,hl,hlc,hcm,hlm⟩:=h
 have hl':HasL S w p l:=hl
 have hlc':l.length<=c:=hlc
 have hlm':l.length<=1073741824:=hlm
 have hg':IsBlk w g #[.slice p l.length c,.bool bad] 78:=hg
 clear hl hlc hlm hg
 have HS:=hid hS
 have HL:=hid hl'
 have HG:=hid hg'
 clear hS hl' hg'
 cases l with
 |nil=>
  have hst:nextP k ([],bad)=(.zero,([],true)):=rfl
  rw[hst]
  clear hst
  go_enter Tryz.func42,Tryz.ntmps42
  go_upto_region 1 with(fail)
  generalize hW0:World.alloc w _=W0
  have hb0:Below w.heap.size w W0:=by rw[←hW0];exact(Below.refl _ _).alloc (Nat.le_refl _) _
  have hz0:IsBlk W0 w.heap.size #[.int .u8 0,.bool false,.int .i64 0,.string ⟨#[]⟩,.slice none 0 0,.slice none 0 0] 52:=by rw[←hW0];exact IsBlk.new _ _ _
  have hg0:IsBlk W0 g #[.slice p 0 c,.bool bad] 78:=HG.out.ext hb0
  have hlt0:=hz0.lt
  have hgl0:=hg0.lt
  have hne:g≠w.heap.size:=by omega
  have z0:=hz0.cell (i:=0) rfl
  have z1:=hz0.cell (i:=1) rfl
  have z2:=hz0.cell (i:=2) rfl
  have z3:=hz0.cell (i:=3) rfl
  have z4:=hz0.cell (i:=4) rfl
  have z5:=hz0.cell (i:=5) rfl
  have y0:=hz0.frozen 0
  have y1:=hz0.frozen 1
  have y2:=hz0.frozen 2
  have y3:=hz0.frozen 3
  have y4:=hz0.frozen 4
  have y5:=hz0.frozen 5
  have c0:=hg0.cell (i:=0) rfl
  have c1:=hg0.cell (i:=1) rfl
  have f0:=hg0.frozen 0
  have f1:=hg0.frozen 1
  have HB0:=hid hb0
  have HZ:=hid hz0
  have HG0:=hid hg0
  clear hW0 hb0 hz0 hg0
  have hfin:=next_fin (B:=B) (g:=g) (S:=S) (w:=w) (W1:=W0.setCell ⟨g,1,none⟩ (.bool true)) (r:=(.zero,([],true))) [.int .u8 0,.bool false,.int .i64 0,.string ⟨#[]⟩,.slice none 0 0,.slice none 0 0] (HZ.out.set_other (a:=⟨g,1,none⟩) hne _) rfl (Nat.le_refl _) hBw (zero_has' S _) ⟨p,c,by simpa using HG0.out.set 1 (.bool true),fun i hi=>by simp at hi,Nat.zero_le _,hcm,by simp⟩ ((Rd.of_below HB0.out hBw).set hB _) HS.out hgl
  have HFIN:=hid hfin
  clear hfin
  go_wp2
  refine bodyPost_ret (results_c (p:=4) (ty:=52) Tryz.results42 rfl HFIN.out.1 Tryz.underlying52 rfl (by kernel_rfl)) rfl ⟨_,rfl,HFIN.out.2.1,HFIN.out.2.2.1,HFIN.out.2.2.2⟩
 |cons v l=>
  obtain⟨vk,vb,vn,vs,vl,vf⟩:=v
  obtain⟨g1,o,cs,rfl,hcells,hval⟩:=HL.out 0 (by simp)
  rw[Nat.zero_mul,Nat.add_zero]at hcells
  have hv:HasVal S w (.mk vk vb vn vs vl vf) cs:=hval
  have HV:=hid hv
  obtain⟨pl,cl,pf,cf,rfl,hbd,_⟩:=hasVal_mk.1 hv
  have hg1:g1<w.heap.size:=hcells.2.1
  have hgg:g1<g:=HS.out g1 hcells.1
  have hvk:vk<256:=hbd.1
  have HC:=hid hcells
  obtain⟨n,hn⟩:∃n,n=l.length:=⟨_,rfl⟩
  have hn1:(DVal.mk vk vb vn vs vl vf::l).length=n+1:=by rw[hn];rfl
  have HN:=hid hn
  rw[hn1]at hlc' hlm'
  have hg':IsBlk w g #[.slice (some ⟨g1,o,none⟩) (n+1) c,.bool bad] 78:=by rw[←hn1];exact HG.out
  clear HG
  have HG:=hid hg'
  clear hcells hval hv hbd hg' hn hn1
  by_cases hkk:vk=k
  case neg=>
   have hneI:((vk:Int) !=(k:Int))=true:=by rw[bne_iff_ne];omega
   have hst:nextP k (.mk vk vb vn vs vl vf::l,bad)=(.zero,(.mk vk vb vn vs vl vf::l,true)):=by
    unfold nextP
    exact if_neg hkk
   rw[hst]
   clear hst hkk
   go_enter Tryz.func42,Tryz.ntmps42
   go_upto_region 1 with(fail)
   generalize hW0:World.alloc w _=W0
   have hb0:Below w.heap.size w W0:=by rw[←hW0];exact(Below.refl _ _).alloc (Nat.le_refl _) _
   have hz0:IsBlk W0 w.heap.size #[.int .u8 0,.bool false,.int .i64 0,.string ⟨#[]⟩,.slice none 0 0,.slice none 0 0] 52:=by rw[←hW0];exact IsBlk.new _ _ _
   have hg0:IsBlk W0 g #[.slice (some ⟨g1,o,none⟩) (n+1) c,.bool bad] 78:=HG.out.ext hb0
   have hlt0:=hz0.lt
   have hgl0:=hg0.lt
   have hne:g≠w.heap.size:=by omega
   have z0:=hz0.cell (i:=0) rfl
   have z1:=hz0.cell (i:=1) rfl
   have z2:=hz0.cell (i:=2) rfl
   have z3:=hz0.cell (i:=3) rfl
   have z4:=hz0.cell (i:=4) rfl
   have z5:=hz0.cell (i:=5) rfl
   have y0:=hz0.frozen 0
   have y1:=hz0.frozen 1
   have y2:=hz0.frozen 2
   have y3:=hz0.frozen 3
   have y4:=hz0.frozen 4
   have y5:=hz0.frozen 5
   have c0:=hg0.cell (i:=0) rfl
   have c1:=hg0.cell (i:=1) rfl
   have f0:=hg0.frozen 0
   have f1:=hg0.frozen 1
   have HB0:=hid hb0
   have HZ:=hid hz0
   have HG0:=hid hg0
   clear hW0 hb0 hz0 hg0
   have hcs:=(HC.out.kept (S':=S) (w':=W0) (fun _ h=>h) (fun b hb hlt=>HB0.out.block b hlt)).six
   obtain⟨e0,e1,e2,e3,e4,e5⟩:=hcs
   have hg10:g1<W0.heap.size:=by have:=HB0.out.size;omega
   have hrd:RdJ S (W0.setCell ⟨g,1,none⟩ (.bool true)) g (.mk vk vb vn vs vl vf::l,true):=⟨some ⟨g1,o,none⟩,c,by
    have h9:=HG0.out.set 1 (.bool true)
    rw[HN.out]at h9
    simpa using h9,(HL.out.ext HB0.out).ext_to (fun _ h=>h) (fun b hb _=>Below.heap_setCell _ _ _ _ (show b≠g by have:=HS.out b hb;omega)),by rw[HN.out]at hlc';exact hlc',hcm,by rw[HN.out]at hlm';exact hlm'⟩
   have hfin:=next_fin (B:=B) (g:=g) (S:=S) (w:=w) (W1:=W0.setCell ⟨g,1,none⟩ (.bool true)) (r:=(.zero,(.mk vk vb vn vs vl vf::l,true))) [.int .u8 0,.bool false,.int .i64 0,.string ⟨#[]⟩,.slice none 0 0,.slice none 0 0] (HZ.out.set_other (a:=⟨g,1,none⟩) hne _) rfl (Nat.le_refl _) hBw (zero_has' S _) hrd ((Rd.of_below HB0.out hBw).set hB _) HS.out hgl
   have HFIN:=hid hfin
   clear hfin hrd
   go_wp2
   refine bodyPost_ret (results_c (p:=4) (ty:=52) Tryz.results42 rfl HFIN.out.1 Tryz.underlying52 rfl (by kernel_rfl)) rfl ⟨_,rfl,HFIN.out.2.1,HFIN.out.2.2.1,HFIN.out.2.2.2⟩
  subst hkk
  have hst:nextP vk (.mk vk vb vn vs vl vf::l,bad)=(.mk vk vb vn vs vl vf,(l,bad)):=by
   unfold nextP
   exact if_pos rfl
  rw[hst]
  clear hst
  go_enter Tryz.func42,Tryz.ntmps42
  go_upto_region 1 with(fail)
  generalize hW0:World.alloc w _=W0
  have hb0:Below w.heap.size w W0:=by rw[←hW0];exact(Below.refl _ _).alloc (Nat.le_refl _) _
  have hz0:IsBlk W0 w.heap.size #[.int .u8 0,.bool false,.int .i64 0,.string ⟨#[]⟩,.slice none 0 0,.slice none 0 0] 52:=by rw[←hW0];exact IsBlk.new _ _ _
  have hg0:IsBlk W0 g #[.slice (some ⟨g1,o,none⟩) (n+1) c,.bool bad] 78:=HG.out.ext hb0
  have hlt0:=hz0.lt
  have hgl0:=hg0.lt
  have hne:g≠w.heap.size:=by omega
  have z0:=hz0.cell (i:=0) rfl
  have z1:=hz0.cell (i:=1) rfl
  have z2:=hz0.cell (i:=2) rfl
  have z3:=hz0.cell (i:=3) rfl
  have z4:=hz0.cell (i:=4) rfl
  have z5:=hz0.cell (i:=5) rfl
  have y0:=hz0.frozen 0
  have y1:=hz0.frozen 1
  have y2:=hz0.frozen 2
  have y3:=hz0.frozen 3
  have y4:=hz0.frozen 4
  have y5:=hz0.frozen 5
  have c0:=hg0.cell (i:=0) rfl
  have c1:=hg0.cell (i:=1) rfl
  have f0:=hg0.frozen 0
  have f1:=hg0.frozen 1
  have HB0:=hid hb0
  have HZ:=hid hz0
  have HG0:=hid hg0
  clear hW0 hb0 hz0 hg0
  have hcs:=(HC.out.kept (S':=S) (w':=W0) (fun _ h=>h) (fun b hb hlt=>HB0.out.block b hlt)).six
  obtain⟨e0,e1,e2,e3,e4,e5⟩:=hcs
  have hg10:g1<W0.heap.size:=by have:=HB0.out.size;omega
  have hbne:((vk:Int) !=(vk:Int))=false:=by simp
  have hfin:∀(p':Option Addr) (c':Nat),HasL S w p' l->n<=c'->c'<=maxLen->IsBlk (((W0.setCell ⟨g,0,none⟩ (.slice p' n c')).setCells w.heap.size 0 [.int .u8 (vk:Int),.bool vb,.int .i64 vn,.string (bs vs),.slice pl vl.length cl,.slice pf vf.length cf]).alloc (.cells #[.int .u8 (vk:Int),.bool vb,.int .i64 vn,.string (bs vs),.slice pl vl.length cl,.slice pf vf.length cf] 52)) w.heap.size #[.int .u8 (vk:Int),.bool vb,.int .i64 vn,.string (bs vs),.slice pl vl.length cl,.slice pf vf.length cf] 52∧
   NextOut B S g w (.mk vk vb vn vs vl vf,(l,bad)) (.returned (.agg #[.int .u8 (vk:Int),.bool vb,.int .i64 vn,.string (bs vs),.slice pl vl.length cl,.slice pf vf.length cf])) (((W0.setCell ⟨g,0,none⟩ (.slice p' n c')).setCells w.heap.size 0 [.int .u8 (vk:Int),.bool vb,.int .i64 vn,.string (bs vs),.slice pl vl.length cl,.slice pf vf.length cf]).alloc (.cells #[.int .u8 (vk:Int),.bool vb,.int .i64 vn,.string (bs vs),.slice pl vl.length cl,.slice pf vf.length cf] 52)):=by
   intro p' c' hl hn hc
   have hoth:∀b,S b->(W0.setCell ⟨g,0,none⟩ (.slice p' n c')).heap[b]?=W0.heap[b]?:=fun b hb=>Below.heap_setCell _ _ _ _ (show b≠g by have:=HS.out b hb;omega)
   have hrd:RdJ S (W0.setCell ⟨g,0,none⟩ (.slice p' n c')) g (l,bad):=⟨p',c',by
    have h9:=HG0.out.set 0 (.slice p' n c')
    have h10:IsBlk (W0.setCell ⟨g,0,none⟩ (.slice p' n c')) g #[.slice p' n c',.bool bad] 78:=by simpa using h9
    rw[HN.out]at h10⊢
    exact h10,(hl.ext HB0.out).ext_to (fun _ h=>h) (fun b hb _=>hoth b hb),by rw[HN.out]at hn;exact hn,hc,by rw[HN.out]at hlm';show l.length<=_;omega⟩
   have h1:=next_fin (B:=B) (g:=g) (S:=S) (w:=w) (W1:=W0.setCell ⟨g,0,none⟩ (.slice p' n c')) (r:=(.mk vk vb vn vs vl vf,(l,bad))) [.int .u8 (vk:Int),.bool vb,.int .i64 vn,.string (bs vs),.slice pl vl.length cl,.slice pf vf.length cf] (HZ.out.set_other (a:=⟨g,0,none⟩) hne _) rfl (Nat.le_refl _) hBw ((HV.out.ext HB0.out).ext_to (fun _ h=>h) (fun b hb _=>hoth b hb)) hrd ((Rd.of_below HB0.out hBw).set hB _) HS.out hgl
   obtain⟨h2,h3,h4,h5⟩:=h1
   generalize(W0.setCell ⟨g,0,none⟩ (.slice p' n c')).setCells w.heap.size 0 _=W3 at h2 h3 h4 h5⊢
   have hb3:Below W3.heap.size W3 (W3.alloc (.cells #[.int .u8 (vk:Int),.bool vb,.int .i64 vn,.string (bs vs),.slice pl vl.length cl,.slice pf vf.length cf] 52)):=(Below.refl _ _).alloc (Nat.le_refl _) _
   exact⟨h2.ext hb3,_,rfl,h3.ext hb3,h4.ext hb3,h5.trans (Rd.of_below hb3 (by have:=h5.2.1;omega))⟩
  have hlt1:HasL S w (some ⟨g1,o+6,none⟩) l:=hasL_tail HL.out
  have HLT:=hid hlt1
  have HFIN:=hid hfin
  clear hfin hlt1
  by_cases hc1:c=1
  ·subst hc1
   obtain rfl:n=0:=by omega
   have hl0:l=[]:=List.eq_nil_of_length_eq_zero HN.out.symm
   have HF:=hid (HFIN.out (some ⟨g1,o,none⟩) 0 (by rw[hl0];intro i hi;simp at hi) (Nat.le_refl _) (by unfold maxLen;omega))
   clear HFIN hl0
   go_wp2
   refine bodyPost_ret (results_c (p:=4) (ty:=52) Tryz.results42 rfl HF.out.1 Tryz.underlying52 rfl (by kernel_rfl)) rfl HF.out.2
  ·have HF:=hid (HFIN.out (some ⟨g1,o+6,none⟩) (c-1) HLT.out (by omega) (by omega))
   have hc2:c-1≠0:=by omega
   have hc3:1<c:=by omega
   clear HFIN
   go_wp2
   refine bodyPost_ret (results_c (p:=4) (ty:=52) Tryz.results42 rfl HF.out.1 Tryz.underlying52 rfl (by kernel_rfl)) rfl HF.out.2
theorem wrap_ofI (n:Int):IntKind.u64.wrap n=((ofI n:Nat):Int):=by
 unfold ofI
 simp only[IntKind.wrap,IntKind.bits,IntKind.signed]
 first|omega|(simp;omega)
theorem fld2 (k:Value) (b n s l f:Value) (w:World):(Instr.field 52 (.agg #[k,b,n,s,l,f]) 2).run Tryz.prog w=.ok n w:=by kernel_rfl
theorem fld3 (k:Value) (b n s l f:Value) (w:World):(Instr.field 52 (.agg #[k,b,n,s,l,f]) 3).run Tryz.prog w=.ok s w:=by kernel_rfl
theorem fld4 (k:Value) (b n s l f:Value) (w:World):(Instr.field 52 (.agg #[k,b,n,s,l,f]) 4).run Tryz.prog w=.ok l w:=by kernel_rfl
def NumOut (B:Nat) (S:Nat->Prop) (g:Nat) (w:World) (r:Nat×RSt) (e':Ending) (w':World):Prop:=e'=.returned (.int .u64 (r.1:Int))/\RdJ S w' g r.2/\Rd B g w w'
set_option maxHeartbeats 4000000 in
theorem numb_any (B g:Nat) (st:RSt) (S:Nat->Prop) (w:World) (hB:B<=g) (h:RdJ S w g st) (hS:∀b,S b->b<g):
 Calls Tryz.prog 41 #[.pointer (some ⟨g,0,none⟩)] w (NumOut B S g w (numbP st)):=by
 have HS:=hid hS
 have HN:Hid (Calls Tryz.prog 42 #[.pointer (some ⟨g,0,none⟩),.int .u8 2] w (NextOut B S g w (nextP 2 st))):=hid (next_any B 2 g st S w hB (by omega) h hS)
 obtain⟨R,hR⟩:∃R,R=numbP st:=⟨_,rfl⟩
 rw[←hR]
 unfold numbP at hR
 generalize nextP 2 st=q at hR HN
 obtain⟨v,l,bad⟩:=q
 have HR:=hid hR
 clear h hS hR
 go_enter Tryz.func41,Tryz.ntmps41
 go_wp2_with fail
 go_at_call 42
 refine HN.out.mono ?_
 rintro e' w1 ⟨cs,rfl,hv,hr,hd⟩
 obtain⟨vk,vb,vn,vs,vl,vf⟩:=v
 have hv':HasVal S w1 (.mk vk vb vn vs vl vf) cs:=hv
 obtain⟨pl,cl,pf,cf,rfl,_⟩:=hasVal_mk.1 hv'
 obtain⟨p,c,hg,hl,hx⟩:=hr
 have hg':IsBlk w1 g #[.slice p l.length c,.bool bad] 78:=hg
 have HG:=hid hg'
 have HL:Hid (HasL S w1 p l):=hid hl
 have HX:Hid (l.length<=c/\c<=maxLen/\l.length<=1073741824):=hid hx
 have HD:=hid hd
 have hgl:=hg'.lt
 have c0:=hg'.cell (i:=0) rfl
 have c1:=hg'.cell (i:=1) rfl
 have f0:=hg'.frozen 0
 have f1:=hg'.frozen 1
 have hI:=wrap_ofI vn
 have hfd:=fld2 (.int .u8 (vk:Int)) (.bool vb) (.int .i64 vn) (.string (bs vs)) (.slice pl vl.length cl) (.slice pf vf.length cf)
 have hR2:R=(ofI vn,(l,bad||decide (vn<0))):=HR.out
 have HR2:=hid hR2
 clear hv hv' hg hg' hl hx hd hR2 HR HN
 have hfin:∀b:Bool,RdJ S (w1.setCell ⟨g,1,none⟩ (.bool b)) g (l,b)/\Rd B g w (w1.setCell ⟨g,1,none⟩ (.bool b)):=fun b=>
  ⟨⟨p,c,by simpa using HG.out.set 1 (.bool b),HL.out.ext_to (fun _ h=>h) (fun z hz _=>Below.heap_setCell _ _ _ _ (show z≠g by have:=HS.out z hz;omega)),HX.out⟩,HD.out.set hB _⟩
 have HFIN:=hid hfin
 clear hfin
 cases bad with
 |true=>
  go_wp2
  go_ret
  rw[HR2.out]
  exact⟨rfl,HFIN.out true⟩
 |false=>
  by_cases hn:vn<0
  ·have hd:decide (vn<0)=true:=decide_eq_true hn
   go_wp2
   go_ret
   rw[HR2.out,hd]
   exact⟨rfl,HFIN.out true⟩
  ·have hn':0<=vn:=by omega
   have hd:decide (vn<0)=false:=decide_eq_false hn
   clear hn
   go_wp2
   go_ret
   rw[HR2.out,hd]
   exact⟨rfl,HFIN.out false⟩
def OpenOut (w:World) (st:RSt) (e':Ending) (w':World):Prop:=∃g,e'=.returned (.pointer (some ⟨g,0,none⟩))/\w.heap.size<=g/\RdJ (fun b=>w.heap.size<=b/\b<g) w' g st/\Below w.heap.size w w'
set_option maxHeartbeats 4000000 in
theorem opened_any (s:List UInt8) (w:World) (hT:U8T w) (hs:s.length<=281474976710656):
 Calls Tryz.prog 40 #[.string (bs s),.int .i64 5] w (OpenOut w (openedP s 5)):=by
 have HRD:=hid (read_any s w hT hs)
 unfold openedP
 generalize rdV s=r at HRD⊢
 obtain⟨v,why⟩:=r
 clear hT
 obtain⟨st,hst⟩:∃st:RSt,st=(listV v,decide (why≠0\/kindV v≠5\/(listV v).length≠5)):=⟨_,rfl⟩
 show Calls Tryz.prog 40 #[.string (bs s),.int .i64 5] w (OpenOut w (listV v,decide (why≠0\/kindV v≠5\/(listV v).length≠5)))
 rw[←hst]
 have HST:=hid hst
 clear hst
 go_enter Tryz.func40,Tryz.ntmps40
 go_wp2_with fail
 go_at_call 80
 refine HRD.out.mono ?_
 rintro e' w1 ⟨cs,rfl,hv,hb⟩
 obtain⟨vk,vb,vn,vs,vl,vf⟩:=v
 have hv':HasVal (fun b=>w.heap.size<=b) w1 (.mk vk vb vn vs vl vf) cs:=hv
 obtain⟨pl,cl,pf,cf,rfl,hbd,hL,_⟩:=hasVal_mk.1 hv'
 have hvk:vk<256:=hbd.1
 have hll:vl.length<=1073741824:=hbd.2.2.2.2.1
 have hlc:vl.length<=cl:=hbd.2.2.2.2.2.2.1
 have hcm:cl<=maxLen:=hbd.2.2.2.2.2.2.2.1
 have HB:=hid hb
 have hsz:=hb.size
 have hL2:HasL (fun b=>w.heap.size<=b/\b<w1.heap.size) w1 pl vl:=fun i hi=>by
  obtain⟨g,o,cs,e1,h2,h3⟩:=hL i hi
  exact⟨g,o,cs,e1,⟨⟨h2.1,h2.2.1⟩,h2.2⟩,relV.lt h3⟩
 have hfin:∀(b:Bool) (o1 o2:Obj),o2=.cells #[.slice pl vl.length cl,.bool b] 78->OpenOut w (vl,b) (.returned (.pointer (some ⟨w1.heap.size+1,0,none⟩))) ((w1.alloc o1).alloc o2):=by
  intro b o1 o2 ho
  have hb1:Below w1.heap.size w1 ((w1.alloc o1).alloc o2):=((Below.refl _ _).alloc (Nat.le_refl _) _).alloc (by simp) _
  refine⟨w1.heap.size+1,rfl,by omega,⟨pl,cl,?_,(hL2.ext hb1).ext_to (fun z hz=>⟨hz.1,by have:=hz.2;omega⟩) (fun _ _ _=>rfl),hlc,hcm,hll⟩,below_ext HB.out hb1⟩
  rw[ho]
  exact IsBlk.new_at (by simp)
 have HFIN:=hid hfin
 obtain⟨n,hn⟩:∃n,n=vl.length:=⟨_,rfl⟩
 rw[←hn]at HFIN hll hlc⊢
 have HN:=hid hn
 clear hv hv' hbd hL hL2 hfin hb hn HRD
 have hst:st=(vl,decide (why≠0\/vk≠5\/n≠5)):=by rw[HN.out];exact HST.out
 have HST2:=hid hst
 clear hst HST
 by_cases hw:why=0
 case neg=>
  have hwb:(why !=0)=true:=by rw[bne_iff_ne];exact hw
  have HS3:Hid (st=(vl,true)):=hid (by rw[HST2.out,decide_eq_true (.inl hw)])
  clear hw
  go_wp2
  go_ret
  rw[HS3.out]
  exact HFIN.out true _ _ rfl
 subst hw
 by_cases hk:vk=5
 case neg=>
  have hwb:((vk:Int) !=5)=true:=by rw[bne_iff_ne];omega
  have HS3:Hid (st=(vl,true)):=hid (by rw[HST2.out,decide_eq_true (.inr (.inl hk))])
  clear hk
  go_wp2
  go_ret
  rw[HS3.out]
  exact HFIN.out true _ _ rfl
 subst hk
 by_cases hl:n=5
 case neg=>
  have hwb:((n:Int) !=5)=true:=by rw[bne_iff_ne];omega
  have HS3:Hid (st=(vl,true)):=hid (by rw[HST2.out,decide_eq_true (.inr (.inr hl))])
  clear hl
  go_wp2
  go_ret
  rw[HS3.out]
  exact HFIN.out true _ _ rfl
 have hwb:((n:Int) !=5)=false:=by rw[bne_eq_false_iff_eq];omega
 have HS3:Hid (st=(vl,false)):=hid (by rw[HST2.out,decide_eq_false (by simp[hl])])
 clear hl
 go_wp2
 go_ret
 rw[HS3.out]
 exact HFIN.out false _ _ rfl
end Go.Proofs.YtcihbnpckicljaaGreatDoor
