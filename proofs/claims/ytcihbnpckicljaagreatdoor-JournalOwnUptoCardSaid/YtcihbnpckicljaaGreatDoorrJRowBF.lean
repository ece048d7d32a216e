/- Blocks and revisions among a row's arguments. No conditions. -/
import Derived.Test.YtcihbnpckicljaaGreatDoorrJValsF
import Derived.Test.YtcihbnpckicljaaGreatDoorrJRowF
import Derived.Test.YtcihbnpckicljaaGreatDoorrGR
import Derived.Test.YtcihbnpckicljaaGreatDoorrJReadP
import Derived.SliceStrings
import Derived.Carry
set_option linter.unusedVariables false
set_option linter.unusedSimpArgs false
namespace Go.Proofs.YtcihbnpckicljaaGreatDoor
open Go Go.RowKit Go.ChangeShapes Go.WideShapes Go.ChangeAt Go.Deep
open Go.Lib(hid)
set_option maxRecDepth 100000
theorem five_of {α:Type} {l:List α} (h:l.length=5):∃a b c d e,l=[a,b,c,d,e]:=by
 match l,h with
 |[a,b,c,d,e],_=>exact⟨a,b,c,d,e,rfl⟩
theorem ten_of {α:Type} {l:List α} (h:l.length=10):∃a b c d e f g i j k,l=[a,b,c,d,e,f,g,i,j,k]:=by
 match l,h with
 |[a,b,c,d,e,f,g,i,j,k],_=>exact⟨a,b,c,d,e,f,g,i,j,k,rfl⟩
theorem le_flat :∀(ss:List ByteArray) {t:ByteArray},t∈ss->t.data.toList.length<=(ss.flatMap fun s=>s.data.toList).length
 |s::ss,t,h=>by
  rw[List.flatMap_cons,List.length_append]
  rcases List.mem_cons.1 h with rfl|h
  ·omega
  ·have:=le_flat ss h
   omega
theorem u64_nat {m:Int} (hw:(Lit.int IntKind.u64 m).wf=true):∃a:Nat,m=(a:Int)/\a<18446744073709551616:=by
 have e1:IntKind.u64.min=0:=rfl
 have e2:IntKind.u64.max=18446744073709551615:=rfl
 have hwf:0<=m/\m<=18446744073709551615:=by simpa[Lit.wf,e1,e2]using hw
 obtain⟨a,rfl⟩:=Int.eq_ofNat_of_zero_le hwf.1
 exact⟨a,rfl,by omega⟩
section
variable {H:Type} {enc:TypeId×Value->H}
theorem bulk_strs (ss:List ByteArray):Rows.uptoBulkAll (strs (H:=H) ss)=ss.length+(ss.flatMap fun s=>s.data.toList).length:=by
 induction ss with
 |nil=>rfl
 |cons s ss ih=>
  show Rows.uptoBulkAll (DataW.lit (.string s.data.toList)::strs ss)=_
  rw[Rows.uptoBulkAll,Rows.uptoBulk,ih]
  simp only[List.length_cons,List.flatMap_cons,List.length_append]
  omega
theorem open_strsC {base:Nat} {sp:Nat->Bool} {held:Bool} {w:World} {fuel:Nat} {cs:List Value} {x:DataW H×List MemPlace} (hf:DataW.trod enc Tryz.prog w base sp held fuel 25 cs=some x):
 ∃(p:Option Addr) (cap:Nat) (l:List (List UInt8)),cs=[.slice p l.length cap]/\(p=none->cap=0)/\l.length<=cap/\cap<=maxLen/\l.length<=Rows.uptoBulk x.1/\(∀s∈l,s.length<=Rows.uptoBulk x.1)/\HasS (fun _=>True) w p l:=by
 rcases open_strings Tryz.underlying25 Tryz.underlying9 (by kernel_rfl) hf with⟨rfl,rfl⟩|⟨a,len,cap,ss,rfl,_,hl,hm,hlen,rfl,hcell,hmx⟩
 ·exact⟨none,0,[],rfl,fun _=>rfl,Nat.le_refl _,by unfold maxLen;omega,by simp,fun s hs=>(by cases hs),fun k hk=>by simp at hk⟩
 ·have hsl:len<=ss.length:=by rw[hlen];split<;>omega
  have htl:(ss.take len).length=len:=by rw[List.length_take];omega
  have hbk:Rows.uptoBulk (DataW.slice (strs (H:=H) (ss.take len)) (strs (ss.drop len)))=(ss.take len).length+((ss.take len).flatMap fun s=>s.data.toList).length+Rows.uptoBulkAll (strs (H:=H) (ss.drop len))+1:=by
   rw[Rows.uptoBulk,bulk_strs]
  simp only[]at hbk⊢
  rw[hbk]
  refine⟨some a,cap,(ss.take len).map fun s=>s.data.toList,by rw[List.length_map,htl],fun h=>(by cases h),by rw[List.length_map,htl];exact hl,hm,by rw[List.length_map];omega,fun s hs=>?_,fun k hk=>?_⟩
  ·obtain⟨t,ht,rfl⟩:=List.mem_map.1 hs
   have h1:=le_flat (ss.take len) ht
   omega
  ·rw[List.length_map,htl]at hk
   have h1:=hcell k (by omega)
   have h00:=hcell 0 (by omega)
   obtain⟨b,off,spot⟩:=a
   have hspot:spot=none:=by simpa[Addr.add]using World.cell?_spot h00
   subst hspot
   refine⟨b,off,rfl,trivial,by simpa[Addr.add]using cell_lt h00,?_⟩
   rw[←Go.WideShapes.add_plain,h1,List.getElem_map,bs_back,List.getElem_take,List.getD_eq_getElem?_getD,List.getElem?_eq_getElem (by omega)]
   rfl
theorem open_revC {base:Nat} {sp:Nat->Bool} {held:Bool} {w:World} {fuel:Nat} {cs:List Value} {x:DataW H×List MemPlace} (h:DataW.trod enc Tryz.prog w base sp held fuel 54 cs=some x) (hbig:Rows.uptoBulk x.1<=1048576):
 ∃r,HasRev (fun _=>True) w r cs/\r.t.length+bulkV r.v+1<=Rows.uptoBulk x.1:=by
 have hu:Tryz.prog.underlying 54=some (.struct (Tryz.prog.fieldsOf 54)):=by kernel_rfl
 have hf:(Tryz.prog.fieldsOf 54).toList.map (fun f=>(f.type,f.offset))=[(47,0),(9,1),(22,2),(22,3),(52,4)]:=by kernel_rfl
 have hfs:(Tryz.prog.fieldsOf 54).size=5:=by kernel_rfl
 have hc10:Tryz.prog.cellsOf 54=10:=by kernel_rfl
 obtain⟨xs,n,_,hx,hlen,hl,hall⟩:=DataW.trod_struct hu h
 obtain⟨c0,c1,c2,c3,c4,c5,c6,c7,c8,c9,rfl⟩:=ten_of (hlen.trans hc10)
 obtain⟨x0,x1,x2,x3,x4,rfl⟩:=five_of (hl.trans hfs)
 have at_:∀(i:Nat) (t:TypeId) (o:Nat),[(47,0),(9,1),(22,2),(22,3),(52,4)][i]?=some (t,o)->DataW.trod enc Tryz.prog w base sp held n t (([c0,c1,c2,c3,c4,c5,c6,c7,c8,c9].drop o).take (Tryz.prog.cellsOf t))=[x0,x1,x2,x3,x4][i]?:=by
  intro i t o hi
  rw[←hf,List.getElem?_map,Option.map_eq_some_iff]at hi
  obtain⟨f,hfi,he⟩:=hi
  rw[Array.getElem?_toList]at hfi
  have:=hall i f hfi
  simp only[Prod.mk.injEq]at he
  rw[he.1,he.2]at this
  exact this
 have a0:=at_ 0 47 0 rfl
 have a1:=at_ 1 9 1 rfl
 have a2:=at_ 2 22 2 rfl
 have a3:=at_ 3 22 3 rfl
 have a4:=at_ 4 52 4 rfl
 clear at_ hall
 have k0:Tryz.prog.cellsOf 47=1:=by kernel_rfl
 have k1:Tryz.prog.cellsOf 9=1:=by kernel_rfl
 have k2:Tryz.prog.cellsOf 22=1:=by kernel_rfl
 have k4:Tryz.prog.cellsOf 52=6:=by kernel_rfl
 rw[k0]at a0
 rw[k1]at a1
 rw[k2]at a2 a3
 rw[k4]at a4
 simp at a0 a1 a2 a3 a4
 obtain⟨kn,e0,y0,w0⟩:=DataW.trod_int (k:=.u8) Tryz.underlying47 a0
 obtain⟨ss,e1,y1,w1⟩:=DataW.trod_string Tryz.underlying9 a1
 obtain⟨dn,e2,y2,w2⟩:=DataW.trod_int (k:=.u64) Tryz.underlying22 a2
 obtain⟨nn,e3,y3,w3⟩:=DataW.trod_int (k:=.u64) Tryz.underlying22 a3
 simp only[List.cons.injEq,and_true]at e0 e1 e2 e3
 subst e0
 subst e1
 subst e2
 subst e3
 subst hx
 have hbx:Rows.uptoBulk (DataW.agg (List.map (fun x=>x.1) [x0,x1,x2,x3,x4]))=Rows.uptoBulk x0.1+(Rows.uptoBulk x1.1+(Rows.uptoBulk x2.1+(Rows.uptoBulk x3.1+(Rows.uptoBulk x4.1+0))))+1:=by
  simp only[List.map_cons,List.map_nil,Rows.uptoBulk,Rows.uptoBulkAll]
 simp only[]at hbig⊢
 rw[hbx]at hbig⊢
 clear hbx
 have b1:Rows.uptoBulk x1.1=ss.data.toList.length+1:=by rw[y1,Rows.uptoBulk]
 obtain⟨v,hv,hvb⟩:=open_val _ n _ x4 a4 (Nat.lt_succ_self _) (by omega)
 have hkf:0<=kn/\kn<=255:=by
  have e1:IntKind.u8.min=0:=rfl
  have e2:IntKind.u8.max=255:=rfl
  simpa[Lit.wf,e1,e2]using w0
 obtain⟨kk,rfl⟩:=Int.eq_ofNat_of_zero_le hkf.1
 obtain⟨qd,rfl,hqd⟩:=u64_nat w2
 obtain⟨qn,rfl,hqn⟩:=u64_nat w3
 exact⟨⟨kk,ss.data.toList,qd,qn,v⟩,⟨[c4,c5,c6,c7,c8,c9],by simp only[bs_back],⟨(show kk<256 by omega),by simp only[];omega,hqd,hqn⟩,hv⟩,by simp only[];omega⟩
theorem open_revsC {base:Nat} {sp:Nat->Bool} {held:Bool} {w:World} {fuel:Nat} {cs:List Value} {x:DataW H×List MemPlace} (hf:DataW.trod enc Tryz.prog w base sp held fuel 26 cs=some x) (hbig:Rows.uptoBulk x.1<=1048576):
 ∃(p:Option Addr) (cap:Nat) (l:List DRev),cs=[.slice p l.length cap]/\l.length<=cap/\cap<=maxLen/\l.length<=Rows.uptoBulk x.1/\(∀r∈l,r.t.length<=Rows.uptoBulk x.1/\bulkV r.v<=Rows.uptoBulk x.1)/\RowIn HasRev 10 (fun _=>True) w p l:=by
 have hc10:Tryz.prog.cellsOf 54=10:=by kernel_rfl
 rcases open_slice Tryz.underlying26 hf with⟨h1,h2⟩|⟨a,len,cap,mm,n',D,Pl,h1,hb,hlc,hcm,hmm,h2,hi⟩
 ·subst h1
  exact⟨none,0,[],rfl,Nat.le_refl _,by unfold maxLen;omega,by simp,fun r hr=>(by cases hr),fun i hi=>by simp at hi⟩
 ·subst h1
  have hlm:len<=mm:=by rw[hmm];split<;>omega
  have hbe:Rows.uptoBulk x.1=Rows.uptoBulkAll ((List.range len).map D)+Rows.uptoBulkAll ((List.range (mm-len)).map fun j=>D (len+j))+1:=by rw[h2,Rows.uptoBulk]
  have hel:∀i,i<len->∃r:DRev,(∃cs',w.cells? base (a.add (i*10)) 10=some cs'/\HasRev (fun _=>True) w r cs')/\r.t.length<=Rows.uptoBulk x.1/\bulkV r.v<=Rows.uptoBulk x.1:=by
   intro i hil
   obtain⟨cs',hc,ht⟩:=hi i (by omega)
   rw[hc10]at hc
   have hd:=bulk_mem ((List.range len).map D) (D i) (List.mem_map.2 ⟨i,List.mem_range.2 hil,rfl⟩)
   have hdb:Rows.uptoBulk (D i)<=1048576:=by omega
   obtain⟨r,hr,h3⟩:=open_revC (x:=(D i,Pl i)) ht hdb
   have h3':r.t.length+bulkV r.v+1<=Rows.uptoBulk (D i):=h3
   exact⟨r,⟨cs',hc,hr⟩,by omega,by omega⟩
  obtain⟨l,hll,hlq⟩:=list_of len hel
  subst hll
  have hbl:l.length<=Rows.uptoBulkAll ((List.range l.length).map D):=by
   have:∀ds:List (DataW H),ds.length<=Rows.uptoBulkAll ds:=by
    intro ds
    induction ds with
    |nil=>simp
    |cons d ds ih=>
     have h1:1<=Rows.uptoBulk d:=by rw[Rows.uptoBulk.eq_def];split<;>omega
     rw[Rows.uptoBulkAll,List.length_cons]
     omega
   simpa using this ((List.range l.length).map D)
  refine⟨some a,cap,l,rfl,hlc,hcm,by omega,fun r hr=>?_,fun i hil=>?_⟩
  ·obtain⟨i,hi',rfl⟩:=List.getElem_of_mem hr
   exact(hlq i hi').2
  ·have hsp:a.spot=none:=by
    obtain⟨⟨cs',hc,_⟩,_⟩:=hlq 0 (by omega)
    obtain⟨_,hl6,hat⟩:=World.cells?_some hc
    have h0:=hat 0 (by omega)
    rw[List.getElem?_eq_getElem (by omega)]at h0
    simpa[Addr.add]using World.cell?_spot h0
   obtain⟨⟨cs',hc,hv⟩,_⟩:=hlq i hil
   obtain⟨ab,ao,asp⟩:=a
   simp only[]at hsp
   subst hsp
   rw[Go.WideShapes.add_plain]at hc
   exact⟨ab,ao,cs',rfl,(cells_at hc (by omega) rfl).1,hv⟩
theorem okR_bulk {r:DRev} {n:Nat} (hn:n<=1048576) (h1:r.t.length<=n) (h2:bulkV r.v<=n):okR r:=⟨by omega,by have:=tlV r.v;omega⟩
theorem open_revs {r:Reach} {b0 base:Nat} {sp:Nat->Bool} {held:Bool} {w:World} {v:Value} {d:DataW H} {ps:List MemPlace} (hv:Value.okWide Tryz.prog w r b0 26 v) (h:DataW.Trod enc Tryz.prog w base sp held 26 v d ps) (hbig:Rows.uptoBulk d<=1048576):
 ∃(p:Option Addr) (cap:Nat) (l:List DRev),v=.slice p l.length cap/\l.length<=cap/\cap<=maxLen/\l.length<=Rows.uptoBulk d/\(∀r∈l,okR r)/\RowIn HasRev 10 (fun _=>True) w p l:=by
 obtain⟨a0,len,cap,rfl⟩:=okWide_slice Tryz.underlying26 hv
 obtain⟨fuel,hf⟩:=h
 obtain⟨p,cap',l,h1,h2,h3,h4,h5,h6⟩:=open_revsC hf hbig
 simp[Value.cells]at h1
 obtain⟨rfl,rfl,rfl⟩:=h1
 exact⟨_,_,l,rfl,h2,h3,h4,fun r hr=>okR_bulk hbig (h5 r hr).1 (h5 r hr).2,h6⟩
theorem open_strs {r:Reach} {b0 base:Nat} {sp:Nat->Bool} {held:Bool} {w:World} {v:Value} {d:DataW H} {ps:List MemPlace} (hv:Value.okWide Tryz.prog w r b0 25 v) (h:DataW.Trod enc Tryz.prog w base sp held 25 v d ps):
 ∃(p:Option Addr) (cap:Nat) (l:List (List UInt8)),v=.slice p l.length cap/\(p=none->cap=0)/\l.length<=cap/\cap<=maxLen/\l.length<=Rows.uptoBulk d/\(∀s∈l,s.length<=Rows.uptoBulk d)/\HasS (fun _=>True) w p l:=by
 obtain⟨a0,len,cap,rfl⟩:=okWide_slice Tryz.underlying25 hv
 obtain⟨fuel,hf⟩:=h
 obtain⟨p,cap',l,h1,h0,h2,h3,h4,h5,h6⟩:=open_strsC hf
 simp[Value.cells]at h1
 obtain⟨rfl,rfl,rfl⟩:=h1
 exact⟨_,_,l,rfl,h0,h2,h3,h4,h5,h6⟩
theorem open_block {r:Reach} {b0 base:Nat} {sp:Nat->Bool} {held:Bool} {w:World} {v:Value} {d:DataW H} {ps:List MemPlace} (hv:Value.okWide Tryz.prog w r b0 28 v) (h:DataW.Trod enc Tryz.prog w base sp held 28 v d ps) (hbig:Rows.uptoBulk d<=1048576):
 ∃(b:DBlk) (ps pr:Option Addr) (cp cr:Nat),v=.agg #[.int .u64 (b.seq:Int),.string (bs b.prev),.string (bs b.root),.slice ps b.sts.length cp,.slice pr b.revs.length cr]/\HasBlk (fun _=>True) w b [.int .u64 (b.seq:Int),.string (bs b.prev),.string (bs b.root),.slice ps b.sts.length cp,.slice pr b.revs.length cr]/\(ps=none->cp=0)/\(∀r∈b.revs,okR r):=by
 have hu:Tryz.prog.underlying 28=some (.struct (Tryz.prog.fieldsOf 28)):=by kernel_rfl
 have hf:(Tryz.prog.fieldsOf 28).toList.map (fun f=>(f.type,f.offset))=[(22,0),(9,1),(9,2),(25,3),(26,4)]:=by kernel_rfl
 have hfs:(Tryz.prog.fieldsOf 28).size=5:=by kernel_rfl
 obtain⟨cs,rfl,hsz⟩:=okWide_struct hu hv
 obtain⟨c0,c1,c2,c3,c4,rfl⟩:∃c0 c1 c2 c3 c4,cs= #[c0,c1,c2,c3,c4]:=by
  have h2:=hsz.trans (show _=5 by kernel_rfl)
  obtain⟨l⟩:=cs
  match l,h2 with
  |[c0,c1,c2,c3,c4],_=>exact⟨c0,c1,c2,c3,c4,rfl⟩
 obtain⟨fuel,hf1⟩:=h
 obtain⟨xs,n,_,hx,_,hl,hall⟩:=DataW.trod_struct hu hf1
 obtain⟨x0,x1,x2,x3,x4,rfl⟩:=five_of (hl.trans hfs)
 have at_:∀(i:Nat) (t:TypeId) (o:Nat),[(22,0),(9,1),(9,2),(25,3),(26,4)][i]?=some (t,o)->DataW.trod enc Tryz.prog w base sp held n t (([c0,c1,c2,c3,c4].drop o).take (Tryz.prog.cellsOf t))=[x0,x1,x2,x3,x4][i]?:=by
  intro i t o hi
  rw[←hf,List.getElem?_map,Option.map_eq_some_iff]at hi
  obtain⟨f,hfi,he⟩:=hi
  rw[Array.getElem?_toList]at hfi
  have:=hall i f hfi
  simp only[Prod.mk.injEq]at he
  rw[he.1,he.2]at this
  exact this
 have a0:=at_ 0 22 0 rfl
 have a1:=at_ 1 9 1 rfl
 have a2:=at_ 2 9 2 rfl
 have a3:=at_ 3 25 3 rfl
 have a4:=at_ 4 26 4 rfl
 have k0:Tryz.prog.cellsOf 22=1:=by kernel_rfl
 have k1:Tryz.prog.cellsOf 9=1:=by kernel_rfl
 have k3:Tryz.prog.cellsOf 25=1:=by kernel_rfl
 have k4:Tryz.prog.cellsOf 26=1:=by kernel_rfl
 rw[k0]at a0
 rw[k1]at a1 a2
 rw[k3]at a3
 rw[k4]at a4
 simp at a0 a1 a2 a3 a4
 obtain⟨q,e0,y0,w0⟩:=DataW.trod_int (k:=.u64) Tryz.underlying22 a0
 obtain⟨s1,e1,y1,w1⟩:=DataW.trod_string Tryz.underlying9 a1
 obtain⟨s2,e2,y2,w2⟩:=DataW.trod_string Tryz.underlying9 a2
 simp only[Prod.mk.injEq]at hx
 have hd:Rows.uptoBulk d=Rows.uptoBulk x0.1+(Rows.uptoBulk x1.1+(Rows.uptoBulk x2.1+(Rows.uptoBulk x3.1+(Rows.uptoBulk x4.1+0))))+1:=by
  rw[hx.1]
  simp only[List.map_cons,List.map_nil,Rows.uptoBulk,Rows.uptoBulkAll]
 rw[hd]at hbig
 have b1:Rows.uptoBulk x1.1=s1.data.toList.length+1:=by rw[y1,Rows.uptoBulk]
 have b2:Rows.uptoBulk x2.1=s2.data.toList.length+1:=by rw[y2,Rows.uptoBulk]
 obtain⟨p3,cap3,l3,e3,h30,h31,h32,h33,h34,h35⟩:=open_strsC a3
 obtain⟨p4,cap4,l4,e4,h41,h42,h43,h44,h45⟩:=open_revsC a4 (by omega)
 simp only[List.cons.injEq,and_true]at e0 e1 e2 e3 e4
 subst e0
 subst e1
 subst e2
 subst e3
 subst e4
 obtain⟨qq,rfl,hqq⟩:=u64_nat w0
 exact⟨⟨qq,s1.data.toList,s2.data.toList,l3,l4⟩,p3,p4,cap3,cap4,by simp only[bs_back],
  ⟨p3,cap3,p4,cap4,rfl,⟨hqq,by simp only[];omega,by simp only[];omega,by simp only[];omega,by simp only[];omega,h31,h32,h41,h42,fun s hs=>by have:=h34 s hs;omega⟩,h35,h45⟩,h30,
  fun r hr=>okR_bulk (n:=Rows.uptoBulk x4.1) (by omega) (h44 r hr).1 (h44 r hr).2⟩
theorem open_rev {r:Reach} {b0 base:Nat} {sp:Nat->Bool} {held:Bool} {w:World} {v:Value} {d:DataW H} {ps:List MemPlace} (hv:Value.okWide Tryz.prog w r b0 54 v) (h:DataW.Trod enc Tryz.prog w base sp held 54 v d ps) (hbig:Rows.uptoBulk d<=1048576):
 ∃(x:DRev) (cs:List Value),v=.agg cs.toArray/\HasRev (fun _=>True) w x cs/\okR x:=by
 have hu:Tryz.prog.underlying 54=some (.struct (Tryz.prog.fieldsOf 54)):=by kernel_rfl
 obtain⟨cs,rfl,hsz⟩:=okWide_struct hu hv
 obtain⟨fuel,hf⟩:=h
 obtain⟨x,h1,h2⟩:=open_revC (x:=(d,ps)) hf hbig
 have h2':x.t.length+bulkV x.v+1<=Rows.uptoBulk d:=h2
 exact⟨x,cs.toList,by simp,h1,okR_bulk hbig (by omega) (by omega)⟩
end
theorem mk_blk {w:World} {seq:Nat} {prev:List UInt8} {sts:List (List UInt8)} {revs:List DRev} {ps pr:Option Addr} {cp cr:Nat} (hq:seq<18446744073709551616) (hp:prev.length<=1048576)
 (hs:HasS (fun _=>True) w ps sts) (hs1:sts.length<=cp) (hs2:cp<=maxLen) (hs3:sts.length<=1048576) (hs4:∀s∈sts,s.length<=1048576) (hr:RowIn HasRev 10 (fun _=>True) w pr revs) (hr1:revs.length<=cr) (hr2:cr<=maxLen) (hr3:revs.length<=1048576):
 HasBlk (fun _=>True) w ⟨seq,prev,zero32,sts,revs⟩ [.int .u64 (seq:Int),.string (bs prev),.string (bs zero32),.slice ps sts.length cp,.slice pr revs.length cr]:=
 ⟨ps,cp,pr,cr,rfl,⟨hq,Nat.le_trans hp (by decide),(show zero32.length<=1073741824 by decide),Nat.le_trans hs3 (by decide),Nat.le_trans hr3 (by decide),hs1,hs2,hr1,hr2,fun s hs=>Nat.le_trans (hs4 s hs) (by decide)⟩,hs,hr⟩
section
open Go.ChangeMaps
theorem trodAll_six {H:Type} {enc:TypeId×Value->H} {P:Program} {w:World} {base:Nat} {spare:Nat->Bool} {held:Bool} {t t1 t2 t3 t4 t5:TypeId} {args:Array Value} {ds:List (DataW H)} {ps:List MemPlace} (h:DataW.TrodAll enc P w base spare held [t,t1,t2,t3,t4,t5] args.toList ds ps):
 ∃v v1 v2 v3 v4 v5 d d1 d2 d3 d4 d5 p p1 p2 p3 p4 p5,args= #[v,v1,v2,v3,v4,v5]/\ds=[d,d1,d2,d3,d4,d5]/\ps=p++p1++p2++p3++p4++p5/\DataW.Trod enc P w base spare held t v d p/\DataW.Trod enc P w base spare held t1 v1 d1 p1/\DataW.Trod enc P w base spare held t2 v2 d2 p2/\DataW.Trod enc P w base spare held t3 v3 d3 p3/\DataW.Trod enc P w base spare held t4 v4 d4 p4/\DataW.Trod enc P w base spare held t5 v5 d5 p5:=by
 obtain⟨v,vs,d,ds',p,q,hargs,rfl,rfl,hd,hrest⟩:=trodAll_cons h
 obtain⟨v1,vs1,d1,ds1,p1,q1,rfl,rfl,rfl,hd1,hrest1⟩:=trodAll_cons hrest
 obtain⟨v2,vs2,d2,ds2,p2,q2,rfl,rfl,rfl,hd2,hrest2⟩:=trodAll_cons hrest1
 obtain⟨v3,vs3,d3,ds3,p3,q3,rfl,rfl,rfl,hd3,hrest3⟩:=trodAll_cons hrest2
 obtain⟨v4,vs4,d4,ds4,p4,q4,rfl,rfl,rfl,hd4,hrest4⟩:=trodAll_cons hrest3
 obtain⟨v5,vs5,d5,ds5,p5,q5,rfl,rfl,rfl,hd5,hrest5⟩:=trodAll_cons hrest4
 obtain⟨rfl,rfl,rfl⟩:=trodAll_nil hrest5
 exact⟨v,v1,v2,v3,v4,v5,d,d1,d2,d3,d4,d5,p,p1,p2,p3,p4,p5,by cases args;simp_all,rfl,by simp,hd,hd1,hd2,hd3,hd4,hd5⟩
end
end Go.Proofs.YtcihbnpckicljaaGreatDoor
