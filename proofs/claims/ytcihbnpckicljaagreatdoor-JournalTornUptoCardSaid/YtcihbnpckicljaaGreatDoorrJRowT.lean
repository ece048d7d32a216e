/- Rows of rows of revisions among a row's arguments. No conditions. -/
import Derived.Test.YtcihbnpckicljaaGreatDoorrJRowB
import Derived.Test.YtcihbnpckicljaaGreatDoorrJChainW
set_option linter.unusedVariables false
set_option linter.unusedSimpArgs false
namespace Go.Proofs.YtcihbnpckicljaaGreatDoor
open Go Go.RowKit Go.ChangeShapes Go.WideShapes Go.ChangeAt Go.Deep
open Go.Lib(hid)
set_option maxRecDepth 100000
section
variable {H:Type} {enc:TypeId×Value->H}
theorem bulk_revs :∀(l:List DRev) (ds:List (DataW H)),l.length=ds.length->(∀i (h:i<l.length) (h':i<ds.length),l[i].t.length+bulkV l[i].v+1<=Rows.uptoBulk ds[i])->bulkR l<=Rows.uptoBulkAll ds
 |[],_,_,_=>by simp[bulkR]
 |v::l,[],h,_=>by simp at h
 |v::l,d::ds,h,hp=>by
  have h0:=hp 0 (by simp) (by simp)
  have h1:=bulk_revs l ds (by simpa using h) (fun i hi hi'=>hp (i+1) (by simpa using hi) (by simpa using hi'))
  simp only[List.getElem_cons_zero]at h0
  have hb:bulkR (v::l)=v.t.length+bulkV v.v+1+bulkR l:=by unfold bulkR;rw[List.map_cons,List.sum_cons]
  rw[hb,Rows.uptoBulkAll]
  omega
theorem bulk_rows :∀(l:List (List DRev)) (ds:List (DataW H)),l.length=ds.length->(∀i (h:i<l.length) (h':i<ds.length),bulkR l[i]+1<=Rows.uptoBulk ds[i])->bulkRR l<=Rows.uptoBulkAll ds
 |[],_,_,_=>by simp[bulkRR]
 |v::l,[],h,_=>by simp at h
 |v::l,d::ds,h,hp=>by
  have h0:=hp 0 (by simp) (by simp)
  have h1:=bulk_rows l ds (by simpa using h) (fun i hi hi'=>hp (i+1) (by simpa using hi) (by simpa using hi'))
  simp only[List.getElem_cons_zero]at h0
  have hb:bulkRR (v::l)=bulkR v+1+bulkRR l:=by unfold bulkRR;rw[List.map_cons,List.sum_cons]
  rw[hb,Rows.uptoBulkAll]
  omega
theorem bulkR_mem :∀{l:List DRev} {r:DRev},r∈l->r.t.length<=bulkR l/\bulkV r.v<=bulkR l
 |v::l,r,h=>by
  have hb:bulkR (v::l)=v.t.length+bulkV v.v+1+bulkR l:=by unfold bulkR;rw[List.map_cons,List.sum_cons]
  rw[hb]
  rcases List.mem_cons.1 h with rfl|h
  ·omega
  ·have:=bulkR_mem h;omega
theorem bulkRR_mem :∀{l:List (List DRev)} {r:List DRev},r∈l->bulkR r<=bulkRR l
 |v::l,r,h=>by
  have hb:bulkRR (v::l)=bulkR v+1+bulkRR l:=by unfold bulkRR;rw[List.map_cons,List.sum_cons]
  rw[hb]
  rcases List.mem_cons.1 h with rfl|h
  ·omega
  ·have:=bulkRR_mem h;omega
theorem bulkR_len :∀(l:List DRev),l.length<=bulkR l
 |[]=>Nat.zero_le _
 |v::l=>by
  have hb:bulkR (v::l)=v.t.length+bulkV v.v+1+bulkR l:=by unfold bulkR;rw[List.map_cons,List.sum_cons]
  have:=bulkR_len l
  rw[hb,List.length_cons]
  omega
theorem bulkRR_len :∀(l:List (List DRev)),l.length<=bulkRR l
 |[]=>Nat.zero_le _
 |v::l=>by
  have hb:bulkRR (v::l)=bulkR v+1+bulkRR l:=by unfold bulkRR;rw[List.map_cons,List.sum_cons]
  have:=bulkRR_len l
  rw[hb,List.length_cons]
  omega
theorem open_revsT {base:Nat} {sp:Nat->Bool} {held:Bool} {w:World} {fuel:Nat} {cs:List Value} {x:DataW H×List MemPlace} (hf:DataW.trod enc Tryz.prog w base sp held fuel 26 cs=some x) (hbig:Rows.uptoBulk x.1<=1048576):
 ∃(l:List DRev),HasRow (fun _=>True) w l cs/\bulkR l+1<=Rows.uptoBulk x.1:=by
 have hc10:Tryz.prog.cellsOf 54=10:=by kernel_rfl
 rcases open_slice Tryz.underlying26 hf with⟨h1,h2⟩|⟨a,len,cap,mm,n',D,Pl,h1,hb,hlc,hcm,hmm,h2,hi⟩
 ·subst h1
  exact⟨[],⟨none,0,rfl,⟨Nat.le_refl _,by unfold maxLen;omega,by simp⟩,fun i hi=>by simp at hi⟩,by rw[h2];simp[bulkR,Rows.uptoBulk]⟩
 ·subst h1
  have hlm:len<=mm:=by rw[hmm];split<;>omega
  have hbe:Rows.uptoBulk x.1=Rows.uptoBulkAll ((List.range len).map D)+Rows.uptoBulkAll ((List.range (mm-len)).map fun j=>D (len+j))+1:=by rw[h2,Rows.uptoBulk]
  have hel:∀i,i<len->∃r:DRev,(∃cs',w.cells? base (a.add (i*10)) 10=some cs'/\HasRev (fun _=>True) w r cs')/\r.t.length+bulkV r.v+1<=Rows.uptoBulk (D i):=by
   intro i hil
   obtain⟨cs',hc,ht⟩:=hi i (by omega)
   rw[hc10]at hc
   have hd:=bulk_mem ((List.range len).map D) (D i) (List.mem_map.2 ⟨i,List.mem_range.2 hil,rfl⟩)
   have hdb:Rows.uptoBulk (D i)<=1048576:=by omega
   obtain⟨r,hr,h3⟩:=open_revC (x:=(D i,Pl i)) ht hdb
   exact⟨r,⟨cs',hc,hr⟩,h3⟩
  obtain⟨l,hll,hlq⟩:=list_of len hel
  subst hll
  have hbs:=bulk_revs l ((List.range l.length).map D) (by simp) (fun i h h'=>by
   have:=(hlq i h).2
   simpa using this)
  have hbl:=bulkR_len l
  refine⟨l,⟨some a,cap,rfl,⟨hlc,hcm,by omega⟩,fun i hil=>?_⟩,by omega⟩
  have hsp:a.spot=none:=by
   obtain⟨⟨cs',hc,_⟩,_⟩:=hlq 0 (by omega)
   obtain⟨_,hl6,hat⟩:=World.cells?_some hc
   have h0:=hat 0 (by omega)
   rw[List.getElem?_eq_getElem (by omega)]at h0
   simpa[Addr.add]using World.cell?_spot h0
  obtain⟨⟨cs',hc,hv⟩,_⟩:=hlq i hil
  obtain⟨ab,ao,asp⟩:=a
  simp only[]at hsp
  subst hsp
  rw[Go.WideShapes.add_plain]at hc
  exact⟨ab,ao,cs',rfl,(cells_at hc (by omega) rfl).1,hv⟩
theorem open_rows {r:Reach} {b0 base:Nat} {sp:Nat->Bool} {held:Bool} {w:World} {v:Value} {d:DataW H} {ps:List MemPlace} (hv:Value.okWide Tryz.prog w r b0 40 v) (h:DataW.Trod enc Tryz.prog w base sp held 40 v d ps) (hbig:Rows.uptoBulk d<=1048576):
 ∃(p:Option Addr) (cap:Nat) (l:List (List DRev)),v=.slice p l.length cap/\bulkRR l<=1048576/\l.length<=1048576/\(∀x∈l,∀r∈x,okR r)/\RowIn HasRow 1 (fun _=>True) w p l:=by
 obtain⟨a0,len0,cap0,rfl⟩:=okWide_slice Tryz.underlying40 hv
 obtain⟨fuel,hf⟩:=h
 have hc1:Tryz.prog.cellsOf 26=1:=by kernel_rfl
 rcases open_slice Tryz.underlying40 hf with⟨h1,h2⟩|⟨a,len,cap,mm,n',D,Pl,h1,hb,hlc,hcm,hmm,h2,hi⟩
 ·simp[Value.cells]at h1
  obtain⟨rfl,rfl,rfl⟩:=h1
  exact⟨none,0,[],rfl,by simp[bulkRR],by simp,fun x hx=>(by cases hx),fun i hi=>by simp at hi⟩
 ·simp[Value.cells]at h1
  obtain⟨rfl,rfl,rfl⟩:=h1
  simp only[Prod.mk.injEq]at h2
  have hlm:len0<=mm:=by rw[hmm];split<;>omega
  have hbe:Rows.uptoBulk d=Rows.uptoBulkAll ((List.range len0).map D)+Rows.uptoBulkAll ((List.range (mm-len0)).map fun j=>D (len0+j))+1:=by rw[h2.1,Rows.uptoBulk]
  have hel:∀i,i<len0->∃x:List DRev,(∃cs',w.cells? base (a.add (i*1)) 1=some cs'/\HasRow (fun _=>True) w x cs')/\bulkR x+1<=Rows.uptoBulk (D i):=by
   intro i hil
   obtain⟨cs',hc,ht⟩:=hi i (by omega)
   rw[hc1]at hc
   have hd:=bulk_mem ((List.range len0).map D) (D i) (List.mem_map.2 ⟨i,List.mem_range.2 hil,rfl⟩)
   have hdb:Rows.uptoBulk (D i)<=1048576:=by omega
   obtain⟨x,hx,h3⟩:=open_revsT (x:=(D i,Pl i)) ht hdb
   exact⟨x,⟨cs',hc,hx⟩,h3⟩
  obtain⟨l,hll,hlq⟩:=list_of len0 hel
  subst hll
  have hbs:=bulk_rows l ((List.range l.length).map D) (by simp) (fun i h h'=>by
   have:=(hlq i h).2
   simpa using this)
  have hbl:=bulkRR_len l
  refine⟨some a,cap0,l,rfl,by omega,by omega,fun x hx r hr=>?_,fun i hil=>?_⟩
  ·have h3:=bulkRR_mem hx
   have h4:=bulkR_mem hr
   exact okR_bulk (n:=1048576) (Nat.le_refl _) (by omega) (by omega)
  ·have hsp:a.spot=none:=by
    obtain⟨⟨cs',hc,_⟩,_⟩:=hlq 0 (by omega)
    obtain⟨_,hl6,hat⟩:=World.cells?_some hc
    have h0:=hat 0 (by omega)
    rw[List.getElem?_eq_getElem (by omega)]at h0
    simpa[Addr.add]using World.cell?_spot h0
   obtain⟨⟨cs',hc,hx⟩,_⟩:=hlq i hil
   obtain⟨ab,ao,asp⟩:=a
   simp only[]at hsp
   subst hsp
   rw[Go.WideShapes.add_plain]at hc
   exact⟨ab,ao,cs',rfl,(cells_at hc (by omega) rfl).1,hx⟩
end
end Go.Proofs.YtcihbnpckicljaaGreatDoor
