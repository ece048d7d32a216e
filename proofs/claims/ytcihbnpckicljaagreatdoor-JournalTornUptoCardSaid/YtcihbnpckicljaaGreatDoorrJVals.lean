/- A value among a row's arguments. No conditions. -/
import Derived.Test.YtcihbnpckicljaaGreatDoorrGA
import Derived.Test.YtcihbnpckicljaaGreatDoorCards
import Derived.Deep.DeepHandedRow
import Derived.Deep.Slices
set_option linter.unusedVariables false
set_option linter.unusedSimpArgs false
namespace Go.Proofs.YtcihbnpckicljaaGreatDoor
open Go Go.RowKit Go.ChangeShapes Go.WideShapes Go.ChangeAt Go.Deep
open Go.Lib(hid)
set_option maxRecDepth 100000
theorem list_of {α:Type} {Q:Nat->α->Prop}:∀n,(∀i,i<n->∃v,Q i v)->∃l:List α,l.length=n/\∀i (h:i<l.length),Q i l[i]:=by
 intro n
 induction n with
 |zero=>intro _;exact⟨[],rfl,fun i h=>by simp at h⟩
 |succ n ih=>
  intro h
  obtain⟨l,h1,h2⟩:=ih (fun i hi=>h i (by omega))
  obtain⟨v,hv⟩:=h n (by omega)
  refine⟨l++[v],by simp[h1],fun i hi=>?_⟩
  rcases Nat.lt_or_ge i l.length with hl|hl
  ·rw[List.getElem_append_left hl];exact h2 i hl
  ·have:i=l.length:=by simp at hi;omega
   subst this
   simp only[List.getElem_append_right (Nat.le_refl _),Nat.sub_self,List.getElem_cons_zero]
   rw[h1];exact hv
theorem cell_lt {w:World} {a:Addr} {v:Value} (h:w.cell? a=some v):a.block<w.heap.size:=by
 rcases Nat.lt_or_ge a.block w.heap.size with h1|h1
 ·exact h1
 ·exfalso
  unfold World.cell? at h
  rw[Array.getElem?_eq_none h1]at h
  simp at h
section
variable {H:Type} {enc:TypeId×Value->H}
theorem bulk_mem (ds:List (DataW H)) (d:DataW H) (h:d∈ds):Rows.uptoBulk d<=Rows.uptoBulkAll ds:=by
 induction ds with
 |nil=>cases h
 |cons x r ih=>
  rw[Rows.uptoBulkAll]
  rcases List.mem_cons.1 h with rfl|h
  ·omega
  ·have:=ih h;omega
theorem bulk_list :∀(l:List DVal) (ds:List (DataW H)),l.length=ds.length->(∀i (h:i<l.length) (h':i<ds.length),bulkV l[i]+1<=Rows.uptoBulk ds[i])->bulkL l<=Rows.uptoBulkAll ds
 |[],_,_,_=>by simp[bulkL]
 |v::l,[],h,_=>by simp at h
 |v::l,d::ds,h,hp=>by
  have h0:=hp 0 (by simp) (by simp)
  have h1:=bulk_list l ds (by simpa using h) (fun i hi hi'=>hp (i+1) (by simpa using hi) (by simpa using hi'))
  simp only[List.getElem_cons_zero]at h0
  rw[bulkL,Rows.uptoBulkAll]
  omega
theorem bulk_flds :∀(l:List (List UInt8×DVal)) (ds:List (DataW H)),l.length=ds.length->(∀i (h:i<l.length) (h':i<ds.length),bulkV l[i].2+l[i].1.length+1<=Rows.uptoBulk ds[i])->bulkF l<=Rows.uptoBulkAll ds
 |[],_,_,_=>by simp[bulkF]
 |v::l,[],h,_=>by simp at h
 |(x,v)::l,d::ds,h,hp=>by
  have h0:=hp 0 (by simp) (by simp)
  have h1:=bulk_flds l ds (by simpa using h) (fun i hi hi'=>hp (i+1) (by simpa using hi) (by simpa using hi'))
  simp only[List.getElem_cons_zero]at h0
  rw[bulkF,Rows.uptoBulkAll]
  omega
theorem bulkL_len :∀(l:List DVal),l.length<=bulkL l
 |[]=>by simp[bulkL]
 |v::l=>by have:=bulkL_len l;rw[bulkL,List.length_cons];omega
theorem bulkF_len :∀(l:List (List UInt8×DVal)),l.length<=bulkF l
 |[]=>by simp[bulkF]
 |(x,v)::l=>by have:=bulkF_len l;rw[bulkF,List.length_cons];omega
theorem cells_at {w:World} {base:Nat} {a:Addr} {n:Nat} {cs:List Value} (h:w.cells? base a n=some cs) (hn:0<n) (hsp:a.spot=none):CellsAt (fun _=>True) w a.block a.off cs/\cs.length=n:=by
 obtain⟨_,hl,hat⟩:=World.cells?_some h
 obtain⟨b,o,sp⟩:=a
 simp only[]at hsp
 subst hsp
 have h0:=hat 0 hn
 have hb:b<w.heap.size:=by
  have e:cs[0]?=some (cs[0]'(by omega)):=List.getElem?_eq_getElem (by omega)
  rw[e]at h0
  simpa[Addr.add]using cell_lt h0
 refine⟨⟨trivial,hb,fun j hj=>?_⟩,hl⟩
 have:=hat j (by omega)
 rwa[Go.WideShapes.add_plain]at this
theorem six_of {α:Type} {l:List α} (h:l.length=6):∃a b c d e f,l=[a,b,c,d,e,f]:=by
 match l,h with
 |[a,b,c,d,e,f],_=>exact⟨a,b,c,d,e,f,rfl⟩
theorem seven_of {α:Type} {l:List α} (h:l.length=7):∃a b c d e f g,l=[a,b,c,d,e,f,g]:=by
 match l,h with
 |[a,b,c,d,e,f,g],_=>exact⟨a,b,c,d,e,f,g,rfl⟩
set_option maxHeartbeats 2000000 in
theorem open_val {base:Nat} {sp:Nat->Bool} {held:Bool} {w:World}:∀(m fuel:Nat) (cs:List Value) (x:DataW H×List MemPlace),DataW.trod enc Tryz.prog w base sp held fuel 52 cs=some x->Rows.uptoBulk x.1<m->Rows.uptoBulk x.1<=1073741824→
 ∃v,HasVal (fun _=>True) w v cs/\bulkV v+1<=Rows.uptoBulk x.1:=by
 intro m
 induction m with
 |zero=>intro fuel cs x _ h;omega
 |succ m ih=>
  intro fuel cs x h hm hbig
  have hu:Tryz.prog.underlying 52=some (.struct (Tryz.prog.fieldsOf 52)):=by kernel_rfl
  have hf:(Tryz.prog.fieldsOf 52).toList.map (fun f=>(f.type,f.offset))=[(48,0),(4,1),(2,2),(9,3),(49,4),(50,5)]:=by kernel_rfl
  have hfs:(Tryz.prog.fieldsOf 52).size=6:=by kernel_rfl
  have hc6:Tryz.prog.cellsOf 52=6:=by kernel_rfl
  have hc7:Tryz.prog.cellsOf 66=7:=by kernel_rfl
  obtain⟨xs,n,_,hx,hlen,hl,hall⟩:=DataW.trod_struct hu h
  obtain⟨c0,c1,c2,c3,c4,c5,rfl⟩:=six_of (hlen.trans hc6)
  obtain⟨x0,x1,x2,x3,x4,x5,rfl⟩:=six_of (hl.trans hfs)
  have at_:∀(i:Nat) (t:TypeId) (o:Nat),[(48,0),(4,1),(2,2),(9,3),(49,4),(50,5)][i]?=some (t,o)->DataW.trod enc Tryz.prog w base sp held n t (([c0,c1,c2,c3,c4,c5].drop o).take (Tryz.prog.cellsOf t))=[x0,x1,x2,x3,x4,x5][i]?:=by
   intro i t o hi
   rw[←hf,List.getElem?_map,Option.map_eq_some_iff]at hi
   obtain⟨f,hfi,he⟩:=hi
   rw[Array.getElem?_toList]at hfi
   have:=hall i f hfi
   simp only[Prod.mk.injEq]at he
   rw[he.1,he.2]at this
   exact this
  have a0:=at_ 0 48 0 rfl
  have a1:=at_ 1 4 1 rfl
  have a2:=at_ 2 2 2 rfl
  have a3:=at_ 3 9 3 rfl
  have a4:=at_ 4 49 4 rfl
  have a5:=at_ 5 50 5 rfl
  clear at_ hall
  have k0:Tryz.prog.cellsOf 48=1:=by kernel_rfl
  have k1:Tryz.prog.cellsOf 4=1:=by kernel_rfl
  have k2:Tryz.prog.cellsOf 2=1:=by kernel_rfl
  have k3:Tryz.prog.cellsOf 9=1:=by kernel_rfl
  have k4:Tryz.prog.cellsOf 49=1:=by kernel_rfl
  have k5:Tryz.prog.cellsOf 50=1:=by kernel_rfl
  rw[k0]at a0
  rw[k1]at a1
  rw[k2]at a2
  rw[k3]at a3
  rw[k4]at a4
  rw[k5]at a5
  simp at a0 a1 a2 a3 a4 a5
  obtain⟨kn,e0,y0,w0⟩:=DataW.trod_int (k:=.u8) Tryz.underlying48 a0
  obtain⟨bb,e1,y1⟩:=DataW.trod_bool Tryz.underlying4 a1
  obtain⟨nn,e2,y2,w2⟩:=DataW.trod_int (k:=.i64) Tryz.underlying2 a2
  obtain⟨ss,e3,y3,w3⟩:=DataW.trod_string Tryz.underlying9 a3
  simp only[List.cons.injEq,and_true]at e0 e1 e2 e3
  subst e0
  subst e1
  subst e2
  subst e3
  subst hx
  have hbx:Rows.uptoBulk (DataW.agg (List.map (fun x=>x.1) [x0,x1,x2,x3,x4,x5]))=Rows.uptoBulk x0.1+(Rows.uptoBulk x1.1+(Rows.uptoBulk x2.1+(Rows.uptoBulk x3.1+(Rows.uptoBulk x4.1+(Rows.uptoBulk x5.1+0)))))+1:=by
   simp only[List.map_cons,List.map_nil,Rows.uptoBulk,Rows.uptoBulkAll]
  simp only[]at hm hbig⊢
  rw[hbx]at hm hbig⊢
  clear hbx
  have b3:Rows.uptoBulk x3.1=ss.data.toList.length+1:=by rw[y3,Rows.uptoBulk]
  have hL:∃(l:List DVal) (pl:Option Addr) (cl:Nat),c4=.slice pl l.length cl/\l.length<=cl/\cl<=maxLen/\HasL (fun _=>True) w pl l/\bulkL l+1<=Rows.uptoBulk x4.1:=by
   rcases open_slice Tryz.underlying49 a4 with⟨h1,h2⟩|⟨a,len,cap,mm,n',D,Pl,h1,hb,hlc,hcm,hmm,h2,hi⟩
   ·simp only[List.cons.injEq,and_true]at h1
    subst h1
    exact⟨[],none,0,rfl,Nat.le_refl _,by unfold maxLen;omega,fun i hi=>by simp at hi,by rw[h2,bulkL,Rows.uptoBulk];omega⟩
   ·simp only[List.cons.injEq,and_true]at h1
    subst h1
    have hlm:len<=mm:=by rw[hmm];split<;>omega
    have hbe:Rows.uptoBulk x4.1=Rows.uptoBulkAll ((List.range len).map D)+Rows.uptoBulkAll ((List.range (mm-len)).map fun j=>D (len+j))+1:=by rw[h2,Rows.uptoBulk]
    have hel:∀i,i<len->∃v,(∃cs',w.cells? base (a.add (i*6)) 6=some cs'/\HasVal (fun _=>True) w v cs')/\bulkV v+1<=Rows.uptoBulk (D i):=by
     intro i hil
     obtain⟨cs',hc,ht⟩:=hi i (by omega)
     rw[hc6]at hc
     have hd:=bulk_mem ((List.range len).map D) (D i) (List.mem_map.2 ⟨i,List.mem_range.2 hil,rfl⟩)
     obtain⟨v,hv,hvb⟩:=ih n' cs' (D i,Pl i) ht (by simp only[];omega) (by simp only[];omega)
     exact⟨v,⟨cs',hc,hv⟩,hvb⟩
    obtain⟨l,hll,hlq⟩:=list_of len hel
    subst hll
    refine⟨l,some a,cap,rfl,hlc,hcm,fun i hil=>?_,?_⟩
    ·have hsp:a.spot=none:=by
      obtain⟨⟨cs',hc,_⟩,_⟩:=hlq 0 (by omega)
      obtain⟨_,hl6,hat⟩:=World.cells?_some hc
      have h0:=hat 0 (by omega)
      rw[List.getElem?_eq_getElem (by omega)]at h0
      simpa[Addr.add]using World.cell?_spot h0
     obtain⟨⟨cs',hc,hv⟩,_⟩:=hlq i hil
     obtain⟨ab,ao,asp⟩:=a
     simp only[]at hsp
     subst hsp
     rw[Go.WideShapes.add_plain]at hc
     exact⟨ab,ao,cs',rfl,(cells_at hc (by omega) rfl).1,hv⟩
    ·have:=bulk_list l ((List.range l.length).map D) (by simp) (fun i h h'=>by
      have:=(hlq i h).2
      simpa using this)
     omega
  have hF:∃(l:List (List UInt8×DVal)) (pl:Option Addr) (cl:Nat),c5=.slice pl l.length cl/\l.length<=cl/\cl<=maxLen/\HasF (fun _=>True) w pl l/\bulkF l+1<=Rows.uptoBulk x5.1:=by
   rcases open_slice Tryz.underlying50 a5 with⟨h1,h2⟩|⟨a,len,cap,mm,n',D,Pl,h1,hb,hlc,hcm,hmm,h2,hi⟩
   ·simp only[List.cons.injEq,and_true]at h1
    subst h1
    exact⟨[],none,0,rfl,Nat.le_refl _,by unfold maxLen;omega,fun i hi=>by simp at hi,by rw[h2,bulkF,Rows.uptoBulk];omega⟩
   ·simp only[List.cons.injEq,and_true]at h1
    subst h1
    have hlm:len<=mm:=by rw[hmm];split<;>omega
    have hbe:Rows.uptoBulk x5.1=Rows.uptoBulkAll ((List.range len).map D)+Rows.uptoBulkAll ((List.range (mm-len)).map fun j=>D (len+j))+1:=by rw[h2,Rows.uptoBulk]
    have hel:∀i,i<len->∃p:List UInt8×DVal,(∃cs',w.cells? base (a.add (i*7)) 7=some (.string (bs p.1)::cs')/\HasVal (fun _=>True) w p.2 cs')/\bulkV p.2+p.1.length+1<=Rows.uptoBulk (D i):=by
     intro i hil
     obtain⟨cs',hc,ht⟩:=hi i (by omega)
     rw[hc7]at hc
     have hd:=bulk_mem ((List.range len).map D) (D i) (List.mem_map.2 ⟨i,List.mem_range.2 hil,rfl⟩)
     have huf:Tryz.prog.underlying 66=some (.struct (Tryz.prog.fieldsOf 66)):=by kernel_rfl
     have hff:(Tryz.prog.fieldsOf 66).toList.map (fun f=>(f.type,f.offset))=[(9,0),(52,1)]:=by kernel_rfl
     have hffs:(Tryz.prog.fieldsOf 66).size=2:=by kernel_rfl
     obtain⟨ys,n2,_,hy,hylen,hyl,hyall⟩:=DataW.trod_struct huf ht
     obtain⟨d0,d1,d2,d3,d4,d5,d6,rfl⟩:=seven_of (hylen.trans hc7)
     match ys,hyl.trans hffs with
     |[u0,u1],_=>
      have at2:∀(j:Nat) (t:TypeId) (o:Nat),[(9,0),(52,1)][j]?=some (t,o)->DataW.trod enc Tryz.prog w base sp held n2 t (([d0,d1,d2,d3,d4,d5,d6].drop o).take (Tryz.prog.cellsOf t))=[u0,u1][j]?:=by
       intro j t o hj
       rw[←hff,List.getElem?_map,Option.map_eq_some_iff]at hj
       obtain⟨f,hfi,he⟩:=hj
       rw[Array.getElem?_toList]at hfi
       have:=hyall j f hfi
       simp only[Prod.mk.injEq]at he
       rw[he.1,he.2]at this
       exact this
      have g0:=at2 0 9 0 rfl
      have g1:=at2 1 52 1 rfl
      rw[k3]at g0
      rw[hc6]at g1
      simp at g0 g1
      obtain⟨s2,e3,z3,_⟩:=DataW.trod_string Tryz.underlying9 g0
      simp only[List.cons.injEq,and_true]at e3
      subst e3
      simp only[Prod.mk.injEq]at hy
      have hbd:Rows.uptoBulk (D i)=s2.data.toList.length+1+(Rows.uptoBulk u1.1+0)+1:=by
       rw[hy.1]
       simp only[List.map_cons,List.map_nil,Rows.uptoBulk,Rows.uptoBulkAll,z3]
      obtain⟨v,hv,hvb⟩:=ih n2 _ u1 g1 (by omega) (by omega)
      exact⟨(s2.data.toList,v),⟨[d1,d2,d3,d4,d5,d6],by rw[bs_data];exact hc,hv⟩,by simp only[];omega⟩
    obtain⟨l,hll,hlq⟩:=list_of len hel
    subst hll
    refine⟨l,some a,cap,rfl,hlc,hcm,fun i hil=>?_,?_⟩
    ·have hsp:a.spot=none:=by
      obtain⟨⟨cs',hc,_⟩,_⟩:=hlq 0 (by omega)
      obtain⟨_,hl6,hat⟩:=World.cells?_some hc
      have h0:=hat 0 (by omega)
      rw[List.getElem?_eq_getElem (by omega)]at h0
      simpa[Addr.add]using World.cell?_spot h0
     obtain⟨⟨cs',hc,hv⟩,hq⟩:=hlq i hil
     have hdb:=bulk_mem ((List.range l.length).map D) (D i) (List.mem_map.2 ⟨i,List.mem_range.2 hil,rfl⟩)
     obtain⟨ab,ao,asp⟩:=a
     simp only[]at hsp
     subst hsp
     rw[Go.WideShapes.add_plain]at hc
     exact⟨ab,ao,cs',rfl,⟨by omega,(cells_at hc (by omega) rfl).1⟩,hv⟩
    ·have:=bulk_flds l ((List.range l.length).map D) (by simp) (fun i h h'=>by
      have:=(hlq i h).2
      simpa using this)
     omega
  obtain⟨l,pl,cl,rfl,hl1,hl2,hl3,hl4⟩:=hL
  obtain⟨f,pf,cf,rfl,hf1,hf2,hf3,hf4⟩:=hF
  have hbl:=bulkL_len l
  have hbf:=bulkF_len f
  have hkf:0<=kn/\kn<=255:=by
   have e1:IntKind.u8.min=0:=rfl
   have e2:IntKind.u8.max=255:=rfl
   simpa[Lit.wf,e1,e2]using w0
  have hnf: -9223372036854775808<=nn/\nn<=9223372036854775807:=by
   have e1:IntKind.i64.min= -9223372036854775808:=rfl
   have e2:IntKind.i64.max=9223372036854775807:=rfl
   simpa[Lit.wf,e1,e2]using w2
  obtain⟨kk,rfl⟩:=Int.eq_ofNat_of_zero_le hkf.1
  refine⟨.mk kk bb nn ss.data.toList l f,hasVal_mk.2 ⟨pl,cl,pf,cf,rfl,⟨by omega,hnf.1,hnf.2,by omega,by omega,by omega,hl1,hl2,hf1,hf2⟩,hl3,hf3⟩,?_⟩
  rw[bulkV]
  have p0:1<=Rows.uptoBulk x0.1:=by rw[y0];simp[Rows.uptoBulk]
  omega
end
end Go.Proofs.YtcihbnpckicljaaGreatDoor
