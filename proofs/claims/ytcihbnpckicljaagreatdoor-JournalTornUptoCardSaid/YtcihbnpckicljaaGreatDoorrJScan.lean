/- Frames behind one another are scanned. No conditions. -/
import Derived.Test.YtcihbnpckicljaaGreatDoorrJBack
set_option linter.unusedVariables false
set_option linter.unusedSimpArgs false
namespace Go.Proofs.YtcihbnpckicljaaGreatDoor
open Go Go.RowKit Go.BigFrame
open Go.Lib(hid)
set_option maxRecDepth 100000
theorem u8_mod (n:Nat) (h:n<256):(UInt8.ofNat n).toNat=n:=by simp[UInt8.toNat_ofNat'];omega
theorem le4_size {n:Nat} (h:n<4294967296) (t:List UInt8):sizeP (le4 n++t)=n:=by
 unfold sizeP le4
 simp only[List.cons_append,List.nil_append,List.getD_cons_zero,List.getD_cons_succ]
 rw[u8_mod _ (by omega),u8_mod _ (by omega),u8_mod _ (by omega),u8_mod _ (by omega)]
 omega
theorem framed_len (s:List UInt8):(framedP s).length=12+s.length:=by
 unfold framedP
 rw[List.length_append,List.length_append,List.length_take,shaL_length]
 simp[le4]
theorem framed_size {s:List UInt8} (h:s.length<4294967296) (t:List UInt8):sizeP (framedP s++t)=s.length:=by
 unfold framedP
 rw[List.append_assoc,List.append_assoc]
 exact le4_size h _
theorem framed_drop (s t:List UInt8):(framedP s++t).drop 12=s++t:=by
 have h:framedP s=(le4 s.length++(shaL (le4 s.length++s)).take 8)++s:=rfl
 rw[h,List.append_assoc]
 have hl:(le4 s.length++(shaL (le4 s.length++s)).take 8).length=12:=by
  rw[List.length_append,List.length_take,shaL_length]
  rfl
 rw[←hl,List.drop_left]
theorem step_framed {s:List UInt8} (h:s.length<4294967296) (t:List UInt8):stepP (framedP s++t)=some s:=by
 unfold stepP
 have hl:=framed_len s
 rw[framed_size h,framed_drop,List.length_append,if_neg (by omega),if_neg (by omega),List.take_left]
 have:(framedP s++t).take (12+s.length)=framedP s:=by rw[←hl,List.take_left]
 rw[this,if_neg (by simp)]
theorem size_take {l:List UInt8} {m:Nat} (h:4<=m):sizeP (l.take m)=sizeP l:=by
 unfold sizeP
 rw[List.getD_eq_getElem?_getD,List.getD_eq_getElem?_getD,List.getD_eq_getElem?_getD,List.getD_eq_getElem?_getD,List.getD_eq_getElem?_getD,List.getD_eq_getElem?_getD,List.getD_eq_getElem?_getD,List.getD_eq_getElem?_getD,
  List.getElem?_take_of_lt (by omega),List.getElem?_take_of_lt (by omega),List.getElem?_take_of_lt (by omega),List.getElem?_take_of_lt (by omega)]
theorem step_torn {s:List UInt8} (h:s.length<4294967296) (t:List UInt8) {m:Nat} (hm:m<12+s.length):stepP ((framedP s++t).take m)=none:=by
 unfold stepP
 have hl:=framed_len s
 have hz:((framedP s++t).take m).length=m:=by rw[List.length_take,List.length_append];omega
 rw[hz]
 by_cases h1:m<12
 ·rw[if_pos h1]
 ·rw[if_neg h1,size_take (by omega),framed_size h,if_pos (by omega)]
theorem step_some {s t:List UInt8} (h:stepP s=some t):12+t.length<=s.length/\s.take (12+t.length)=framedP t:=by
 unfold stepP at h
 by_cases h1:s.length<12
 ·rw[if_pos h1]at h;cases h
 rw[if_neg h1]at h
 by_cases h2:s.length-12<sizeP s
 ·rw[if_pos h2]at h;cases h
 rw[if_neg h2]at h
 by_cases h3:s.take (12+sizeP s)≠framedP ((s.drop 12).take (sizeP s))
 ·rw[if_pos h3]at h;cases h
 rw[if_neg h3]at h
 have h4:s.take (12+sizeP s)=framedP ((s.drop 12).take (sizeP s)):=by simpa using h3
 obtain rfl:=Option.some.inj h
 have hl:((s.drop 12).take (sizeP s)).length=sizeP s:=by rw[List.length_take,List.length_drop];omega
 rw[hl]
 exact⟨by omega,h4⟩
theorem whole_len {b:DBlk} (h:(wholeP b).2=0):(wholeP b).1.length<=16384:=by
 obtain⟨_,_,_,_,h5,h6⟩:=whole_ok h
 rw[h6,wrP_text h5]
 exact(wrP_ok.1 h5).2
def Chain :Nat->List UInt8->List DBlk->Prop
 |_,_,[]=>True
 |c,prev,b::l=>(wholeP b).2=0/\wfB b/\b.seq=c+1/\b.prev=prev/\Chain (c+1) (digP (shortP b).1) l
def framesOf (l:List DBlk):List UInt8:=l.flatMap fun b=>framedP (wholeP b).1
theorem scan_torn :∀(l:List DBlk) (f c:Nat) (prev:List UInt8) (t:List UInt8),Chain c prev l->l.length<f->stepP t=none->scanP f (framesOf l++t) c prev=(l,(framesOf l).length)
 |[],f,c,prev,t,_,hf,ht=>by
  obtain⟨f,rfl⟩:∃g,f=g+1:=⟨f-1,by simp at hf;omega⟩
  show scanP (f+1) t c prev=([],0)
  rw[scanP,ht]
 |b::l,f,c,prev,t,hc,hf,ht=>by
  obtain⟨f,rfl⟩:∃g,f=g+1:=⟨f-1,by simp at hf;omega⟩
  obtain⟨h1,h2,h3,h4,h5⟩:=hc
  have hl:=whole_len h1
  have e:framesOf (b::l)++t=framedP (wholeP b).1++(framesOf l++t):=by
   unfold framesOf
   rw[List.flatMap_cons,List.append_assoc]
  rw[e,scanP,step_framed (by omega)]
  simp only
  rw[readB_text h1 h2,if_neg (by simp[h3,h4])]
  have hd:(framedP (wholeP b).1++(framesOf l++t)).drop (12+(wholeP b).1.length)=framesOf l++t:=by rw[←framed_len,List.drop_left]
  rw[hd,scan_torn l f (c+1) _ t h5 (by simp at hf;omega) ht]
  have e2:(framesOf (b::l)).length=12+(wholeP b).1.length+(framesOf l).length:=by
   unfold framesOf
   rw[List.flatMap_cons,List.length_append,framed_len]
  rw[e2]
end Go.Proofs.YtcihbnpckicljaaGreatDoor
