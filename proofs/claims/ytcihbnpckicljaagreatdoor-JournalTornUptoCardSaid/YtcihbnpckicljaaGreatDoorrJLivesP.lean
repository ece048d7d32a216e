/- A block of one revision is right, and is scanned: what lives asks. No conditions. -/
import Derived.Test.YtcihbnpckicljaaGreatDoorrJChain
set_option linter.unusedVariables false
set_option linter.unusedSimpArgs false
namespace Go.Proofs.YtcihbnpckicljaaGreatDoor
open Go Go.RowKit Go.BigFrame
open Go.Lib(hid)
set_option maxRecDepth 100000
def r0 :DRev:=⟨1,[116],0,0,.zero⟩
def T0 :List UInt8:=[6,5,3,2,4,1,116,3,0,3,0,0]
theorem revT0 :revT r0=(T0,0):=by decide
theorem wf0 :wfR r0:=⟨by decide,by decide,by decide,⟨by decide,by decide⟩,trivial,trivial⟩
theorem texts0 :textsP [r0]=([T0],0):=by
 rw[textsP,revT0]
 rfl
def b0 :DBlk:=makeB 1 zero32 [] [r0]
theorem b0_root :b0.root=leafL T0:=by
 show rootL (textsP [r0]).1=_
 rw[texts0]
 rfl
theorem parts0 (root:List UInt8) (h:root.length=32):partsP ⟨1,zero32,root,[],[r0]⟩=([T0],0):=by
 have he:partsE ⟨1,zero32,root,[],[r0]⟩=0:=by
  unfold partsE
  simp only
  rw[if_neg (by omega),if_neg (by rw[h];simp[zero32]),if_neg (by simp)]
  rfl
 unfold partsP
 rw[he,if_neg (by simp)]
 exact texts0
theorem whole0 :(wholeP b0).2=0:=by
 have hr:=b0_root
 have hl:(leafL T0).length=32:=leafL_length _
 have hb:b0=⟨1,zero32,leafL T0,[],[r0]⟩:=by
  rw[←hr]
  rfl
 rw[hb]
 unfold wholeP
 rw[parts0 _ hl,if_neg (by simp),if_neg (by simp[rootL_one])]
 unfold blkV
 simp only
 generalize leafL T0=R at hl
 rw[wrP_ok]
 refine⟨?_,?_⟩
 ·simp[vList,vInt,vBlob,vTxt,checkV,checkL,checkF,orE,why0,firstE,unlessE,bareB,flatB,sel,hl,zero32,T0,toI]
  decide
 ·have h1:=vInt_len 1
  have h2:=vBlob_len zero32
  have h3:=vBlob_len R
  have h6:=vBlob_len T0
  have h4:=vList_len (([]:List (List UInt8)).map vTxt)
  have h5:=vList_len [vBlob T0]
  have h8:=vList_len [vInt 1,vBlob zero32,vBlob R,vList (([]:List (List UInt8)).map vTxt),vList [vBlob T0]]
  rw[textL_five]at h8
  have e1:(textL (([]:List (List UInt8)).map vTxt)).length=0:=rfl
  have e2:(textL [vBlob T0]).length=(textV (vBlob T0)).length:=by rw[textL,textL,List.append_nil]
  have e3:zero32.length=32:=by simp[zero32]
  have e4:T0.length=12:=rfl
  show(textV (vList [vInt 1,vBlob zero32,vBlob R,vList (([]:List (List UInt8)).map vTxt),vList [vBlob T0]])).length<=_
  omega
theorem wfB0 :wfB b0:=⟨by decide,fun r hr=>by
 obtain rfl:r=r0:=by
  have:r∈[r0]:=hr
  simpa using this
 exact wf0⟩
theorem make0 :makeP 1 zero32 [] [r0]=(b0,0):=by
 have hE:makeE 1 zero32 [] [r0]=0:=by
  unfold makeE
  rw[parts0 zero32 (by simp[zero32]),if_neg (by simp)]
  exact whole0
 unfold makeP
 rw[hE,if_neg (by simp)]
 rfl
theorem scan0 :scanV ((frameP b0).1++[120])=([b0],(frameP b0).1.length):=by
 have hf:(frameP b0).1=framedP (wholeP b0).1:=by
  unfold frameP
  rw[whole0,if_neg (by simp)]
 have hc:Chain 0 zero32 [b0]:=⟨whole0,wfB0,rfl,rfl,trivial⟩
 have hl:=framed_len (wholeP b0).1
 have h:=scan_torn [b0] ((framedP (wholeP b0).1++[120]).length+1) 0 zero32 [120] hc (by rw[List.length_append,hl];simp) rfl
 have e:framesOf [b0]=framedP (wholeP b0).1:=by
  unfold framesOf
  rw[List.flatMap_cons,List.flatMap_nil,List.append_nil]
 rw[e]at h
 unfold scanV
 rw[hf]
 exact h
theorem whole_zero :wholeP .zero=([],2):=by decide
end Go.Proofs.YtcihbnpckicljaaGreatDoor
