/- What the journal makes and reads of blocks. No conditions. -/
import Derived.Test.YtcihbnpckicljaaGreatDoorrJVal
import Derived.Test.YtcihbnpckicljaaGreatDoorrGB
import Derived.Test.YtcihbnpckicljaaGreatDoorrGM
set_option linter.unusedVariables false
set_option linter.unusedSimpArgs false
namespace Go.Proofs.YtcihbnpckicljaaGreatDoor
open Go Go.RowKit Go.BigFrame
open Go.Lib(hid)
set_option maxRecDepth 100000
def revV (r:DRev):DVal:=vList [vInt r.k,vTxt r.t,vInt r.d,vInt r.n,r.v]
def revT (r:DRev):List UInt8×Int:=
 if checkR r≠0 then([],checkR r)else if(wrP (revV r)).2≠0\/1024<(wrP (revV r)).1.length then([],4)else((wrP (revV r)).1,0)
def textsP :List DRev->List (List UInt8)×Int
 |[]=>([],0)
 |r::l=>if(revT r).2≠0 then([],(revT r).2)else if(textsP l).2≠0 then([],(textsP l).2)else((revT r).1::(textsP l).1,0)
def stE :List (List UInt8)->Int
 |[]=>0
 |s::l=>if utfE s≠0 then utfE s else stE l
def partsE (b:DBlk):Int:=
 if b.seq<1\/4611686018427387904<b.seq then 2 else if b.prev.length≠32\/b.root.length≠32 then 4
 else if 64<b.sts.length\/b.revs.length<1\/64<b.revs.length then 3 else stE b.sts
def partsP (b:DBlk):List (List UInt8)×Int:=if partsE b≠0 then([],partsE b)else textsP b.revs
def blkV (b:DBlk) (l:List (List UInt8)):DVal:=vList [vInt b.seq,vBlob b.prev,vBlob b.root,vList (b.sts.map vTxt),vList (l.map vBlob)]
def wholeP (b:DBlk):List UInt8×Int:=
 if(partsP b).2≠0 then([],(partsP b).2)else if rootL (partsP b).1≠b.root then([],11)else wrP (blkV b (partsP b).1)
def zero32 :List UInt8:=List.replicate 32 0
def makeB (seq:Nat) (prev:List UInt8) (sts:List (List UInt8)) (revs:List DRev):DBlk:=⟨seq,prev,rootL (textsP revs).1,sts,revs⟩
def makeE (seq:Nat) (prev:List UInt8) (sts:List (List UInt8)) (revs:List DRev):Int:=
 if(partsP ⟨seq,prev,zero32,sts,revs⟩).2≠0 then(partsP ⟨seq,prev,zero32,sts,revs⟩).2 else(wholeP (makeB seq prev sts revs)).2
def makeP (seq:Nat) (prev:List UInt8) (sts:List (List UInt8)) (revs:List DRev):DBlk×Int:=
 if makeE seq prev sts revs≠0 then(.zero,makeE seq prev sts revs)else(makeB seq prev sts revs,0)
def natV (v:DVal):Option Nat:=if kindV v=2/\0<=intV v then some (intV v).toNat else none
def fiveP (s:List UInt8):Option (DVal×DVal×DVal×DVal×DVal):=
 if(rdV s).2≠0\/kindV (rdV s).1≠5 then none else
 match listV (rdV s).1 with
 |[a,b,c,d,e]=>some (a,b,c,d,e)
 |_=>none
def readRevP (s:List UInt8):Option DRev:=
 match fiveP s with
 |some (a,b,c,d,e)=>match natV a,natV c,natV d with
  |some k,some x,some y=>if kindV b=3 then some ⟨min k 5,strV b,x,y,e⟩else none
  |_,_,_=>none
 |none=>none
def stsP :List DVal->Option (List (List UInt8))
 |[]=>some []
 |v::l=>if kindV v=3 then(stsP l).map (strV v:: ·)else none
def revsP :List DVal->Option (List DRev)
 |[]=>some []
 |v::l=>match readRevP (strV v)with
  |some r=>if kindV v=4 then(revsP l).map (r:: ·)else none
  |none=>none
def openP (s:List UInt8):Option DBlk:=
 match fiveP s with
 |some (a,b,c,d,e)=>match natV a,stsP (listV d),revsP (listV e)with
  |some n,some x,some y=>if kindV b=4/\kindV c=4/\kindV d=5/\kindV e=5 then some ⟨n,strV b,strV c,x,y⟩else none
  |_,_,_=>none
 |none=>none
def readB (s:List UInt8):DBlk×Int:=
 match openP s with
 |some b=>if(wholeP b).2≠0 then(.zero,11)else(b,0)
 |none=>(.zero,11)
def stsT (l:List (List UInt8)):List UInt8:=shaL (wrP (vList (l.map vTxt))).1
def shortP (b:DBlk):DHead×Int:=if(wholeP b).2≠0 then(.zero,(wholeP b).2)else(⟨b.seq,b.prev,b.root,b.revs.length,stsT b.sts⟩,0)
def headV (h:DHead):DVal:=vList [vInt h.seq,vBlob h.prev,vBlob h.root,vInt h.revs,vBlob h.sts]
def headT (h:DHead):List UInt8:=(wrP (headV h)).1
def digP (h:DHead):List UInt8:=shaL (headT h)
def le4 (n:Nat):List UInt8:=[UInt8.ofNat (n%256),UInt8.ofNat (n/256%256),UInt8.ofNat (n/65536%256),UInt8.ofNat (n/16777216%256)]
def framedP (s:List UInt8):List UInt8:=le4 s.length++(shaL (le4 s.length++s)).take 8++s
def frameP (b:DBlk):List UInt8×Int:=if(wholeP b).2≠0 then([],(wholeP b).2)else(framedP (wholeP b).1,0)
def sizeP (s:List UInt8):Nat:=(s.getD 0 0).toNat+256*(s.getD 1 0).toNat+65536*(s.getD 2 0).toNat+16777216*(s.getD 3 0).toNat
def stepP (s:List UInt8):Option (List UInt8):=
 if s.length<12 then none else if s.length-12<sizeP s then none
 else if s.take (12+sizeP s)≠framedP ((s.drop 12).take (sizeP s))then none else some ((s.drop 12).take (sizeP s))
def scanP :Nat->List UInt8->Nat->List UInt8->List DBlk×Nat
 |0,_,_,_=>([],0)
 |f+1,s,c,prev=>match stepP s with
  |none=>([],0)
  |some t=>if(readB t).2≠0\/(readB t).1.seq≠c+1\/(readB t).1.prev≠prev then([],0)else
   ((readB t).1::(scanP f (s.drop (12+t.length)) (c+1) (digP (shortP (readB t).1).1)).1,12+t.length+(scanP f (s.drop (12+t.length)) (c+1) (digP (shortP (readB t).1).1)).2)
end Go.Proofs.YtcihbnpckicljaaGreatDoor
