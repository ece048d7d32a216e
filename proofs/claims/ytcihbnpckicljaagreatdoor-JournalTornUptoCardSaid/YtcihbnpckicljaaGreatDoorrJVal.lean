/- Revisions, blocks, heads as plain types; what memory says of them. No conditions. -/
import Derived.Test.YtcihbnpckicljaaGreatDoorrGC
set_option linter.unusedVariables false
set_option linter.unusedSimpArgs false
namespace Go.Proofs.YtcihbnpckicljaaGreatDoor
open Go Go.RowKit Go.BigFrame
open Go.Lib(hid)
set_option maxRecDepth 100000
structure DRev where
 k:Nat
 t:List UInt8
 d:Nat
 n:Nat
 v:DVal
structure DBlk where
 seq:Nat
 prev:List UInt8
 root:List UInt8
 sts:List (List UInt8)
 revs:List DRev
structure DHead where
 seq:Nat
 prev:List UInt8
 root:List UInt8
 revs:Nat
 sts:List UInt8
def DRev.zero :DRev:=⟨0,[],0,0,.zero⟩
def DBlk.zero :DBlk:=⟨0,[],[],[],[]⟩
def DHead.zero :DHead:=⟨0,[],[],0,[]⟩
def kindV :DVal->Nat
 | .mk k _ _ _ _ _=>k
def listV :DVal->List DVal
 | .mk _ _ _ _ l _=>l
def strV :DVal->List UInt8
 | .mk _ _ _ s _ _=>s
def intV :DVal->Int
 | .mk _ _ n _ _ _=>n
def toI (n:Nat):Int:=if n<9223372036854775808 then(n:Int)else(n:Int)-18446744073709551616
def vInt (n:Nat):DVal:=.mk 2 false (toI n) [] [] []
def vTxt (s:List UInt8):DVal:=.mk 3 false 0 s [] []
def vBlob (s:List UInt8):DVal:=.mk 4 false 0 s [] []
def vList (l:List DVal):DVal:=.mk 5 false 0 [] l []
def utfE (s:List UInt8):Int:=if 1024<s.length then 4 else if Lib.validD s then 0 else 9
def wantK (k:Nat):Option Nat:=if k=1 then some 0 else if k=2 then some 3 else if k=3 then some 6 else if k=4 then some 0 else none
def checkR (r:DRev):Int:=
 match wantK r.k with
 |none=>5
 |some q=>if r.t=[]then 4 else if utfE r.t≠0 then utfE r.t
  else if 4611686018427387904<max r.d r.n\/(r.k<3/\0<max r.d r.n)then 2
  else if checkV 0 r.v≠0 then checkV 0 r.v else if kindV r.v≠q then 5 else 0
def HasRev (S:Nat->Prop) (w:World) (r:DRev) (cs:List Value):Prop:=
 ∃cs',cs=.int .u8 (r.k:Int):: .string (bs r.t):: .int .u64 (r.d:Int):: .int .u64 (r.n:Int)::cs'∧
  (r.k<256/\r.t.length<=1073741824/\r.d<18446744073709551616/\r.n<18446744073709551616)/\HasVal S w r.v cs'
theorem relR :Rel HasRev 10 where
 kept:=fun⟨c,h,hl,hv⟩ h1 h2=>⟨c,h,hl,hv.ext_to h1 h2⟩
 lt:=fun⟨c,h,hl,hv⟩=>⟨c,h,hl,relV.lt hv⟩
 len:=fun⟨c,h,hl,hv⟩=>by rw[h,List.length_cons,List.length_cons,List.length_cons,List.length_cons,hv.len]
 one:=fun⟨c,h,hl,hv⟩=>by
  intro u hu
  rw[h]at hu
  rcases List.mem_cons.1 hu with rfl|hu
  ·simp[Value.oneCell']
  rcases List.mem_cons.1 hu with rfl|hu
  ·simp[Value.oneCell']
  rcases List.mem_cons.1 hu with rfl|hu
  ·simp[Value.oneCell']
  rcases List.mem_cons.1 hu with rfl|hu
  ·simp[Value.oneCell']
  ·exact relV.one hv u hu
def HasBlk (S:Nat->Prop) (w:World) (b:DBlk) (cs:List Value):Prop:=
 ∃ps cp pr cr,cs=[.int .u64 (b.seq:Int),.string (bs b.prev),.string (bs b.root),.slice ps b.sts.length cp,.slice pr b.revs.length cr]∧
  (b.seq<18446744073709551616/\b.prev.length<=1073741824/\b.root.length<=1073741824/\b.sts.length<=1073741824/\b.revs.length<=1073741824∧
    b.sts.length<=cp/\cp<=maxLen/\b.revs.length<=cr/\cr<=maxLen/\∀s∈b.sts,s.length<=1073741824)∧
  HasS S w ps b.sts/\RowIn HasRev 10 S w pr b.revs
def headCs (h:DHead):List Value:=[.int .u64 (h.seq:Int),.string (bs h.prev),.string (bs h.root),.int .u64 (h.revs:Int),.string (bs h.sts)]
end Go.Proofs.YtcihbnpckicljaaGreatDoor
