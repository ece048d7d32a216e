/- Small functions of package value: unless, first, flat, bare, name. Conditions: utf8's tables read as the text lays them. value.bare. No conditions. Why a value is not right, as a plain function. No conditions. value.check. Conditions: the value lies in memory; utf8's tables read as the text lays them. codicilref02.Utf: a text's runes. No conditions. codicilref02: Name, zero, check, Check. Condition: the value lies in memory. codicilref02: check, Check. Condition: the value lies in memory. -/
import Derived.Test.YtcihbnpckicljaaGreatDoorrGA
import Derived.Test.YtcihbnpckicljaaGreatDoorrShelf
import Derived.WalkKit
import Derived.WalkSpells
import Derived.WalkLawsBesides
import Derived.Outline
import Derived.BigQuiet
import Derived.BigRegion
import Derived.Lib.ValidAsc
import Derived.Below
import Derived.Deep.DeepCutAuto
import Derived.Laws.RangeAny
import Derived.Lib.TrimUEq
import Derived.Lib.ValidLaws
set_option linter.unusedVariables false
set_option linter.unusedSimpArgs false
namespace Go.Proofs.YtcihbnpckicljaaGreatDoor
open Go Go.RowKit Go.BigFrame
open Go.Lib(hid)
set_option maxRecDepth 100000
def U8T (w:World):Prop:=Lib.Utf8Tabs (Tryz.laysValid_ren.g 3) (Tryz.laysValid_ren.g 4) w
theorem valid_any (s:ByteArray) (w:World) (hs:s.size<=9223372036854775807) (hT:U8T w):
 Calls Tryz.prog 126 #[.string s] w fun e' w'=>e'=.returned (.bool (Lib.validD s.data.toList))/\Below w.heap.size w w':=Any.utf8_ValidString Tryz.laysValid s w hs hT
def unlessE (b:Bool) (e:Int):Int:=if b then 0 else e
theorem unless_any (b:Bool) (e:Int) (w:World):Calls Tryz.prog 141 #[.bool b,.int .i64 e] w fun e' w'=>e'=.returned (.int .i64 (unlessE b e))/\w=w':=by
 cases b
 all_goals
  go_enter Tryz.func141,Tryz.ntmps141
  go_wp2
  go_ret
  exact⟨rfl,rfl⟩
def firstE :List Int->Int
 |[]=>0
 |e::l=>if e=0 then firstE l else e
theorem firstE_drop {es:List Int} {k:Nat} (h:k<es.length) (hz:es[k]=0):firstE (es.drop k)=firstE (es.drop (k+1)):=by
 rw[List.drop_eq_getElem_cons h,firstE,if_pos hz]
theorem firstE_at {es:List Int} {k:Nat} (h:k<es.length) (hz:es[k]≠0):firstE (es.drop k)=es[k]:=by
 rw[List.drop_eq_getElem_cons h,firstE,if_neg hz]
theorem first_any (g:Nat) (es:List Int) (w:World) (hl:es.length<=1000) (h:∀i (hi:i<es.length),w.cell? ⟨g,i,none⟩=some (.int .i64 es[i])):
 Calls Tryz.prog 140 #[.slice (some ⟨g,0,none⟩) es.length es.length] w fun e' w'=>e'=.returned (.int .i64 (firstE es))/\w=w':=by
 obtain⟨n,hn⟩:∃n,n=es.length:=⟨_,rfl⟩
 rw[←hn]at hl⊢
 have HN:=hid hn;clear hn
 obtain⟨r,hr⟩:∃r,r=firstE es:=⟨_,rfl⟩
 rw[←hr]
 have HR:=hid hr;clear hr
 have HC:=hid h;clear h
 go_enter Tryz.func140,Tryz.ntmps140
 go_wp2
 go_loop [7] (fun i=>∃k:Nat,i=.int .i64 k/\k<=n/\firstE (es.drop k)=r) (fun i=>n-(intOf i).toNat)
 case atStart=>exact⟨0,rfl,by omega,HR.out.symm⟩
 case round=>
 obtain⟨k,rfl,hk,hrd⟩:=hrel
 have HRD:=hid hrd;clear hrd
 by_cases hlt:k<n
 ·have hk2:k<es.length:=by rw[←HN.out];exact hlt
  have hc:=HC.out k hk2
  obtain⟨v,hv⟩:∃v,v=es[k]:=⟨_,rfl⟩
  rw[←hv]at hc
  have HV:=hid hv;clear hv
  by_cases hz:v=0
  ·have HS:=hid (firstE_drop hk2 (by rw[←HV.out];exact hz))
   subst hz
   go_wp2
   go_round
   case rel=>exact⟨k+1,by go_num,by omega,by rw[←HS.out];exact HRD.out⟩
   case measure=>simp[intOf];omega
  ·have HS:=hid (firstE_at hk2 (by rw[←HV.out];exact hz))
   go_wp2
   go_ret
   exact⟨by rw[←HRD.out,HS.out,HV.out];rfl,rfl⟩
 ·have HS:Hid (r=0):=hid (by rw[←HRD.out,List.drop_eq_nil_of_le (by rw[←HN.out];omega)];rfl)
  go_wp2
  go_ret
  exact⟨by rw[HS.out];rfl,rfl⟩
def nameE (s:List UInt8):Int:=if s=[]\/1024<s.length then 4 else if Lib.validD s then 0 else 9
theorem name_any (s:List UInt8) (w:World) (hs:s.length<=281474976710656) (hT:U8T w):
 Calls Tryz.prog 144 #[.string (bs s)] w fun e' w'=>e'=.returned (.int .i64 (nameE s))/\Below w.heap.size w w':=by
 have hsz:=bs_size s
 have HT:=hid hT;clear hT
 obtain⟨r,hr⟩:∃r,r=nameE s:=⟨_,rfl⟩
 rw[←hr]
 have HR:=hid hr;clear hr
 by_cases h0:s=[]
 ·have HR2:Hid (r=4):=hid (by rw[HR.out,nameE,if_pos (Or.inl h0)])
  have he:((bs s).toList==([]:List UInt8))=true:=by rw[tl_bs,h0];rfl
  clear h0
  go_enter Tryz.func144,Tryz.ntmps144
  go_wp2
  go_ret
  exact⟨by rw[HR2.out];rfl,Below.refl _ _⟩
 ·have he:((bs s).toList==([]:List UInt8))=false:=by rw[tl_bs];simpa using h0
  by_cases hl:1024<s.length
  ·have HR2:Hid (r=4):=hid (by rw[HR.out,nameE,if_pos (Or.inr hl)])
   have hlI:(1024:Int)<(s.length:Int):=by omega
   clear h0
   go_enter Tryz.func144,Tryz.ntmps144
   go_wp2
   go_ret
   exact⟨by rw[HR2.out];rfl,Below.refl _ _⟩
  ·have hlI:(s.length:Int)<=1024:=by omega
   by_cases hv:Lib.validD s=true
   ·have HR2:Hid (r=0):=hid (by rw[HR.out,nameE,if_neg (by simp[h0,hl]),if_pos hv])
    clear h0
    go_enter Tryz.func144,Tryz.ntmps144
    go_wp2_with fail
    go_at_call 126
    refine(valid_any _ _ (by omega) HT.out).mono ?_
    rintro e' w1 ⟨he',hb⟩
    rw[bs_toList,hv]at he'
    subst he'
    have HB:=hid hb;clear hb hv
    go_wp2
    go_ret
    exact⟨by rw[HR2.out];rfl,HB.out⟩
   ·have HR2:Hid (r=9):=hid (by rw[HR.out,nameE,if_neg (by simp[h0,hl]),if_neg hv])
    have hv2:Lib.validD s=false:=by simpa using hv
    clear h0 hv
    go_enter Tryz.func144,Tryz.ntmps144
    go_wp2_with fail
    go_at_call 126
    refine(valid_any _ _ (by omega) HT.out).mono ?_
    rintro e' w1 ⟨he',hb⟩
    rw[bs_toList,hv2]at he'
    subst he'
    have HB:=hid hb;clear hb hv2
    go_wp2
    go_ret
    exact⟨by rw[HR2.out];rfl,HB.out⟩
def flatB (k:Int) (b:Bool) (n:Int) (s:List UInt8) (ll lf:Nat) (k':Int) (b':Bool) (n':Int) (s':List UInt8) (ll' lf':Nat):Bool:=
 decide (k=k'/\b=b'/\n=n'/\s=s'/\ll=ll'/\lf=lf')
set_option maxHeartbeats 1000000 in
theorem flat_any (k:Int) (b:Bool) (n:Int) (s:List UInt8) (pl:Option Addr) (ll cl:Nat) (pf:Option Addr) (lf cf:Nat) (k':Int) (b':Bool) (n':Int) (s':List UInt8) (pl':Option Addr) (ll' cl':Nat) (pf':Option Addr) (lf' cf':Nat) (w:World):
 Calls Tryz.prog 142 #[.agg #[.int .u8 k,.bool b,.int .i64 n,.string (bs s),.slice pl ll cl,.slice pf lf cf],.agg #[.int .u8 k',.bool b',.int .i64 n',.string (bs s'),.slice pl' ll' cl',.slice pf' lf' cf']] w fun e' w'=>e'=.returned (.bool (flatB k b n s ll lf k' b' n' s' ll' lf'))/\Below w.heap.size w w':=by
 obtain⟨r,hr⟩:∃r,r=flatB k b n s ll lf k' b' n' s' ll' lf':=⟨_,rfl⟩
 rw[←hr]
 have HR:=hid hr;clear hr
 by_cases h1:k=k'
 ·subst h1
  by_cases h2:b=b'
  ·subst h2
   by_cases h3:n=n'
   ·subst h3
    by_cases h4:s=s'
    ·subst h4
     by_cases h5:ll=ll'
     ·subst h5
      by_cases h6:lf=lf'
      ·subst h6
       have HR2:Hid (r=true):=hid (by rw[HR.out];simp[flatB])
       cases b
       all_goals
        go_enter Tryz.func142,Tryz.ntmps142
        go_wp2
        go_ret
        exact⟨by rw[HR2.out];rfl,((Below.refl _ _).alloc (Nat.le_refl _) _).alloc (by simp) _⟩
      ·have HR2:Hid (r=false):=hid (by rw[HR.out];simp[flatB,h6])
       have hI:((lf:Int)==(lf':Int))=false:=by simp;omega
       cases b
       all_goals
        go_enter Tryz.func142,Tryz.ntmps142
        go_wp2
        go_ret
        exact⟨by rw[HR2.out];rfl,((Below.refl _ _).alloc (Nat.le_refl _) _).alloc (by simp) _⟩
     ·have HR2:Hid (r=false):=hid (by rw[HR.out];simp[flatB,h5])
      have hI:((ll:Int)==(ll':Int))=false:=by simp;omega
      cases b
      all_goals
       go_enter Tryz.func142,Tryz.ntmps142
       go_wp2
       go_ret
       exact⟨by rw[HR2.out];rfl,((Below.refl _ _).alloc (Nat.le_refl _) _).alloc (by simp) _⟩
    ·have HR2:Hid (r=false):=hid (by rw[HR.out];simp[flatB,h4])
     have hI:((bs s).toList==(bs s').toList)=false:=by rw[tl_bs,tl_bs];simpa using h4
     clear h4
     cases b
     all_goals
      go_enter Tryz.func142,Tryz.ntmps142
      go_wp2
      go_ret
      exact⟨by rw[HR2.out];rfl,((Below.refl _ _).alloc (Nat.le_refl _) _).alloc (by simp) _⟩
   ·have HR2:Hid (r=false):=hid (by rw[HR.out];simp[flatB,h3])
    cases b
    all_goals
     go_enter Tryz.func142,Tryz.ntmps142
     go_wp2
     go_ret
     exact⟨by rw[HR2.out];rfl,((Below.refl _ _).alloc (Nat.le_refl _) _).alloc (by simp) _⟩
  ·have HR2:Hid (r=false):=hid (by rw[HR.out];simp[flatB,h2])
   cases b<;>cases b'<;>first|(exact absurd rfl h2)|skip
   all_goals
    clear h2
    go_enter Tryz.func142,Tryz.ntmps142
    go_wp2
    go_ret
    exact⟨by rw[HR2.out];rfl,((Below.refl _ _).alloc (Nat.le_refl _) _).alloc (by simp) _⟩
 ·have HR2:Hid (r=false):=hid (by rw[HR.out];simp[flatB,h1])
  go_enter Tryz.func142,Tryz.ntmps142
  go_wp2
  go_ret
  exact⟨by rw[HR2.out];rfl,((Below.refl _ _).alloc (Nat.le_refl _) _).alloc (by simp) _⟩
def sel {α:Type} (c:Bool) (x d:α):α:=if c then x else d
theorem sel_f {α:Type} {c:Bool} {x d:α} (h:c=false):sel c x d=d:=by rw[sel,h];rfl
set_option maxHeartbeats 1000000 in
theorem bare_any (k:Int) (b:Bool) (n:Int) (s:List UInt8) (pl:Option Addr) (ll cl:Nat) (pf:Option Addr) (lf cf:Nat) (w:World):
 Calls Tryz.prog 143 #[.agg #[.int .u8 k,.bool b,.int .i64 n,.string (bs s),.slice pl ll cl,.slice pf lf cf]] w fun e' w'=>
  e'=.returned (.agg #[.int .u8 k,.bool (sel (k==1) b false),.int .i64 (sel (k==2) n 0),.string (bs (sel (k==3||k==4) s [])),.slice (sel (k==5) pl none) (sel (k==5) ll 0) (sel (k==5) cl 0),.slice (sel (k==6) pf none) (sel (k==6) lf 0) (sel (k==6) cf 0)])/\Below w.heap.size w w':=by
 obtain⟨R,hR⟩:∃R:Array Value,R= #[.int .u8 k,.bool (sel (k==1) b false),.int .i64 (sel (k==2) n 0),.string (bs (sel (k==3||k==4) s [])),.slice (sel (k==5) pl none) (sel (k==5) ll 0) (sel (k==5) cl 0),.slice (sel (k==6) pf none) (sel (k==6) lf 0) (sel (k==6) cf 0)]:=⟨_,rfl⟩
 rw[←hR]
 have HR:=hid hR;clear hR
 by_cases h1:k=1
 ·subst h1
  go_enter Tryz.func143,Tryz.ntmps143
  go_wp2
  exact bodyPost_ret (v:=.agg R) (by rw[HR.out];simp[results,Tryz.results143,go_sem,sel,bs]) rfl ⟨rfl,(((Below.refl _ _).alloc (Nat.le_refl _) _).alloc (by simp) _).alloc (by simp;omega) _⟩
 ·by_cases h2:k=2
  ·subst h2
   go_enter Tryz.func143,Tryz.ntmps143
   go_wp2
   exact bodyPost_ret (v:=.agg R) (by rw[HR.out];simp[results,Tryz.results143,go_sem,sel,bs]) rfl ⟨rfl,(((Below.refl _ _).alloc (Nat.le_refl _) _).alloc (by simp) _).alloc (by simp;omega) _⟩
  ·by_cases h3:k=3
   ·subst h3
    go_enter Tryz.func143,Tryz.ntmps143
    go_wp2
    exact bodyPost_ret (v:=.agg R) (by rw[HR.out];simp[results,Tryz.results143,go_sem,sel,bs]) rfl ⟨rfl,(((Below.refl _ _).alloc (Nat.le_refl _) _).alloc (by simp) _).alloc (by simp;omega) _⟩
   ·by_cases h4:k=4
    ·subst h4
     go_enter Tryz.func143,Tryz.ntmps143
     go_wp2
     exact bodyPost_ret (v:=.agg R) (by rw[HR.out];simp[results,Tryz.results143,go_sem,sel,bs]) rfl ⟨rfl,(((Below.refl _ _).alloc (Nat.le_refl _) _).alloc (by simp) _).alloc (by simp;omega) _⟩
    ·by_cases h5:k=5
     ·subst h5
      go_enter Tryz.func143,Tryz.ntmps143
      go_wp2
      exact bodyPost_ret (v:=.agg R) (by rw[HR.out];simp[results,Tryz.results143,go_sem,sel,bs]) rfl ⟨rfl,(((Below.refl _ _).alloc (Nat.le_refl _) _).alloc (by simp) _).alloc (by simp;omega) _⟩
     ·by_cases h6:k=6
      ·subst h6
       go_enter Tryz.func143,Tryz.ntmps143
       go_wp2
       exact bodyPost_ret (v:=.agg R) (by rw[HR.out];simp[results,Tryz.results143,go_sem,sel,bs]) rfl ⟨rfl,(((Below.refl _ _).alloc (Nat.le_refl _) _).alloc (by simp) _).alloc (by simp;omega) _⟩
      ·go_enter Tryz.func143,Tryz.ntmps143
       go_wp2
       exact bodyPost_ret (v:=.agg R) (by rw[HR.out];simp[results,Tryz.results143,go_sem,sel,bs,h1,h2,h3,h4,h5,h6]) rfl ⟨rfl,(((Below.refl _ _).alloc (Nat.le_refl _) _).alloc (by simp) _).alloc (by simp;omega) _⟩
open Go Go.RowKit
open Go.Lib(hid)
def orE (a b:Int):Int:=if a=0 then b else a
theorem orE_z (b:Int):orE 0 b=b:=rfl
theorem orE_n {a:Int} (b:Int) (h:a≠0):orE a b=a:=by rw[orE,if_neg h]
theorem orE_r (a:Int):orE a 0=a:=by unfold orE;split<;>simp_all
theorem orE_assoc (a b c:Int):orE (orE a b) c=orE a (orE b c):=by unfold orE;split<;>simp_all
theorem firstE_two (a b:Int):firstE [a,b]=orE a b:=by simp only[firstE,orE];split<;>simp_all
def gtB (x y:List UInt8):Bool:=!(Op.bytesLess x y||x==y)
def bareB (k:Int) (b:Bool) (n:Int) (s:List UInt8) (ll lf:Nat):Bool:=
 flatB k b n s ll lf k (sel (k==1) b false) (sel (k==2) n 0) (sel (k==3||k==4) s []) (sel (k==5) ll 0) (sel (k==6) lf 0)
def why0 (d:Nat) (k:Int) (b:Bool) (n:Int) (s:List UInt8) (ll lf:Nat):Int:=
 firstE [unlessE (decide (k<7)&&bareB k b n s ll lf) 5,unlessE (decide ((s.length:Int)<=1024)) 4,unlessE (!(k==3)||Lib.validD s) 9,unlessE (decide (max (ll:Int) (lf:Int)<=64)) 3,unlessE (!(k==5||k==6)||decide ((d:Int)<6)) 10]
mutual
def checkV (d:Nat):DVal->Int
 | .mk k b n s l f=>orE (why0 d k b n s l.length f.length) (orE (checkL (d+1) l) (checkF (d+1) [] f))
def checkL (d:Nat):List DVal->Int
 |[]=>0
 |v::l=>orE (checkV d v) (checkL d l)
def checkF (d:Nat) (last:List UInt8):List (List UInt8×DVal)->Int
 |[]=>0
 |(x,v)::f=>orE (orE (nameE x) (unlessE (gtB x last) 18)) (orE (checkV d v) (checkF d x f))
end
theorem checkL_drop {d:Nat} {l:List DVal} {i:Nat} (h:i<l.length):checkL d (l.drop i)=orE (checkV d l[i]) (checkL d (l.drop (i+1))):=by
 rw[List.drop_eq_getElem_cons h,checkL]
theorem checkF_drop {d:Nat} {last:List UInt8} {f:List (List UInt8×DVal)} {i:Nat} (h:i<f.length):
 checkF d last (f.drop i)=orE (orE (nameE f[i].1) (unlessE (gtB f[i].1 last) 18)) (orE (checkV d f[i].2) (checkF d f[i].1 (f.drop (i+1)))):=by
 rw[List.drop_eq_getElem_cons h]
 generalize f[i]=p
 obtain⟨x,v⟩:=p
 rw[checkF]
theorem unlessE_0 {e:Int} (he:e≠0) {b:Bool} (h:unlessE b e=0):b=true:=by
 cases b with
 |true=>rfl
 |false=>exact absurd h he
theorem firstE_0 {l:List Int} (h:firstE l=0):∀e∈l,e=0:=by
 induction l with
 |nil=>intro e he;cases he
 |cons a l ih=>
  rw[firstE]at h
  by_cases ha:a=0
  ·rw[if_pos ha]at h
   intro e he
   rcases List.mem_cons.1 he with rfl|he
   ·exact ha
   ·exact ih h e he
  ·rw[if_neg ha]at h;exact absurd h ha
theorem why0_ok {d:Nat} {k:Int} {b:Bool} {n:Int} {s:List UInt8} {ll lf:Nat} (h:why0 d k b n s ll lf=0):
 k<7/\bareB k b n s ll lf=true/\s.length<=1024/\(k=3->Lib.validD s=true)/\ll<=64/\lf<=64/\(k=5\/k=6->d<6):=by
 have h0:=firstE_0 h
 have a1:=unlessE_0 (e:=5) (b:=decide (k<7)&&bareB k b n s ll lf) (by decide) (h0 _ (by simp))
 have a2:=unlessE_0 (e:=4) (b:=decide ((s.length:Int)<=1024)) (by decide) (h0 _ (by simp))
 have a3:=unlessE_0 (e:=9) (b:=(!(k==3)||Lib.validD s)) (by decide) (h0 _ (by simp))
 have a4:=unlessE_0 (e:=3) (b:=decide (max (ll:Int) (lf:Int)<=64)) (by decide) (h0 _ (by simp))
 have a5:=unlessE_0 (e:=10) (b:=(!(k==5||k==6)||decide ((d:Int)<6))) (by decide) (h0 _ (by simp))
 simp only[Bool.and_eq_true,decide_eq_true_eq]at a1 a2 a4
 refine⟨a1.1,a1.2,by omega,fun h3=>?_,by omega,by omega,fun h5=>?_⟩
 ·subst h3;simpa using a3
 ·have:(d:Int)<6:=by rcases h5 with rfl|rfl<;>simpa using a5
  omega
theorem bareB_ll {k:Int} {b:Bool} {n:Int} {s:List UInt8} {ll lf:Nat} (h:bareB k b n s ll lf=true):(k≠5->ll=0)/\(k≠6->lf=0):=by
 unfold bareB flatB at h
 have:=of_decide_eq_true h
 refine⟨fun hk=>?_,fun hk=>?_⟩
 ·have h5:=this.2.2.2.2.1
  rwa[sel_f (by simpa using hk)]at h5
 ·have h6:=this.2.2.2.2.2
  rwa[sel_f (by simpa using hk)]at h6
theorem why0_depth {d:Nat} {k:Int} {b:Bool} {n:Int} {s:List UInt8} {ll lf:Nat} (h:why0 d k b n s ll lf=0) (hp:0<ll\/0<lf):d<6:=by
 obtain⟨h1,h2,_,_,_,_,h3⟩:=why0_ok h
 obtain⟨b1,b2⟩:=bareB_ll h2
 apply h3
 by_cases h5:k=5
 ·exact Or.inl h5
 ·by_cases h6:k=6
  ·exact Or.inr h6
  ·have:=b1 h5;have:=b2 h6;omega
theorem U8T_ext {w w':World} (h:U8T w) (hb:Below w.heap.size w w'):U8T w':=Utf8Tabs_below h hb
theorem first5_any (g:Nat) (t:TypeId) (a b c d e:Int) (w:World) (h:IsBlk w g #[.int .i64 a,.int .i64 b,.int .i64 c,.int .i64 d,.int .i64 e] t):
 Calls Tryz.prog 140 #[.slice (some ⟨g,0,none⟩) 5 5] w fun e' w'=>e'=.returned (.int .i64 (firstE [a,b,c,d,e]))/\w=w':=
 first_any g [a,b,c,d,e] w (by simp) (fun i hi=>h.cell (by
  match i,hi with
  |0,_|1,_|2,_|3,_|4,_=>rfl))
theorem first2_any (g:Nat) (t:TypeId) (a b:Int) (w:World) (h:IsBlk w g #[.int .i64 a,.int .i64 b] t):
 Calls Tryz.prog 140 #[.slice (some ⟨g,0,none⟩) 2 2] w fun e' w'=>e'=.returned (.int .i64 (firstE [a,b]))/\w=w':=
 first_any g [a,b] w (by simp) (fun i hi=>h.cell (by
  match i,hi with
  |0,_|1,_=>rfl))
set_option maxHeartbeats 4000000 in
theorem check_step (m:Nat) (ih:∀(v:DVal) (d:Nat) (dI:Int) (S:Nat->Prop) (cs:List Value) (w:World),SizeOf.sizeOf v<m->dI=(d:Int)->d<=6->HasVal S w v cs->U8T w->Calls Tryz.prog 115 #[.agg cs.toArray,.int .i64 dI] w fun e' w'=>e'=.returned (.int .i64 (checkV d v))/\Below w.heap.size w w')
 (k:Nat) (b:Bool) (n:Int) (s:List UInt8) (l:List DVal) (f:List (List UInt8×DVal)) (hm:SizeOf.sizeOf (DVal.mk k b n s l f)<m+1) (d:Nat) (hd:d<=6) (S:Nat->Prop) (pl:Option Addr) (cl:Nat) (pf:Option Addr) (cf:Nat) (w:World)
 (hk:k<256) (hs:s.length<=140737488351232) (hll:l.length<=140737488351232) (hlf:f.length<=140737488351232) (hl:HasL S w pl l) (hf:HasF S w pf f) (hT:U8T w):
 Calls Tryz.prog 115 #[.agg #[.int .u8 (k:Int),.bool b,.int .i64 n,.string (bs s),.slice pl l.length cl,.slice pf f.length cf],.int .i64 d] w fun e' w'=>e'=.returned (.int .i64 (checkV d (.mk k b n s l f)))/\Below w.heap.size w w':=by
 obtain⟨y,hy⟩:∃y,y=why0 d k b n s l.length f.length:=⟨_,rfl⟩
 obtain⟨R,hR⟩:∃R,R=checkV d (.mk k b n s l f):=⟨_,rfl⟩
 rw[←hR]
 rw[checkV,←hy]at hR
 obtain⟨ll,hlle⟩:∃ll,ll=l.length:=⟨_,rfl⟩
 obtain⟨lf,hlfe⟩:∃lf,lf=f.length:=⟨_,rfl⟩
 rw[←hlle,←hlfe]at hy
 rw[←hlle]at hll⊢
 rw[←hlfe]at hlf⊢
 have HLL:=hid hlle;clear hlle
 have HLF:=hid hlfe;clear hlfe
 have HR:=hid hR;clear hR
 have HY:=hid hy;clear hy
 have HL:=hid hl;clear hl
 have HF:=hid hf;clear hf
 have HT:=hid hT;clear hT
 have HM:=hid hm;clear hm
 have HI:=hid ih;clear ih
 have hsz:=bs_size s
 go_enter Tryz.func115,Tryz.ntmps115
 go_upto_region 1 with(fail)
 generalize hW0:World.alloc w _=W0
 have hblk:IsBlk W0 w.heap.size #[.int .u8 (k:Int),.bool b,.int .i64 n,.string (bs s),.slice pl ll cl,.slice pf lf cf] 52:=by rw[←hW0];exact IsBlk.new _ _ _
 have hb0:Below w.heap.size w W0:=by rw[←hW0];exact(Below.refl _ _).alloc (Nat.le_refl _) _
 have hlt0:w.heap.size<W0.heap.size:=hblk.lt
 have HT0:=hid (U8T_ext HT.out hb0)
 clear hW0 HT
 have HB0:=hid hb0;clear hb0
 have HBK:=hid hblk;clear hblk
 generalize Value.agg _=A0
 go_cut [5] (fun s5 wx=>s5=.bool ((k:Int)==5||(k:Int)==6)/\W0=wx)
 case first=>
  have c0:W0.cell? ⟨w.heap.size,0,none⟩=some (.int .u8 (k:Int)):=HBK.out.cell rfl
  cases h5:((k:Int)==5)
  ·cases h6:((k:Int)==6)
   all_goals
    go_wp2_with fail
    go_meet
    exact⟨by simp[h5,h6],rfl⟩
  ·go_wp2_with fail
   go_meet
   exact⟨by simp[h5],rfl⟩
 case rest=>
 obtain⟨rfl,rfl⟩:=hcut
 obtain⟨N5,hN5⟩:∃N5,N5=((k:Int)==5||(k:Int)==6):=⟨_,rfl⟩
 rw[←hN5]
 have HN5:=hid hN5;clear hN5
 go_upto_region 2 with(fail)
 go_cut [6] (fun s6 wx=>s6=.int .i64 y/\Below W0.heap.size W0 wx)
 case first=>
  have hblk:=HBK.out
  have c0:W0.cell? ⟨w.heap.size,0,none⟩=some (.int .u8 (k:Int)):=hblk.cell rfl
  have c1:W0.cell? ⟨w.heap.size,1,none⟩=some (.bool b):=hblk.cell rfl
  have c2:W0.cell? ⟨w.heap.size,2,none⟩=some (.int .i64 n):=hblk.cell rfl
  have c3:W0.cell? ⟨w.heap.size,3,none⟩=some (.string (bs s)):=hblk.cell rfl
  have c4:W0.cell? ⟨w.heap.size,4,none⟩=some (.slice pl ll cl):=hblk.cell rfl
  have c5:W0.cell? ⟨w.heap.size,5,none⟩=some (.slice pf lf cf):=hblk.cell rfl
  clear hblk
  by_cases h3:k=3
  ·have h3b:((k:Int)==3)=true:=by simp;omega
   have h5b:((k:Int)==5)=false:=by simp;omega
   have h6b:((k:Int)==6)=false:=by simp;omega
   have h3n:((k:Int) !=3)=false:=by simp;omega
   have hk7:(k:Int)<7:=by omega
   have hkd:decide ((k:Int)<7)=true:=decide_eq_true hk7
   obtain rfl:N5=false:=by rw[HN5.out];simp;omega
   clear h3
   refine mix_start [] (Cls W0) (by kernel_rfl) (Cls.of ((Below.refl _ _).drew)) ?_
   refine mix_flt (by kernel_rfl) [0,1,2,3,4,5,10,11,12,13,15,16,17,24,25,26,27,28,29,30,31,33,34] 20 _ _ (by kernel_rfl) ?_
   simp only[opsAt,zo1,zo2,zo3,zo4,zo5]
   unfold Cls
   repeat(go_big_quiet_step (fail))
   refine wpQuiet_nil ?_
   (try rw[←Cls_def])
   refine mix_ch (i:=6) (fuel:=19) (by kernel_rfl) _ rfl (fun w1 hw1=>?_)
   go_wp2_with(go_at_call 143;refine(bare_any _ _ _ _ _ _ _ _ _ _ _).mono ?_;rintro e' w' ⟨rfl,hb⟩)
   refine Then.same (hw1.trans hb) ?_
   refine mix_ch (i:=7) (fuel:=18) (by kernel_rfl) _ rfl (fun w1 hw1=>?_)
   go_wp2_with(go_at_call 142;refine(flat_any _ _ _ _ _ _ _ _ _ _ _ _ _ _ _ _ _ _ _ _ _).mono ?_;rintro e' w' ⟨rfl,hb⟩)
   refine Then.same (hw1.trans hb) ?_
   refine mix_flt (by kernel_rfl) [8] 17 _ _ (by kernel_rfl) ?_
   simp only[opsAt,zo1,zo2,zo3,zo4,zo5]
   unfold Cls
   repeat(go_big_quiet_step (fail))
   refine wpQuiet_nil ?_
   (try rw[←Cls_def])
   refine mix_ch (i:=9) (fuel:=16) (by kernel_rfl) _ rfl (fun w1 hw1=>?_)
   go_wp2_with(go_at_call 141;refine(unless_any _ _ _).mono ?_;rintro e' w' ⟨rfl,rfl⟩)
   refine Then.same (hw1) ?_
   refine mix_ch (i:=14) (fuel:=15) (by kernel_rfl) _ rfl (fun w1 hw1=>?_)
   go_wp2_with(go_at_call 141;refine(unless_any _ _ _).mono ?_;rintro e' w' ⟨rfl,rfl⟩)
   refine Then.same (hw1) ?_
   refine mix_flt (by kernel_rfl) [18,19,20] 12 _ _ (by kernel_rfl) ?_
   simp only[opsAt,zo1,zo2,zo3,zo4,zo5]
   unfold Cls
   repeat(go_big_quiet_step (fail))
   refine wpQuiet_nil ?_
   (try rw[←Cls_def])
   refine mix_ch (i:=21) (fuel:=11) (by kernel_rfl) _ rfl (fun w1 hw1=>?_)
   go_wp2_with(go_at_call 126;refine(valid_any _ _ (by omega) (U8T_ext HT0.out hw1.below)).mono ?_;rintro e' w' ⟨rfl,hb⟩)
   refine Then.same (hw1.trans hb) ?_
   refine mix_flt (by kernel_rfl) [22] 10 _ _ (by kernel_rfl) ?_
   simp only[opsAt,zo1,zo2,zo3,zo4,zo5]
   unfold Cls
   repeat(go_big_quiet_step (fail))
   refine wpQuiet_nil ?_
   (try rw[←Cls_def])
   refine mix_ch (i:=23) (fuel:=9) (by kernel_rfl) _ rfl (fun w1 hw1=>?_)
   go_wp2_with(go_at_call 141;refine(unless_any _ _ _).mono ?_;rintro e' w' ⟨rfl,rfl⟩)
   refine Then.same (hw1) ?_
   refine mix_ch (i:=32) (fuel:=8) (by kernel_rfl) _ rfl (fun w1 hw1=>?_)
   go_wp2_with(go_at_call 141;refine(unless_any _ _ _).mono ?_;rintro e' w' ⟨rfl,rfl⟩)
   refine Then.same (hw1) ?_
   refine mix_flt (by kernel_rfl) [35,36,37,38] 4 _ _ (by kernel_rfl) ?_
   simp only[opsAt,zo1,zo2,zo3,zo4,zo5]
   unfold Cls
   repeat(go_big_quiet_step (fail))
   refine wpQuiet_nil ?_
   (try rw[←Cls_def])
   refine mix_ch (i:=39) (fuel:=3) (by kernel_rfl) _ rfl (fun w1 hw1=>?_)
   go_wp2_with(go_at_call 141;refine(unless_any _ _ _).mono ?_;rintro e' w' ⟨rfl,rfl⟩)
   refine Then.same (hw1) ?_
   refine mix_ch (i:=40) (fuel:=2) (by kernel_rfl) _ rfl (fun w1 hw1=>?_)
   go_wp2_with(fail)
   refine Then.alloc hw1 ?_
   have hwa:=hw1
   obtain⟨wa,rfl⟩:∃wo:World,wo=w1:=⟨_,rfl⟩
   refine mix_ch (i:=41) (fuel:=1) (by kernel_rfl) _ rfl (fun w1 hw1=>?_)
   go_wp2_with(go_at_call 140;refine(first5_any wa.heap.size _ _ _ _ _ _ _ ((IsBlk.new wa _ _).ext hw1.below)).mono ?_;rintro e' w' ⟨rfl,rfl⟩)
   refine Then.same (hw1) ?_
   refine mix_flt (by kernel_rfl) [42] 0 _ _ (by kernel_rfl) ?_
   simp only[opsAt,zo1,zo2,zo3,zo4,zo5]
   unfold Cls
   repeat(go_big_quiet_step (fail))
   refine wpQuiet_nil ?_
   (try rw[←Cls_def])
   refine mix_end [] (by kernel_rfl) (fun w1 hw1=>?_)
   refine wpList_nil ?_
   refine Calm.normal ?_
   go_wp2_with fail
   go_meet
   refine⟨?_,(below_ext (hwa.below.alloc (by have:=hwa.below.size;omega) _) hw1.below)⟩
   rw[HY.out]
   simp only[why0,bareB,h3b,h5b,h6b,hkd,Bool.true_and,Bool.false_and,Bool.or_true,Bool.true_or,Bool.or_false,Bool.false_or,Bool.not_true,Bool.not_false,bs_toList]
  ·have h3b:((k:Int)==3)=false:=by simp;omega
   have h3n:((k:Int) !=3)=true:=by simp;omega
   by_cases h5:k=5
   ·have h5b:((k:Int)==5)=true:=by simp;omega
    have hk7:(k:Int)<7:=by omega
    have hkd:decide ((k:Int)<7)=true:=decide_eq_true hk7
    obtain rfl:N5=true:=by rw[HN5.out,h5b];rfl
    clear h5
    refine mix_start [] (Cls W0) (by kernel_rfl) (Cls.of ((Below.refl _ _).drew)) ?_
    refine mix_flt (by kernel_rfl) [0,1,2,3,4,5,10,11,12,13,15,16,17,24,25,26,27,28,29,30,31,33,34] 20 _ _ (by kernel_rfl) ?_
    simp only[opsAt,zo1,zo2,zo3,zo4,zo5]
    unfold Cls
    repeat(go_big_quiet_step (fail))
    refine wpQuiet_nil ?_
    (try rw[←Cls_def])
    refine mix_ch (i:=6) (fuel:=19) (by kernel_rfl) _ rfl (fun w1 hw1=>?_)
    go_wp2_with(go_at_call 143;refine(bare_any _ _ _ _ _ _ _ _ _ _ _).mono ?_;rintro e' w' ⟨rfl,hb⟩)
    refine Then.same (hw1.trans hb) ?_
    refine mix_ch (i:=7) (fuel:=18) (by kernel_rfl) _ rfl (fun w1 hw1=>?_)
    go_wp2_with(go_at_call 142;refine(flat_any _ _ _ _ _ _ _ _ _ _ _ _ _ _ _ _ _ _ _ _ _).mono ?_;rintro e' w' ⟨rfl,hb⟩)
    refine Then.same (hw1.trans hb) ?_
    refine mix_flt (by kernel_rfl) [8] 17 _ _ (by kernel_rfl) ?_
    simp only[opsAt,zo1,zo2,zo3,zo4,zo5]
    unfold Cls
    repeat(go_big_quiet_step (fail))
    refine wpQuiet_nil ?_
    (try rw[←Cls_def])
    refine mix_ch (i:=9) (fuel:=16) (by kernel_rfl) _ rfl (fun w1 hw1=>?_)
    go_wp2_with(go_at_call 141;refine(unless_any _ _ _).mono ?_;rintro e' w' ⟨rfl,rfl⟩)
    refine Then.same (hw1) ?_
    refine mix_ch (i:=14) (fuel:=15) (by kernel_rfl) _ rfl (fun w1 hw1=>?_)
    go_wp2_with(go_at_call 141;refine(unless_any _ _ _).mono ?_;rintro e' w' ⟨rfl,rfl⟩)
    refine Then.same (hw1) ?_
    refine mix_flt (by kernel_rfl) [18,19,20] 12 _ _ (by kernel_rfl) ?_
    simp only[opsAt,zo1,zo2,zo3,zo4,zo5]
    unfold Cls
    repeat(go_big_quiet_step (fail))
    refine wpQuiet_nil ?_
    (try rw[←Cls_def])
    refine mix_ch (i:=21) (fuel:=11) (by kernel_rfl) _ rfl (fun w1 hw1=>?_)
    go_wp2_with(go_at_call 126;fail)
    refine Then.same (hw1) ?_
    refine mix_flt (by kernel_rfl) [22] 10 _ _ (by kernel_rfl) ?_
    simp only[opsAt,zo1,zo2,zo3,zo4,zo5]
    unfold Cls
    repeat(go_big_quiet_step (fail))
    refine wpQuiet_nil ?_
    (try rw[←Cls_def])
    refine mix_ch (i:=23) (fuel:=9) (by kernel_rfl) _ rfl (fun w1 hw1=>?_)
    go_wp2_with(go_at_call 141;refine(unless_any _ _ _).mono ?_;rintro e' w' ⟨rfl,rfl⟩)
    refine Then.same (hw1) ?_
    refine mix_ch (i:=32) (fuel:=8) (by kernel_rfl) _ rfl (fun w1 hw1=>?_)
    go_wp2_with(go_at_call 141;refine(unless_any _ _ _).mono ?_;rintro e' w' ⟨rfl,rfl⟩)
    refine Then.same (hw1) ?_
    refine mix_flt (by kernel_rfl) [35,36,37,38] 4 _ _ (by kernel_rfl) ?_
    simp only[opsAt,zo1,zo2,zo3,zo4,zo5]
    unfold Cls
    repeat(go_big_quiet_step (fail))
    refine wpQuiet_nil ?_
    (try rw[←Cls_def])
    refine mix_ch (i:=39) (fuel:=3) (by kernel_rfl) _ rfl (fun w1 hw1=>?_)
    go_wp2_with(go_at_call 141;refine(unless_any _ _ _).mono ?_;rintro e' w' ⟨rfl,rfl⟩)
    refine Then.same (hw1) ?_
    refine mix_ch (i:=40) (fuel:=2) (by kernel_rfl) _ rfl (fun w1 hw1=>?_)
    go_wp2_with(fail)
    refine Then.alloc hw1 ?_
    have hwa:=hw1
    obtain⟨wa,rfl⟩:∃wo:World,wo=w1:=⟨_,rfl⟩
    refine mix_ch (i:=41) (fuel:=1) (by kernel_rfl) _ rfl (fun w1 hw1=>?_)
    go_wp2_with(go_at_call 140;refine(first5_any wa.heap.size _ _ _ _ _ _ _ ((IsBlk.new wa _ _).ext hw1.below)).mono ?_;rintro e' w' ⟨rfl,rfl⟩)
    refine Then.same (hw1) ?_
    refine mix_flt (by kernel_rfl) [42] 0 _ _ (by kernel_rfl) ?_
    simp only[opsAt,zo1,zo2,zo3,zo4,zo5]
    unfold Cls
    repeat(go_big_quiet_step (fail))
    refine wpQuiet_nil ?_
    (try rw[←Cls_def])
    refine mix_end [] (by kernel_rfl) (fun w1 hw1=>?_)
    refine wpList_nil ?_
    refine Calm.normal ?_
    go_wp2_with fail
    go_meet
    refine⟨?_,(below_ext (hwa.below.alloc (by have:=hwa.below.size;omega) _) hw1.below)⟩
    rw[HY.out]
    simp only[why0,bareB,h3b,h5b,hkd,Bool.true_and,Bool.false_and,Bool.or_true,Bool.true_or,Bool.or_false,Bool.false_or,Bool.not_true,Bool.not_false,bs_toList]
   ·have h5b:((k:Int)==5)=false:=by simp;omega
    by_cases h6:k=6
    ·have h6b:((k:Int)==6)=true:=by simp;omega
     have hk7:(k:Int)<7:=by omega
     have hkd:decide ((k:Int)<7)=true:=decide_eq_true hk7
     obtain rfl:N5=true:=by rw[HN5.out,h5b,h6b];rfl
     clear h6
     refine mix_start [] (Cls W0) (by kernel_rfl) (Cls.of ((Below.refl _ _).drew)) ?_
     refine mix_flt (by kernel_rfl) [0,1,2,3,4,5,10,11,12,13,15,16,17,24,25,26,27,28,29,30,31,33,34] 20 _ _ (by kernel_rfl) ?_
     simp only[opsAt,zo1,zo2,zo3,zo4,zo5]
     unfold Cls
     repeat(go_big_quiet_step (fail))
     refine wpQuiet_nil ?_
     (try rw[←Cls_def])
     refine mix_ch (i:=6) (fuel:=19) (by kernel_rfl) _ rfl (fun w1 hw1=>?_)
     go_wp2_with(go_at_call 143;refine(bare_any _ _ _ _ _ _ _ _ _ _ _).mono ?_;rintro e' w' ⟨rfl,hb⟩)
     refine Then.same (hw1.trans hb) ?_
     refine mix_ch (i:=7) (fuel:=18) (by kernel_rfl) _ rfl (fun w1 hw1=>?_)
     go_wp2_with(go_at_call 142;refine(flat_any _ _ _ _ _ _ _ _ _ _ _ _ _ _ _ _ _ _ _ _ _).mono ?_;rintro e' w' ⟨rfl,hb⟩)
     refine Then.same (hw1.trans hb) ?_
     refine mix_flt (by kernel_rfl) [8] 17 _ _ (by kernel_rfl) ?_
     simp only[opsAt,zo1,zo2,zo3,zo4,zo5]
     unfold Cls
     repeat(go_big_quiet_step (fail))
     refine wpQuiet_nil ?_
     (try rw[←Cls_def])
     refine mix_ch (i:=9) (fuel:=16) (by kernel_rfl) _ rfl (fun w1 hw1=>?_)
     go_wp2_with(go_at_call 141;refine(unless_any _ _ _).mono ?_;rintro e' w' ⟨rfl,rfl⟩)
     refine Then.same (hw1) ?_
     refine mix_ch (i:=14) (fuel:=15) (by kernel_rfl) _ rfl (fun w1 hw1=>?_)
     go_wp2_with(go_at_call 141;refine(unless_any _ _ _).mono ?_;rintro e' w' ⟨rfl,rfl⟩)
     refine Then.same (hw1) ?_
     refine mix_flt (by kernel_rfl) [18,19,20] 12 _ _ (by kernel_rfl) ?_
     simp only[opsAt,zo1,zo2,zo3,zo4,zo5]
     unfold Cls
     repeat(go_big_quiet_step (fail))
     refine wpQuiet_nil ?_
     (try rw[←Cls_def])
     refine mix_ch (i:=21) (fuel:=11) (by kernel_rfl) _ rfl (fun w1 hw1=>?_)
     go_wp2_with(go_at_call 126;fail)
     refine Then.same (hw1) ?_
     refine mix_flt (by kernel_rfl) [22] 10 _ _ (by kernel_rfl) ?_
     simp only[opsAt,zo1,zo2,zo3,zo4,zo5]
     unfold Cls
     repeat(go_big_quiet_step (fail))
     refine wpQuiet_nil ?_
     (try rw[←Cls_def])
     refine mix_ch (i:=23) (fuel:=9) (by kernel_rfl) _ rfl (fun w1 hw1=>?_)
     go_wp2_with(go_at_call 141;refine(unless_any _ _ _).mono ?_;rintro e' w' ⟨rfl,rfl⟩)
     refine Then.same (hw1) ?_
     refine mix_ch (i:=32) (fuel:=8) (by kernel_rfl) _ rfl (fun w1 hw1=>?_)
     go_wp2_with(go_at_call 141;refine(unless_any _ _ _).mono ?_;rintro e' w' ⟨rfl,rfl⟩)
     refine Then.same (hw1) ?_
     refine mix_flt (by kernel_rfl) [35,36,37,38] 4 _ _ (by kernel_rfl) ?_
     simp only[opsAt,zo1,zo2,zo3,zo4,zo5]
     unfold Cls
     repeat(go_big_quiet_step (fail))
     refine wpQuiet_nil ?_
     (try rw[←Cls_def])
     refine mix_ch (i:=39) (fuel:=3) (by kernel_rfl) _ rfl (fun w1 hw1=>?_)
     go_wp2_with(go_at_call 141;refine(unless_any _ _ _).mono ?_;rintro e' w' ⟨rfl,rfl⟩)
     refine Then.same (hw1) ?_
     refine mix_ch (i:=40) (fuel:=2) (by kernel_rfl) _ rfl (fun w1 hw1=>?_)
     go_wp2_with(fail)
     refine Then.alloc hw1 ?_
     have hwa:=hw1
     obtain⟨wa,rfl⟩:∃wo:World,wo=w1:=⟨_,rfl⟩
     refine mix_ch (i:=41) (fuel:=1) (by kernel_rfl) _ rfl (fun w1 hw1=>?_)
     go_wp2_with(go_at_call 140;refine(first5_any wa.heap.size _ _ _ _ _ _ _ ((IsBlk.new wa _ _).ext hw1.below)).mono ?_;rintro e' w' ⟨rfl,rfl⟩)
     refine Then.same (hw1) ?_
     refine mix_flt (by kernel_rfl) [42] 0 _ _ (by kernel_rfl) ?_
     simp only[opsAt,zo1,zo2,zo3,zo4,zo5]
     unfold Cls
     repeat(go_big_quiet_step (fail))
     refine wpQuiet_nil ?_
     (try rw[←Cls_def])
     refine mix_end [] (by kernel_rfl) (fun w1 hw1=>?_)
     refine wpList_nil ?_
     refine Calm.normal ?_
     go_wp2_with fail
     go_meet
     refine⟨?_,(below_ext (hwa.below.alloc (by have:=hwa.below.size;omega) _) hw1.below)⟩
     rw[HY.out]
     simp only[why0,bareB,h3b,h5b,h6b,hkd,Bool.true_and,Bool.false_and,Bool.or_true,Bool.true_or,Bool.or_false,Bool.false_or,Bool.not_true,Bool.not_false,bs_toList]
    ·have h6b:((k:Int)==6)=false:=by simp;omega
     obtain rfl:N5=false:=by rw[HN5.out,h5b,h6b];rfl
     by_cases h7:k<7
     ·have hk7:(k:Int)<7:=by omega
      have hkd:decide ((k:Int)<7)=true:=decide_eq_true hk7
      refine mix_start [] (Cls W0) (by kernel_rfl) (Cls.of ((Below.refl _ _).drew)) ?_
      refine mix_flt (by kernel_rfl) [0,1,2,3,4,5,10,11,12,13,15,16,17,24,25,26,27,28,29,30,31,33,34] 20 _ _ (by kernel_rfl) ?_
      simp only[opsAt,zo1,zo2,zo3,zo4,zo5]
      unfold Cls
      repeat(go_big_quiet_step (fail))
      refine wpQuiet_nil ?_
      (try rw[←Cls_def])
      refine mix_ch (i:=6) (fuel:=19) (by kernel_rfl) _ rfl (fun w1 hw1=>?_)
      go_wp2_with(go_at_call 143;refine(bare_any _ _ _ _ _ _ _ _ _ _ _).mono ?_;rintro e' w' ⟨rfl,hb⟩)
      refine Then.same (hw1.trans hb) ?_
      refine mix_ch (i:=7) (fuel:=18) (by kernel_rfl) _ rfl (fun w1 hw1=>?_)
      go_wp2_with(go_at_call 142;refine(flat_any _ _ _ _ _ _ _ _ _ _ _ _ _ _ _ _ _ _ _ _ _).mono ?_;rintro e' w' ⟨rfl,hb⟩)
      refine Then.same (hw1.trans hb) ?_
      refine mix_flt (by kernel_rfl) [8] 17 _ _ (by kernel_rfl) ?_
      simp only[opsAt,zo1,zo2,zo3,zo4,zo5]
      unfold Cls
      repeat(go_big_quiet_step (fail))
      refine wpQuiet_nil ?_
      (try rw[←Cls_def])
      refine mix_ch (i:=9) (fuel:=16) (by kernel_rfl) _ rfl (fun w1 hw1=>?_)
      go_wp2_with(go_at_call 141;refine(unless_any _ _ _).mono ?_;rintro e' w' ⟨rfl,rfl⟩)
      refine Then.same (hw1) ?_
      refine mix_ch (i:=14) (fuel:=15) (by kernel_rfl) _ rfl (fun w1 hw1=>?_)
      go_wp2_with(go_at_call 141;refine(unless_any _ _ _).mono ?_;rintro e' w' ⟨rfl,rfl⟩)
      refine Then.same (hw1) ?_
      refine mix_flt (by kernel_rfl) [18,19,20] 12 _ _ (by kernel_rfl) ?_
      simp only[opsAt,zo1,zo2,zo3,zo4,zo5]
      unfold Cls
      repeat(go_big_quiet_step (fail))
      refine wpQuiet_nil ?_
      (try rw[←Cls_def])
      refine mix_ch (i:=21) (fuel:=11) (by kernel_rfl) _ rfl (fun w1 hw1=>?_)
      go_wp2_with(go_at_call 126;fail)
      refine Then.same (hw1) ?_
      refine mix_flt (by kernel_rfl) [22] 10 _ _ (by kernel_rfl) ?_
      simp only[opsAt,zo1,zo2,zo3,zo4,zo5]
      unfold Cls
      repeat(go_big_quiet_step (fail))
      refine wpQuiet_nil ?_
      (try rw[←Cls_def])
      refine mix_ch (i:=23) (fuel:=9) (by kernel_rfl) _ rfl (fun w1 hw1=>?_)
      go_wp2_with(go_at_call 141;refine(unless_any _ _ _).mono ?_;rintro e' w' ⟨rfl,rfl⟩)
      refine Then.same (hw1) ?_
      refine mix_ch (i:=32) (fuel:=8) (by kernel_rfl) _ rfl (fun w1 hw1=>?_)
      go_wp2_with(go_at_call 141;refine(unless_any _ _ _).mono ?_;rintro e' w' ⟨rfl,rfl⟩)
      refine Then.same (hw1) ?_
      refine mix_flt (by kernel_rfl) [35,36,37,38] 4 _ _ (by kernel_rfl) ?_
      simp only[opsAt,zo1,zo2,zo3,zo4,zo5]
      unfold Cls
      repeat(go_big_quiet_step (fail))
      refine wpQuiet_nil ?_
      (try rw[←Cls_def])
      refine mix_ch (i:=39) (fuel:=3) (by kernel_rfl) _ rfl (fun w1 hw1=>?_)
      go_wp2_with(go_at_call 141;refine(unless_any _ _ _).mono ?_;rintro e' w' ⟨rfl,rfl⟩)
      refine Then.same (hw1) ?_
      refine mix_ch (i:=40) (fuel:=2) (by kernel_rfl) _ rfl (fun w1 hw1=>?_)
      go_wp2_with(fail)
      refine Then.alloc hw1 ?_
      have hwa:=hw1
      obtain⟨wa,rfl⟩:∃wo:World,wo=w1:=⟨_,rfl⟩
      refine mix_ch (i:=41) (fuel:=1) (by kernel_rfl) _ rfl (fun w1 hw1=>?_)
      go_wp2_with(go_at_call 140;refine(first5_any wa.heap.size _ _ _ _ _ _ _ ((IsBlk.new wa _ _).ext hw1.below)).mono ?_;rintro e' w' ⟨rfl,rfl⟩)
      refine Then.same (hw1) ?_
      refine mix_flt (by kernel_rfl) [42] 0 _ _ (by kernel_rfl) ?_
      simp only[opsAt,zo1,zo2,zo3,zo4,zo5]
      unfold Cls
      repeat(go_big_quiet_step (fail))
      refine wpQuiet_nil ?_
      (try rw[←Cls_def])
      refine mix_end [] (by kernel_rfl) (fun w1 hw1=>?_)
      refine wpList_nil ?_
      refine Calm.normal ?_
      go_wp2_with fail
      go_meet
      refine⟨?_,(below_ext (hwa.below.alloc (by have:=hwa.below.size;omega) _) hw1.below)⟩
      rw[HY.out]
      simp only[why0,bareB,h3b,h5b,h6b,hkd,Bool.true_and,Bool.false_and,Bool.or_true,Bool.true_or,Bool.or_false,Bool.false_or,Bool.not_true,Bool.not_false,bs_toList]
     ·have hk7:(7:Int)<=(k:Int):=by omega
      have hkd:decide ((k:Int)<7)=false:=decide_eq_false (by omega)
      refine mix_start [] (Cls W0) (by kernel_rfl) (Cls.of ((Below.refl _ _).drew)) ?_
      refine mix_flt (by kernel_rfl) [0,1,2,3,4,5,10,11,12,13,15,16,17,24,25,26,27,28,29,30,31,33,34] 20 _ _ (by kernel_rfl) ?_
      simp only[opsAt,zo1,zo2,zo3,zo4,zo5]
      unfold Cls
      repeat(go_big_quiet_step (fail))
      refine wpQuiet_nil ?_
      (try rw[←Cls_def])
      refine mix_ch (i:=6) (fuel:=19) (by kernel_rfl) _ rfl (fun w1 hw1=>?_)
      go_wp2_with(go_at_call 143;fail)
      refine Then.same (hw1) ?_
      refine mix_ch (i:=7) (fuel:=18) (by kernel_rfl) _ rfl (fun w1 hw1=>?_)
      go_wp2_with(go_at_call 142;fail)
      refine Then.same (hw1) ?_
      refine mix_flt (by kernel_rfl) [8] 17 _ _ (by kernel_rfl) ?_
      simp only[opsAt,zo1,zo2,zo3,zo4,zo5]
      unfold Cls
      repeat(go_big_quiet_step (fail))
      refine wpQuiet_nil ?_
      (try rw[←Cls_def])
      refine mix_ch (i:=9) (fuel:=16) (by kernel_rfl) _ rfl (fun w1 hw1=>?_)
      go_wp2_with(go_at_call 141;refine(unless_any _ _ _).mono ?_;rintro e' w' ⟨rfl,rfl⟩)
      refine Then.same (hw1) ?_
      refine mix_ch (i:=14) (fuel:=15) (by kernel_rfl) _ rfl (fun w1 hw1=>?_)
      go_wp2_with(go_at_call 141;refine(unless_any _ _ _).mono ?_;rintro e' w' ⟨rfl,rfl⟩)
      refine Then.same (hw1) ?_
      refine mix_flt (by kernel_rfl) [18,19,20] 12 _ _ (by kernel_rfl) ?_
      simp only[opsAt,zo1,zo2,zo3,zo4,zo5]
      unfold Cls
      repeat(go_big_quiet_step (fail))
      refine wpQuiet_nil ?_
      (try rw[←Cls_def])
      refine mix_ch (i:=21) (fuel:=11) (by kernel_rfl) _ rfl (fun w1 hw1=>?_)
      go_wp2_with(go_at_call 126;fail)
      refine Then.same (hw1) ?_
      refine mix_flt (by kernel_rfl) [22] 10 _ _ (by kernel_rfl) ?_
      simp only[opsAt,zo1,zo2,zo3,zo4,zo5]
      unfold Cls
      repeat(go_big_quiet_step (fail))
      refine wpQuiet_nil ?_
      (try rw[←Cls_def])
      refine mix_ch (i:=23) (fuel:=9) (by kernel_rfl) _ rfl (fun w1 hw1=>?_)
      go_wp2_with(go_at_call 141;refine(unless_any _ _ _).mono ?_;rintro e' w' ⟨rfl,rfl⟩)
      refine Then.same (hw1) ?_
      refine mix_ch (i:=32) (fuel:=8) (by kernel_rfl) _ rfl (fun w1 hw1=>?_)
      go_wp2_with(go_at_call 141;refine(unless_any _ _ _).mono ?_;rintro e' w' ⟨rfl,rfl⟩)
      refine Then.same (hw1) ?_
      refine mix_flt (by kernel_rfl) [35,36,37,38] 4 _ _ (by kernel_rfl) ?_
      simp only[opsAt,zo1,zo2,zo3,zo4,zo5]
      unfold Cls
      repeat(go_big_quiet_step (fail))
      refine wpQuiet_nil ?_
      (try rw[←Cls_def])
      refine mix_ch (i:=39) (fuel:=3) (by kernel_rfl) _ rfl (fun w1 hw1=>?_)
      go_wp2_with(go_at_call 141;refine(unless_any _ _ _).mono ?_;rintro e' w' ⟨rfl,rfl⟩)
      refine Then.same (hw1) ?_
      refine mix_ch (i:=40) (fuel:=2) (by kernel_rfl) _ rfl (fun w1 hw1=>?_)
      go_wp2_with(fail)
      refine Then.alloc hw1 ?_
      have hwa:=hw1
      obtain⟨wa,rfl⟩:∃wo:World,wo=w1:=⟨_,rfl⟩
      refine mix_ch (i:=41) (fuel:=1) (by kernel_rfl) _ rfl (fun w1 hw1=>?_)
      go_wp2_with(go_at_call 140;refine(first5_any wa.heap.size _ _ _ _ _ _ _ ((IsBlk.new wa _ _).ext hw1.below)).mono ?_;rintro e' w' ⟨rfl,rfl⟩)
      refine Then.same (hw1) ?_
      refine mix_flt (by kernel_rfl) [42] 0 _ _ (by kernel_rfl) ?_
      simp only[opsAt,zo1,zo2,zo3,zo4,zo5]
      unfold Cls
      repeat(go_big_quiet_step (fail))
      refine wpQuiet_nil ?_
      (try rw[←Cls_def])
      refine mix_end [] (by kernel_rfl) (fun w1 hw1=>?_)
      refine wpList_nil ?_
      refine Calm.normal ?_
      go_wp2_with fail
      go_meet
      refine⟨?_,(below_ext (hwa.below.alloc (by have:=hwa.below.size;omega) _) hw1.below)⟩
      rw[HY.out]
      simp only[why0,bareB,h3b,h5b,h6b,hkd,Bool.true_and,Bool.false_and,Bool.or_true,Bool.true_or,Bool.or_false,Bool.false_or,Bool.not_true,Bool.not_false,bs_toList]
 case rest=>
  obtain⟨rfl,hbw⟩:=hcut
  have HBW:=hid hbw;clear hbw
  obtain⟨Z,hZ⟩:∃Z,Z=orE y (checkL (d+1) l):=⟨_,rfl⟩
  have hRZ:R=orE Z (checkF (d+1) [] f):=by rw[HR.out,hZ,orE_assoc]
  have HRZ:=hid hRZ;clear hRZ HR
  have HZ:=hid hZ;clear hZ
  have hdep:y=0->0<ll\/0<lf->d<6:=fun h0 hp=>why0_depth (HY.out.symm.trans h0) hp
  have HD:=hid hdep;clear hdep
  go_upto_block 0 with(fail)
  go_cut [6] (fun s6 wx=>s6=.int .i64 Z/\Below W0.heap.size W0 wx)
  case first=>
   go_wp2
   go_loopw [7,6] (fun i v wr=>∃(j:Nat) (z:Int),i=.int .i64 j/\v=.int .i64 z/\j<=ll/\(z=0->y=0)/\orE z (checkL (d+1) (l.drop j))=Z/\Below W0.heap.size W0 wr) (fun i _ _=>ll-(intOf i).toNat)
   case atStart=>exact⟨0,y,rfl,rfl,by omega,id,HZ.out.symm,HBW.out⟩
   case round=>
   clear HBW
   obtain⟨j,z,rfl,rfl,hj,hzy,hrel,hbw⟩:=hrel
   have HZY:=hid hzy;clear hzy
   have HREL:=hid hrel;clear hrel
   have HBW:=hid hbw;clear hbw
   have c4:wr.cell? ⟨w.heap.size,4,none⟩=some (.slice pl ll cl):=(HBK.out.below HBW.out hlt0).cell rfl
   have c5:wr.cell? ⟨w.heap.size,5,none⟩=some (.slice pf lf cf):=(HBK.out.below HBW.out hlt0).cell rfl
   by_cases hlt:j<ll/\z=0
   ·obtain⟨hlt,hz⟩:=hlt
    have hdI:(d:Int)+1<=6:=by have:=HD.out (HZY.out hz) (Or.inl (by omega));omega
    have HY0:=hid (HZY.out hz);clear HZY
    subst hz
    have hj2:j<l.length:=by rw[←HLL.out];exact hlt
    obtain⟨g,o,cs,hpl,hcells,hval⟩:=(HL.out.ext (Below.trans HB0.out (HBW.out.mono (by omega)))) j hj2
    have hdrop:=checkL_drop (d:=d+1) hj2
    have hsz2:=DVal.size_l (k:=k) (b:=b) (n:=n) (s:=s) (f:=f) l[j] (List.getElem_mem _)
    generalize l[j]=v at hval hdrop hsz2
    have HS2:=hid hsz2;clear hsz2
    have HDR:=hid hdrop;clear hdrop
    obtain⟨k1,b1,n1,s1,l1,f1⟩:=v
    have HV:=hid hval
    obtain⟨pl1,cl1,pf1,cf1,rfl,hbd,_,_⟩:=hasVal_mk.1 hval
    clear hval
    obtain⟨e0,e1,e2,e3,e4,e5⟩:=hcells.six
    clear hcells hbd
    subst hpl
    go_wp2_with fail
    go_at_call 115
    refine(HI.out (.mk k1 b1 n1 s1 l1 f1) (d+1) _ S _ wr (by have:=HS2.out;have:=HM.out;omega) rfl (by omega) HV.out (U8T_ext HT0.out HBW.out)).mono ?_
    rintro e' w1 ⟨rfl,hb⟩
    have HB1:=hid (below_ext HBW.out hb);clear hb
    go_wp2
    go_roundw
    case rel=>exact⟨j+1,_,by go_num,rfl,by omega,fun _=>HY0.out,by rw[←HDR.out];exact HREL.out,HB1.out⟩
    case measure=>simp[intOf];omega
   ·have hzZ:z=Z:=by
     rcases Nat.lt_or_ge j ll with h1|h1
     ·rw[←HREL.out,orE_n _ (fun h0=>hlt ⟨h1,h0⟩)]
     ·rw[←HREL.out,List.drop_eq_nil_of_le (by rw[←HLL.out];exact h1),checkL,orE_r]
    subst hzZ
    have hnot:(j:Int)<(ll:Int)-> ¬z=0:=fun h1 h0=>hlt ⟨by omega,h0⟩
    clear hlt
    have hcond:((ll:Int)<=(j:Int))\/((j:Int)<(ll:Int)/\ ¬z=0):=by omega
    clear hnot
    rcases hcond with hcond|⟨hcond,hcond2⟩
    all_goals
     go_wp2_with fail
     go_meet
     exact⟨rfl,HBW.out⟩
  case rest=>
  obtain⟨rfl,hbw2⟩:=hcut
  have HBW2:=hid hbw2;clear hbw2
  have hzy:Z=0->y=0:=fun h0=>by
   rw[HZ.out]at h0
   by_cases hy0:y=0
   ·exact hy0
   ·rw[orE_n _ hy0]at h0;exact absurd h0 hy0
  have HZY2:=hid hzy;clear hzy HZ
  go_wp2
  go_loopw [9,6,8] (fun i v u wr=>∃(j:Nat) (z:Int) (last:List UInt8),i=.int .i64 j/\v=.int .i64 z/\u=.string (bs last)/\j<=lf/\(z=0->y=0)/\orE z (checkF (d+1) last (f.drop j))=R/\Below W0.heap.size W0 wr) (fun i _ _ _=>lf-(intOf i).toNat)
  case atStart=>exact⟨0,Z,[],rfl,rfl,rfl,by omega,HZY2.out,HRZ.out.symm,HBW2.out⟩
  case round=>
  clear HBW HBW2 HRZ HZY2
  obtain⟨j2,z2,last,rfl,rfl,rfl,hj2,hzy,hrel,hbw⟩:=hrel
  have HZY:=hid hzy;clear hzy
  have HREL:=hid hrel;clear hrel
  have HBW:=hid hbw;clear hbw
  have c5:wr.cell? ⟨w.heap.size,5,none⟩=some (.slice pf lf cf):=(HBK.out.below HBW.out hlt0).cell rfl
  by_cases hlt:j2<lf/\z2=0
  ·obtain⟨hlt,hz⟩:=hlt
   have hdI:(d:Int)+1<=6:=by have:=HD.out (HZY.out hz) (Or.inr (by omega));omega
   have HY0:=hid (HZY.out hz);clear HZY
   subst hz
   have hjf:j2<f.length:=by rw[←HLF.out];exact hlt
   obtain⟨g,o,cs,hpf,⟨hxl,hcells⟩,hval⟩:=(HF.out.ext (Below.trans HB0.out (HBW.out.mono (by omega)))) j2 hjf
   have hdrop:=checkF_drop (d:=d+1) (last:=last) hjf
   have hsz2:=DVal.size_f (k:=k) (b:=b) (n:=n) (s:=s) (l:=l) f[j2] (List.getElem_mem _)
   generalize f[j2]=p at hval hdrop hsz2 hxl hcells
   obtain⟨x,v⟩:=p
   simp only[]at hval hdrop hsz2 hxl hcells
   have HS2:=hid hsz2;clear hsz2
   have HDR:=hid hdrop;clear hdrop
   obtain⟨k1,b1,n1,s1,l1,f1⟩:=v
   have HV:=hid hval
   obtain⟨pl1,cl1,pf1,cf1,rfl,hbd,_,_⟩:=hasVal_mk.1 hval
   clear hval
   obtain⟨e0,e1,e2,e3,e4,e5,e6⟩:=hcells.seven
   clear hcells hbd
   subst hpf
   go_upto_region 12 with(fail)
   generalize hW2:World.alloc wr _=W2
   have hblk2:IsBlk W2 wr.heap.size #[.string (bs x),.int .u8 (k1:Int),.bool b1,.int .i64 n1,.string (bs s1),.slice pl1 l1.length cl1,.slice pf1 f1.length cf1] 66:=by rw[←hW2];exact IsBlk.new _ _ _
   have hb2:Below wr.heap.size wr W2:=by rw[←hW2];exact(Below.refl _ _).alloc (Nat.le_refl _) _
   have hlt2:wr.heap.size<W2.heap.size:=hblk2.lt
   clear hW2 e0 e1 e2 e3 e4 e5 e6 c5
   have HB2:=hid hb2;clear hb2
   have d0:W2.cell? ⟨wr.heap.size,0,none⟩=some (.string (bs x)):=hblk2.cell rfl
   have HBK2:=hid hblk2;clear hblk2
   have hxl2:x.length<=281474976710656:=by omega
   have HTR:=hid (U8T_ext (U8T_ext HT0.out HBW.out) HB2.out)
   refine mix_start [] (Cls W2) (by kernel_rfl) (Cls.of ((Below.refl _ _).drew)) ?_
   refine mix_flt (by kernel_rfl) [0,1,3,4,5,6] 5 _ _ (by kernel_rfl) ?_
   simp only[opsAt,zo1,zo2,zo3,zo4,zo5]
   unfold Cls
   repeat(go_big_quiet_step (fail))
   refine wpQuiet_nil ?_
   (try rw[←Cls_def])
   refine mix_ch (i:=2) (fuel:=4) (by kernel_rfl) _ rfl (fun w1 hw1=>?_)
   go_wp2_with(go_at_call 144;refine(name_any x _ hxl2 (U8T_ext HTR.out hw1.below)).mono ?_;rintro e' w' ⟨rfl,hb⟩)
   refine Then.same (hw1.trans hb) ?_
   refine mix_ch (i:=7) (fuel:=3) (by kernel_rfl) _ rfl (fun w1 hw1=>?_)
   go_wp2_with(go_at_call 141;refine(unless_any _ _ _).mono ?_;rintro e' w' ⟨rfl,rfl⟩)
   refine Then.same (hw1) ?_
   refine mix_ch (i:=8) (fuel:=2) (by kernel_rfl) _ rfl (fun w1 hw1=>?_)
   go_wp2_with(fail)
   refine Then.alloc hw1 ?_
   have hwa:=hw1
   obtain⟨wa,rfl⟩:∃wo:World,wo=w1:=⟨_,rfl⟩
   refine mix_ch (i:=9) (fuel:=1) (by kernel_rfl) _ rfl (fun w1 hw1=>?_)
   go_wp2_with(go_at_call 140;refine(first2_any wa.heap.size _ _ _ _ ((IsBlk.new wa _ _).ext hw1.below)).mono ?_;rintro e' w' ⟨rfl,rfl⟩)
   refine Then.same (hw1) ?_
   refine mix_flt (by kernel_rfl) [10] 0 _ _ (by kernel_rfl) ?_
   simp only[opsAt,zo1,zo2,zo3,zo4,zo5]
   unfold Cls
   repeat(go_big_quiet_step (fail))
   refine wpQuiet_nil ?_
   (try rw[←Cls_def])
   refine mix_end [] (by kernel_rfl) (fun w1 hw1=>?_)
   refine wpList_nil ?_
   refine Calm.normal ?_
   obtain⟨Q,hQ⟩:∃Q,Q=orE (nameE x) (unlessE (gtB x last) 18):=⟨_,rfl⟩
   have hQ2:firstE [nameE x,unlessE (!Op.bytesLess (bs x).toList (bs last).toList&&!(bs x).toList==(bs last).toList) 18]=Q:=by
    rw[hQ,firstE_two,tl_bs,tl_bs,gtB,Bool.not_or]
   rw[hQ2]
   have HQ:=hid hQ;clear hQ hQ2 hb d0
   have hBa:Below wr.heap.size wr w1:=HB2.out.trans ((below_ext (hwa.below.alloc (by have:=hwa.below.size;omega) _) hw1.below).mono (by omega))
   have HB1:=hid (below_ext HBW.out hBa)
   have hblk1:=HBK2.out.below (below_ext (hwa.below.alloc (by have:=hwa.below.size;omega) _) hw1.below) hlt2
   have d0:w1.cell? ⟨wr.heap.size,0,none⟩=some (.string (bs x)):=hblk1.cell rfl
   have d1:w1.cell? ⟨wr.heap.size,1,none⟩=some (.int .u8 (k1:Int)):=hblk1.cell rfl
   have d2:w1.cell? ⟨wr.heap.size,2,none⟩=some (.bool b1):=hblk1.cell rfl
   have d3:w1.cell? ⟨wr.heap.size,3,none⟩=some (.int .i64 n1):=hblk1.cell rfl
   have d4:w1.cell? ⟨wr.heap.size,4,none⟩=some (.string (bs s1)):=hblk1.cell rfl
   have d5:w1.cell? ⟨wr.heap.size,5,none⟩=some (.slice pl1 l1.length cl1):=hblk1.cell rfl
   have d6:w1.cell? ⟨wr.heap.size,6,none⟩=some (.slice pf1 f1.length cf1):=hblk1.cell rfl
   have HK1:=hid hblk1;clear hblk1
   have HV1:=hid (HV.out.ext hBa)
   have HT1:=hid (U8T_ext HT0.out HB1.out)
   clear hBa hw1 hwa
   by_cases hq:Q=0
   ·have hqr:R=orE (checkV (d+1) (.mk k1 b1 n1 s1 l1 f1)) (checkF (d+1) x (f.drop (j2+1))):=by
     rw[←HREL.out,orE_z,HDR.out,←HQ.out,hq,orE_z]
    have HQR:=hid hqr;clear hqr HQ
    subst hq
    go_wp2_with fail
    go_at_call 115
    refine(HI.out (.mk k1 b1 n1 s1 l1 f1) (d+1) _ S _ w1 (by have:=HS2.out;have:=HM.out;omega) rfl (by omega) HV1.out HT1.out).mono ?_
    rintro e' w2 ⟨rfl,hb⟩
    have HBB:=hid (below_ext HB1.out hb)
    have d0:w2.cell? ⟨wr.heap.size,0,none⟩=some (.string (bs x)):=(HK1.out.ext hb).cell rfl
    clear hb
    go_wp2
    go_roundw
    case rel=>
     exact⟨j2+1,_,x,by go_num,rfl,rfl,by omega,fun _=>HY0.out,HQR.out.symm,HBB.out⟩
    case measure=>simp[intOf];omega
   ·have hqr:R=Q:=by rw[←HREL.out,orE_z,HDR.out,←HQ.out,orE_n _ hq]
    have HQR:=hid hqr;clear hqr HQ
    go_wp2
    go_roundw
    case rel=>exact⟨j2+1,Q,x,by go_num,rfl,rfl,by omega,fun _=>HY0.out,by rw[HQR.out,orE_n _ hq],HB1.out⟩
    case measure=>simp[intOf];omega
  ·have hzR:z2=R:=by
    rcases Nat.lt_or_ge j2 lf with h1|h1
    ·rw[←HREL.out,orE_n _ (fun h0=>hlt ⟨h1,h0⟩)]
    ·rw[←HREL.out,List.drop_eq_nil_of_le (by rw[←HLF.out];exact h1),checkF,orE_r]
   subst hzR
   have hcond:((lf:Int)<=(j2:Int))\/((j2:Int)<(lf:Int)/\ ¬z2=0):=by omega
   clear hlt HREL
   rcases hcond with hcond|⟨hcond,hcond2⟩
   all_goals
    go_wp2
    go_ret
    exact⟨rfl,Below.trans HB0.out (HBW.out.mono (by omega))⟩
theorem check_all :∀(m:Nat) (v:DVal) (d:Nat) (dI:Int) (S:Nat->Prop) (cs:List Value) (w:World),SizeOf.sizeOf v<m->dI=(d:Int)->d<=6->HasVal S w v cs->U8T w→
 Calls Tryz.prog 115 #[.agg cs.toArray,.int .i64 dI] w fun e' w'=>e'=.returned (.int .i64 (checkV d v))/\Below w.heap.size w w':=by
 intro m
 induction m with
 |zero=>intro v d dI S cs w h;omega
 |succ m ih=>
  intro v d dI S cs w h hdI hd hv hT
  subst hdI
  obtain⟨k,b,n,s,l,f⟩:=v
  obtain⟨pl,cl,pf,cf,rfl,hb,hl,hf⟩:=hasVal_mk.1 hv
  exact check_step m ih k b n s l f h d hd S pl cl pf cf w hb.1 (by omega) (by omega) (by omega) hl hf hT
theorem check_any (v:DVal) (S:Nat->Prop) (cs:List Value) (w:World) (hv:HasVal S w v cs) (hT:U8T w):
 Calls Tryz.prog 87 #[.agg cs.toArray] w fun e' w'=>e'=.returned (.int .i64 (checkV 0 v))/\Below w.heap.size w w':=by
 have hsz:=Nat.lt_succ_self (SizeOf.sizeOf v)
 have HV:=hid hv
 obtain⟨k,b,n,s,l,f⟩:=v
 obtain⟨pl,cl,pf,cf,rfl,hb,hl,hf⟩:=hasVal_mk.1 hv
 clear hv hb hl hf
 have HT:=hid hT;clear hT
 have HS:=hid hsz;clear hsz
 obtain⟨R,hR⟩:∃R,R=checkV 0 (.mk k b n s l f):=⟨_,rfl⟩
 rw[←hR]
 have HR:=hid hR;clear hR
 show Calls Tryz.prog 87 #[.agg #[.int .u8 (k:Int),.bool b,.int .i64 n,.string (bs s),.slice pl l.length cl,.slice pf f.length cf]] w _
 go_enter Tryz.func87,Tryz.ntmps87
 go_wp2_with fail
 go_at_call 115
 have hb1:Below w.heap.size w (w.alloc (.cells #[.int .u8 (k:Int),.bool b,.int .i64 n,.string (bs s),.slice pl l.length cl,.slice pf f.length cf] 52)):=(Below.refl _ _).alloc (Nat.le_refl _) _
 refine(check_all _ (.mk k b n s l f) 0 _ S _ _ HS.out rfl (by omega) (HV.out.ext hb1) (U8T_ext HT.out hb1)).mono ?_
 rintro e' w1 ⟨he,hb⟩
 rw[←HR.out]at he
 subst he
 have HB:=hid (below_ext hb1 hb);clear hb hb1
 go_wp2
 go_ret
 exact⟨rfl,HB.out⟩
theorem dec_fffd (n b0 b1 b2 b3:Nat) (h0:b0<256) (h1:b1<256) (h2:b2<256) (h3:b3<256) (h:(Lib.decodeN n b0 b1 b2 b3).1=65533):
 (Lib.decodeN n b0 b1 b2 b3).2=1↔ ¬(2<n/\b0=239/\b1=191/\b2=189):=by
 unfold Lib.decodeN at h⊢
 by_cases c0:b0<128
 ·rw[if_pos c0]at h⊢
  simp only[]at h⊢
  omega
 rw[if_neg c0]at h⊢
 by_cases c1:b0/32=6/\(1<n/\b1/64=2)
 ·rw[if_pos c1]at h⊢
  split at h<;>rename_i hc
  ·simp only[]at h
   omega
  ·rw[if_neg hc]
   simp only[true_iff]
   omega
 rw[if_neg c1]at h⊢
 by_cases c2:b0/16=14/\(1<n/\b1/64=2)/\(2<n/\b2/64=2)
 ·rw[if_pos c2]at h⊢
  split at h<;>rename_i hc
  ·rw[if_pos hc]
   simp only[]at h⊢
   omega
  ·rw[if_neg hc]
   simp only[true_iff]
   omega
 rw[if_neg c2]at h⊢
 by_cases c3:b0/8=30/\(1<n/\b1/64=2)/\(2<n/\b2/64=2)/\(3<n/\b3/64=2)
 ·rw[if_pos c3]at h⊢
  split at h<;>rename_i hc
  ·simp only[]at h
   omega
  ·rw[if_neg hc]
   simp only[true_iff]
   omega
 rw[if_neg c3]at h⊢
 simp only[true_iff]
 omega
theorem take3 (l:List UInt8):(2<l.length/\(l.getD 0 0).toNat=239/\(l.getD 1 0).toNat=191/\(l.getD 2 0).toNat=189)↔l.take 3=[239,191,189]:=by
 have key:∀(a:UInt8) (n:Nat),n<256->(a.toNat=n↔a=UInt8.ofNat n):=fun a n hn=>by
  constructor
  ·intro h;rw[←h];exact(UInt8.ofNat_toNat).symm
  ·intro h;rw[h,UInt8.toNat_ofNat'];omega
 match l with
 |[]=>simp
 |[a]=>simp
 |[a,b]=>simp
 |a::b::c::l=>
  have k1:=key a 239 (by decide)
  have k2:=key b 191 (by decide)
  have k3:=key c 189 (by decide)
  simp only[List.length_cons,List.getD_cons_zero,List.getD_cons_succ,List.take_succ_cons,List.take_zero,List.cons.injEq,and_true]
  rw[k1,k2,k3]
  constructor
  ·rintro⟨_,h⟩;exact h
  ·intro h;exact⟨by omega,h⟩
theorem utf_step (l:List UInt8) (h:(Lib.decodeL l).1=65533):(Lib.decodeL l).2=1↔l.take 3≠[239,191,189]:=by
 rw[Lib.decodeL_N]at h⊢
 rw[dec_fffd _ _ _ _ _ (UInt8.toNat_lt _) (UInt8.toNat_lt _) (UInt8.toNat_lt _) (UInt8.toNat_lt _) h,take3]
theorem dec_drop (s:List UInt8) (pos:Nat):Utf8.decode (bs s) pos=Lib.decodeL (s.drop pos):=(Lib.decodeL_drop (bs s) pos).symm
theorem dec_width (s:List UInt8) (pos:Nat) (h:pos<s.length):1<=(Utf8.decode (bs s) pos).2:=by
 have h':pos<(bs s).size:=by rw[bs_size];exact h
 by_cases ha:((bs s)[pos]'h').toNat<128
 ·rw[decode_ascii (bs s) pos h' ha]
  exact Nat.le_refl _
 ·exact(decode_high (bs s) pos h' (by omega)).2
set_option maxHeartbeats 1000000 in
theorem ref_utf_any (s:List UInt8) (w:World) (hs:s.length<=1099511627776):
 Calls Tryz.prog 103 #[.string (bs s)] w fun e' w'=>e'=.returned (.bool (Lib.validD s))/\Below w.heap.size w w':=by
 have hsz:=bs_size s
 obtain⟨V,hV⟩:∃V,V=Lib.validD s:=⟨_,rfl⟩
 rw[←hV]
 have HV:=hid hV
 clear hV
 go_enter Tryz.func103,Tryz.ntmps103
 go_wp2
 go_loopw [3] (fun _ w'=>∃pos:Nat,w'=w.iter (bs s) pos/\Lib.validD (s.drop pos)=V) (fun _ w'=>s.length-w'.iterPos w.heap.size)
 case atStart=>exact⟨0,rfl,HV.out.symm⟩
 case round=>
 obtain⟨pos,rfl,hv⟩:=hrel
 have HVD:=hid hv
 clear hv
 by_cases hlt:pos<s.length
 ·have h':pos<(bs s).size:=by rw[bs_size];exact hlt
  have hw:=dec_width s pos hlt
  have hdl:=dec_drop s pos
  have hle:=decode_le (bs s) pos
  have hnx:∀ty,(Instr.next (.pointer (some ⟨w.heap.size,0,none⟩)) true ty).run Tryz.prog (w.iter (bs s) pos)=_:=fun ty=>run_next_any w (bs s) pos ty h'
  have hne:s.drop pos≠[]:=fun e=>by have:=congrArg List.length e;simp at this;omega
  have hst:=Lib.validD_step (s.drop pos) hne
  have hus:=utf_step (s.drop pos)
  obtain⟨r,sz,hd⟩:∃r sz,Utf8.decode (bs s) pos=(r,sz):=⟨_,_,rfl⟩
  rw[←hdl,hd]at hst hus
  rw[hd]at hw hle hnx
  simp only[]at hst hus hw hle hnx
  rw[List.drop_drop]at hst
  clear hdl hd hne h'
  by_cases hr:r=65533
  ·by_cases h3:(s.drop pos).take 3=[239,191,189]
   ·have hs1: ¬sz=1:=fun e=>(hus hr).1 e h3
    rw[if_neg (fun h=>hs1 h.2)]at hst
    have hl3:pos+3<=s.length:=by
     have:=congrArg List.length h3
     simp at this
     omega
    have hE:((bs s).extract pos (pos+3)).toList=[239,191,189]:=by
     rw[tl_extract,bs_toList,List.drop_take,show pos+3-pos=3 by omega,h3]
    have hlI:(pos:Int)+3<=(s.length:Int):=by omega
    have HST:=hid hst
    clear hst hus h3 hs1
    subst hr
    go_wp2
    go_roundw
    case rel=>exact⟨pos+sz,rfl,by rw[←HST.out];exact HVD.out⟩
    case measure=>
     simp
     omega
   ·have hs1:sz=1:=(hus hr).2 h3
    rw[if_pos ⟨hr,hs1⟩]at hst
    have hVf:V=false:=by rw[←HVD.out,hst]
    subst hVf
    by_cases hl3:pos+3<=s.length
    ·have hE: ¬((bs s).extract pos (pos+3)).toList=[239,191,189]:=by
      rw[tl_extract,bs_toList,List.drop_take,show pos+3-pos=3 by omega]
      exact h3
     have hlI:(pos:Int)+3<=(s.length:Int):=by omega
     have hEb:(((bs s).extract pos (pos+3)).toList==[239,191,189])=false:=by simpa using hE
     clear hst hus h3 hs1
     subst hr
     go_wp2
     all_goals first|(exfalso;simp_all;done)|skip
     go_ret
     exact⟨rfl,(Below.refl _ _).alloc (Nat.le_refl _) _⟩
    ·have hlI:(s.length:Int)<(pos:Int)+3:=by omega
     clear hst hus h3 hs1
     subst hr
     go_wp2
     go_ret
     exact⟨rfl,(Below.refl _ _).alloc (Nat.le_refl _) _⟩
  ·rw[if_neg (fun h=>hr h.1)]at hst
   have hrb:((r:Int)==65533)=false:=by simp;omega
   have HST:=hid hst
   clear hst hus hr
   go_wp2
   go_roundw
   case rel=>exact⟨pos+sz,rfl,by rw[←HST.out];exact HVD.out⟩
   case measure=>
    simp
    omega
 ·have hnx:∀ty,(Instr.next (.pointer (some ⟨w.heap.size,0,none⟩)) true ty).run Tryz.prog (w.iter (bs s) pos)=_:=fun ty=>run_next_end w (bs s) pos ty (by rw[bs_size];exact hlt)
  have hVt:V=true:=by rw[←HVD.out,List.drop_eq_nil_of_le (by omega)];rfl
  subst hVt
  go_wp2
  go_ret
  exact⟨rfl,(Below.refl _ _).alloc (Nat.le_refl _) _⟩
theorem ref_name_any (s:List UInt8) (w:World) (hs:s.length<=1099511627776):
 Calls Tryz.prog 107 #[.string (bs s)] w fun e' w'=>e'=.returned (.int .i64 (nameE s))/\Below w.heap.size w w':=by
 have hsz:=bs_size s
 obtain⟨r,hr⟩:∃r,r=nameE s:=⟨_,rfl⟩
 rw[←hr]
 have HR:=hid hr;clear hr
 by_cases h0:s=[]
 ·have HR2:Hid (r=4):=hid (by rw[HR.out,nameE,if_pos (Or.inl h0)])
  have he:((bs s).toList==([]:List UInt8))=true:=by rw[tl_bs,h0];rfl
  clear h0
  go_enter Tryz.func107,Tryz.ntmps107
  go_wp2
  go_ret
  exact⟨by rw[HR2.out];rfl,Below.refl _ _⟩
 ·have he:((bs s).toList==([]:List UInt8))=false:=by rw[tl_bs];simpa using h0
  by_cases hl:1024<s.length
  ·have HR2:Hid (r=4):=hid (by rw[HR.out,nameE,if_pos (Or.inr hl)])
   have hlI:(1024:Int)<(s.length:Int):=by omega
   clear h0
   go_enter Tryz.func107,Tryz.ntmps107
   go_wp2
   go_ret
   exact⟨by rw[HR2.out];rfl,Below.refl _ _⟩
  ·have hlI:(s.length:Int)<=1024:=by omega
   obtain⟨v,hv⟩:∃v,v=Lib.validD s:=⟨_,rfl⟩
   have HR2:Hid (r=if v then 0 else 9):=hid (by rw[HR.out,nameE,if_neg (by simp[h0,hl]),hv])
   have HV:=hid hv
   clear h0 hv
   go_enter Tryz.func107,Tryz.ntmps107
   go_wp2_with fail
   go_at_call 103
   refine(ref_utf_any s _ hs).mono ?_
   rintro e' w1 ⟨he',hb⟩
   rw[←HV.out]at he'
   subst he'
   have HB:=hid hb;clear hb
   cases v
   all_goals
    go_wp2
    go_ret
    exact⟨by rw[HR2.out];rfl,HB.out⟩
theorem wi {P Q:Prop} (h:P) (hq:P->Q):Q:=hq h
def zeroB (k:Int) (b:Bool) (n:Int) (s:List UInt8) (ll lf:Nat):Bool:=decide (k<7)&&bareB k b n s ll lf
set_option maxHeartbeats 4000000 in
theorem ref_zero_any (k:Int) (b:Bool) (n:Int) (s:List UInt8) (pl:Option Addr) (ll cl:Nat) (pf:Option Addr) (lf cf:Nat) (w:World) (hk0:0<=k):
 Calls Tryz.prog 138 #[.agg #[.int .u8 k,.bool b,.int .i64 n,.string (bs s),.slice pl ll cl,.slice pf lf cf]] w fun e' w'=>e'=.returned (.bool (zeroB k b n s ll lf))/\Below w.heap.size w w':=by
 obtain⟨R,hR⟩:∃R,R=zeroB k b n s ll lf:=⟨_,rfl⟩
 rw[←hR]
 have HR:=hid hR;clear hR
 have hk:k=0\/k=1\/k=2\/k=3\/k=4\/k=5\/k=6\/7<=k:=by omega
 rcases hk with rfl|rfl|rfl|rfl|rfl|rfl|rfl|hk7
 case' inr.inr.inr.inr.inr.inr.inr=>
  have d1:(k==1)=false:=by simp;omega
  have d2:(k==2)=false:=by simp;omega
  have d3:(k==3)=false:=by simp;omega
  have d4:(k==4)=false:=by simp;omega
  have d5:(k==5)=false:=by simp;omega
  have d6:(k==6)=false:=by simp;omega
  have n1:(k !=1)=true:=by simp;omega
  have n2:(k !=2)=true:=by simp;omega
  have n3:(k !=3)=true:=by simp;omega
  have n4:(k !=4)=true:=by simp;omega
  have d7: ¬k<7:=by omega
  have HR2:Hid (R=false):=hid (by rw[HR.out,zeroB,decide_eq_false d7];rfl)
 all_goals cases b
 all_goals first
 |(refine wi (P:=Hid (R=false)) ?_ (fun HR2=>?_)
   ·refine hid ?_
    rw[HR.out]
    simp[zeroB,bareB,flatB,sel]
    done
   ·go_enter Tryz.func138,Tryz.ntmps138
    go_wp2
    go_ret
    exact⟨by rw[HR2.out];rfl,(Below.refl _ _).alloc (Nat.le_refl _) _⟩)
 |skip
 all_goals by_cases hn:n=0
 all_goals try subst hn
 all_goals first
 |(refine wi (P:=Hid (R=false)) ?_ (fun HR2=>?_)
   ·refine hid ?_
    rw[HR.out]
    simp[zeroB,bareB,flatB,sel, *]
    done
   ·go_enter Tryz.func138,Tryz.ntmps138
    go_wp2
    go_ret
    exact⟨by rw[HR2.out];rfl,(Below.refl _ _).alloc (Nat.le_refl _) _⟩)
 |skip
 all_goals
  refine(wi (P:=(bs s).toList.isEmpty=false/\s≠[]\/(bs s).toList.isEmpty=true/\s=[]) (by rw[tl_bs];cases s<;>simp) ?_)
  rintro(⟨hne,hs⟩|⟨hne,hs⟩)
 all_goals first
 |(refine wi (P:=Hid (R=false)) ?_ (fun HR2=>?_)
   ·refine hid ?_
    rw[HR.out]
    simp[zeroB,bareB,flatB,sel,hs, *]
    done
   ·clear hs
    go_enter Tryz.func138,Tryz.ntmps138
    go_wp2
    go_ret
    exact⟨by rw[HR2.out];rfl,(Below.refl _ _).alloc (Nat.le_refl _) _⟩)
 |skip
 all_goals
  by_cases hll:ll=0
 all_goals first
 |subst hll
 |(refine wi (P:=((ll:Int)==0)=false) (by simp;omega) (fun hllI=>?_))
 all_goals first
 |(refine wi (P:=Hid (R=false)) ?_ (fun HR2=>?_)
   ·refine hid ?_
    rw[HR.out]
    simp[zeroB,bareB,flatB,sel,hs, *]
    done
   ·clear hs
    go_enter Tryz.func138,Tryz.ntmps138
    go_wp2
    go_ret
    exact⟨by rw[HR2.out];rfl,(Below.refl _ _).alloc (Nat.le_refl _) _⟩)
 |skip
 all_goals
  by_cases hlf:lf=0
 all_goals first
 |subst hlf
 |(refine wi (P:=((lf:Int)==0)=false) (by simp;omega) (fun hlfI=>?_))
 all_goals first
 |(refine wi (P:=Hid (R=false)) ?_ (fun HR2=>?_)
   ·refine hid ?_
    rw[HR.out]
    simp[zeroB,bareB,flatB,sel,hs, *]
    done
   ·clear hs
    go_enter Tryz.func138,Tryz.ntmps138
    go_wp2
    go_ret
    exact⟨by rw[HR2.out];rfl,(Below.refl _ _).alloc (Nat.le_refl _) _⟩)
 |skip
 all_goals first
 |(refine wi (P:=Hid (R=true)) ?_ (fun HR2=>?_)
   ·refine hid ?_
    rw[HR.out]
    simp[zeroB,bareB,flatB,sel,hs, *]
    done
   ·clear hs
    go_enter Tryz.func138,Tryz.ntmps138
    go_wp2
    go_ret
    exact⟨by rw[HR2.out];rfl,(Below.refl _ _).alloc (Nat.le_refl _) _⟩)
 |skip
theorem why0_eq (d:Nat) (k:Int) (b:Bool) (n:Int) (s:List UInt8) (ll lf:Nat):why0 d k b n s ll lf=
 if zeroB k b n s ll lf=false then 5 else if 1024<s.length then 4 else if k=3/\Lib.validD s=false then 9 else if 64<ll\/64<lf then 3 else if(k=5\/k=6)/\6<=d then 10 else 0:=by
 unfold why0
 rw[←zeroB]
 cases zeroB k b n s ll lf
 ·rfl
 ·rw[if_neg (by decide)]
  rw[show unlessE true 5=0 from rfl,firstE,if_pos rfl]
  by_cases h1:1024<s.length
  ·rw[decide_eq_false (by omega),if_pos h1];rfl
  ·rw[decide_eq_true (by omega),if_neg h1,show unlessE true 4=0 from rfl,firstE,if_pos rfl]
   by_cases h2:k=3/\Lib.validD s=false
   ·rw[if_pos h2,h2.1,h2.2];rfl
   ·have:(!(k==3)||Lib.validD s)=true:=by
     rw[Bool.or_eq_true]
     by_cases h3:k=3
     ·right
      cases hv:Lib.validD s
      ·exact absurd ⟨h3,hv⟩ h2
      ·rfl
     ·left;simpa using h3
    rw[if_neg h2,this,show unlessE true 9=0 from rfl,firstE,if_pos rfl]
    by_cases h3:64<ll\/64<lf
    ·rw[decide_eq_false (by omega),if_pos h3];rfl
    ·rw[decide_eq_true (by omega),if_neg h3,show unlessE true 3=0 from rfl,firstE,if_pos rfl]
     by_cases h4:(k=5\/k=6)/\6<=d
     ·rw[if_pos h4]
      have e1:(k==5||k==6)=true:=by rcases h4.1 with rfl|rfl<;>rfl
      rw[e1,decide_eq_false (by omega)];rfl
     ·rw[if_neg h4]
      have e1:(!(k==5||k==6)||decide ((d:Int)<6))=true:=by
       rw[Bool.or_eq_true]
       by_cases h5:k=5\/k=6
       ·right;exact decide_eq_true (by omega)
       ·left;simp;omega
      rw[e1];rfl
theorem bytesLess_tri :∀(x y:List UInt8),Op.bytesLess x y=gtB y x
 |[],[]=>by simp[Op.bytesLess,gtB]
 |_::_,[]=>by simp[Op.bytesLess,gtB]
 |[],_::_=>by simp[Op.bytesLess,gtB]
 |a::x,b::y=>by
  have ih:=bytesLess_tri x y
  simp only[Op.bytesLess,gtB]at ih⊢
  rw[ih]
  by_cases h:a=b
  ·subst h;simp
  ·by_cases h2:a<b
   ·have h3: ¬b<a:=by simpa using UInt8.le_of_lt h2
    simp[h,h2,h3,Ne.symm h]
   ·have h3:b<a:=by
     rcases UInt8.lt_or_lt_of_ne h with h4|h4
     ·exact absurd h4 h2
     ·exact h4
    simp[h,h2,h3,Ne.symm h]
theorem gtB_nil {x:List UInt8} (h:x≠[]):gtB x []=true:=by
 cases x with
 |nil=>exact absurd rfl h
 |cons a x=>simp[gtB,Op.bytesLess]
theorem nameE_ne {x:List UInt8} (h:nameE x=0):x≠[]:=by
 intro e
 subst e
 simp[nameE]at h
def prevN (f:List (List UInt8×DVal)) (j:Nat):List UInt8:=if j=0 then []else((f[j-1]?).map (·.1)).getD []
set_option maxHeartbeats 4000000 in
theorem ref_check_step (m:Nat) (ih:∀(v:DVal) (d:Nat) (dI:Int) (S:Nat->Prop) (cs:List Value) (w:World),SizeOf.sizeOf v<m->dI=(d:Int)->d<=6->HasVal S w v cs->Calls Tryz.prog 112 #[.agg cs.toArray,.int .i64 dI] w fun e' w'=>e'=.returned (.int .i64 (checkV d v))/\Below w.heap.size w w')
 (k:Nat) (b:Bool) (n:Int) (s:List UInt8) (l:List DVal) (f:List (List UInt8×DVal)) (hm:SizeOf.sizeOf (DVal.mk k b n s l f)<m+1) (d:Nat) (hd:d<=6) (S:Nat->Prop) (pl:Option Addr) (cl:Nat) (pf:Option Addr) (cf:Nat) (w:World)
 (hk:k<256) (hs:s.length<=1099511627776) (hll:l.length<=140737488351232) (hlf:f.length<=140737488351232) (hl:HasL S w pl l) (hf:HasF S w pf f):
 Calls Tryz.prog 112 #[.agg #[.int .u8 (k:Int),.bool b,.int .i64 n,.string (bs s),.slice pl l.length cl,.slice pf f.length cf],.int .i64 d] w fun e' w'=>e'=.returned (.int .i64 (checkV d (.mk k b n s l f)))/\Below w.heap.size w w':=by
 obtain⟨y,hy⟩:∃y,y=why0 d k b n s l.length f.length:=⟨_,rfl⟩
 obtain⟨R,hR⟩:∃R,R=checkV d (.mk k b n s l f):=⟨_,rfl⟩
 rw[←hR]
 rw[checkV,←hy]at hR
 obtain⟨ll,hlle⟩:∃ll,ll=l.length:=⟨_,rfl⟩
 obtain⟨lf,hlfe⟩:∃lf,lf=f.length:=⟨_,rfl⟩
 rw[←hlle,←hlfe]at hy
 rw[←hlle]at hll⊢
 rw[←hlfe]at hlf⊢
 have HLL:=hid hlle;clear hlle
 have HLF:=hid hlfe;clear hlfe
 have HR:=hid hR;clear hR
 have HY:=hid hy;clear hy
 have HL:=hid hl;clear hl
 have HF:=hid hf;clear hf
 have HM:=hid hm;clear hm
 have HI:=hid ih;clear ih
 have hsz:=bs_size s
 go_enter Tryz.func112,Tryz.ntmps112
 go_upto_block 0 with(fail)
 generalize hW0:World.alloc w _=W0
 have hblk:IsBlk W0 w.heap.size #[.int .u8 (k:Int),.bool b,.int .i64 n,.string (bs s),.slice pl ll cl,.slice pf lf cf] 52:=by rw[←hW0];exact IsBlk.new _ _ _
 have hb0:Below w.heap.size w W0:=by rw[←hW0];exact(Below.refl _ _).alloc (Nat.le_refl _) _
 have hlt0:w.heap.size<W0.heap.size:=hblk.lt
 clear hW0
 have HB0:=hid hb0;clear hb0
 have HBK:=hid hblk;clear hblk
 generalize Value.agg _=A0
 go_cut [] (fun wx=>y=0/\Below W0.heap.size W0 wx)
 case first=>
  have hblk:=HBK.out
  have c0:W0.cell? ⟨w.heap.size,0,none⟩=some (.int .u8 (k:Int)):=hblk.cell rfl
  have c1:W0.cell? ⟨w.heap.size,1,none⟩=some (.bool b):=hblk.cell rfl
  have c2:W0.cell? ⟨w.heap.size,2,none⟩=some (.int .i64 n):=hblk.cell rfl
  have c3:W0.cell? ⟨w.heap.size,3,none⟩=some (.string (bs s)):=hblk.cell rfl
  have c4:W0.cell? ⟨w.heap.size,4,none⟩=some (.slice pl ll cl):=hblk.cell rfl
  have c5:W0.cell? ⟨w.heap.size,5,none⟩=some (.slice pf lf cf):=hblk.cell rfl
  clear hblk
  obtain⟨Z,hZ⟩:∃Z,Z=zeroB k b n s ll lf:=⟨_,rfl⟩
  have HZ:=hid hZ;clear hZ
  go_wp2_with fail
  go_at_call 138
  refine(ref_zero_any _ _ _ _ _ _ _ _ _ _ _ (by omega)).mono ?_
  rintro e' w1 ⟨he',hb⟩
  rw[←HZ.out]at he'
  subst he'
  have hblk:=HBK.out.ext hb
  have HB1:=hid hb;clear hb c0 c1 c2 c3 c4 c5
  have c0:w1.cell? ⟨w.heap.size,0,none⟩=some (.int .u8 (k:Int)):=hblk.cell rfl
  have c3:w1.cell? ⟨w.heap.size,3,none⟩=some (.string (bs s)):=hblk.cell rfl
  have c4:w1.cell? ⟨w.heap.size,4,none⟩=some (.slice pl ll cl):=hblk.cell rfl
  have c5:w1.cell? ⟨w.heap.size,5,none⟩=some (.slice pf lf cf):=hblk.cell rfl
  have HBK1:=hid hblk;clear hblk
  have hyy:=HY.out.trans (why0_eq d k b n s ll lf)
  rw[←HZ.out]at hyy
  have HYY:=hid hyy;clear hyy
  cases Z
  ·have HE:Hid (y=5):=hid (by rw[HYY.out,if_pos rfl])
   go_wp2_with fail
   go_ret
   exact⟨by rw[HR.out,HE.out];rfl,Below.trans HB0.out (HB1.out.mono (by omega))⟩
  ·by_cases h1:1024<s.length
   ·have HE:Hid (y=4):=hid (by rw[HYY.out,if_neg (by decide),if_pos h1])
    have h1I:(1024:Int)<(s.length:Int):=by omega
    go_wp2_with fail
    go_ret
    exact⟨by rw[HR.out,HE.out];rfl,Below.trans HB0.out (HB1.out.mono (by omega))⟩
   ·have h1I:(s.length:Int)<=1024:=by omega
    have HYZ:Hid (y=if(k:Int)=3/\Lib.validD s=false then 9 else if 64<ll\/64<lf then 3 else if((k:Int)=5\/(k:Int)=6)/\6<=d then 10 else 0):=hid (by rw[HYY.out,if_neg (by decide),if_neg h1])
    clear h1
    by_cases h3:k=3
    ·obtain⟨V,hV⟩:∃V,V=Lib.validD s:=⟨_,rfl⟩
     have HV:=hid hV;clear hV
     have d3:((k:Int)==3)=true:=by simp;omega
     have d5:((k:Int)==5)=false:=by simp;omega
     have d6:((k:Int)==6)=false:=by simp;omega
     go_wp2_with fail
     go_at_call 103
     refine(ref_utf_any s _ hs).mono ?_
     rintro e' w2 ⟨he',hb⟩
     rw[←HV.out]at he'
     subst he'
     have hblk:=HBK1.out.ext hb
     have HB2:=hid (below_ext HB1.out hb);clear hb c0 c3 c4 c5
     have c0:w2.cell? ⟨w.heap.size,0,none⟩=some (.int .u8 (k:Int)):=hblk.cell rfl
     have c4:w2.cell? ⟨w.heap.size,4,none⟩=some (.slice pl ll cl):=hblk.cell rfl
     have c5:w2.cell? ⟨w.heap.size,5,none⟩=some (.slice pf lf cf):=hblk.cell rfl
     clear hblk
     cases V
     ·have HE:Hid (y=9):=hid (by rw[HYZ.out,if_pos ⟨by omega,HV.out.symm⟩])
      clear h3
      go_wp2_with fail
      go_ret
      exact⟨by rw[HR.out,HE.out];rfl,Below.trans HB0.out (HB2.out.mono (by omega))⟩
     ·by_cases hq:64<ll\/64<lf
      ·have HE:Hid (y=3):=hid (by rw[HYZ.out,if_neg (fun h=>by rw[←HV.out]at h;exact absurd h.2 (by decide)),if_pos hq])
       clear h3
       have hq2:(64<(ll:Int))\/(decide (64<(ll:Int))=false/\64<(lf:Int)):=by
        by_cases h64:64<ll
        ·left;omega
        ·right;exact⟨by simp;omega,by omega⟩
       clear hq
       rcases hq2 with hq|⟨hq1,hq2⟩
       all_goals
        go_wp2_with fail
        go_ret
        exact⟨by rw[HR.out,HE.out];rfl,Below.trans HB0.out (HB2.out.mono (by omega))⟩
      ·have HE:Hid (y=0):=hid (by rw[HYZ.out,if_neg (fun h=>by rw[←HV.out]at h;exact absurd h.2 (by decide)),if_neg hq,if_neg (fun h=>by omega)])
       have hq1:decide (64<(ll:Int))=false:=by simp;omega
       have hq2:decide (64<(lf:Int))=false:=by simp;omega
       have hq3:(ll:Int)<=64:=by omega
       have hq4:(lf:Int)<=64:=by omega
       clear h3 hq
       go_wp2_with fail
       go_meet
       exact⟨HE.out,HB2.out⟩
    ·have d3:((k:Int)==3)=false:=by simp;omega
     by_cases hq:64<ll\/64<lf
     ·have HE:Hid (y=3):=hid (by rw[HYZ.out,if_neg (fun h=>by omega),if_pos hq])
      clear h3
      have hq2:(64<(ll:Int))\/(decide (64<(ll:Int))=false/\64<(lf:Int)):=by
       by_cases h64:64<ll
       ·left;omega
       ·right;exact⟨by simp;omega,by omega⟩
      clear hq
      rcases hq2 with hq|⟨hq1,hq2⟩
      all_goals
       go_wp2_with fail
       go_ret
       exact⟨by rw[HR.out,HE.out];rfl,Below.trans HB0.out (HB1.out.mono (by omega))⟩
     ·have hq1:decide (64<(ll:Int))=false:=by simp;omega
      have hq2:decide (64<(lf:Int))=false:=by simp;omega
      have hq3:(ll:Int)<=64:=by omega
      have hq4:(lf:Int)<=64:=by omega
      by_cases h5:k=5
      ·have d5:((k:Int)==5)=true:=by simp;omega
       by_cases hd6:6<=d
       ·have HE:Hid (y=10):=hid (by rw[HYZ.out,if_neg (fun h=>by omega),if_neg hq,if_pos ⟨Or.inl (by omega),hd6⟩])
        have hdI:(6:Int)<=(d:Int):=by omega
        clear h3 hq h5
        go_wp2_with fail
        go_ret
        exact⟨by rw[HR.out,HE.out];rfl,Below.trans HB0.out (HB1.out.mono (by omega))⟩
       ·have HE:Hid (y=0):=hid (by rw[HYZ.out,if_neg (fun h=>by omega),if_neg hq,if_neg (fun h=>hd6 h.2)])
        have hdI:(d:Int)<(6:Int):=by omega
        clear h3 hq h5
        go_wp2_with fail
        go_meet
        exact⟨HE.out,HB1.out⟩
      ·have d5:((k:Int)==5)=false:=by simp;omega
       by_cases h6:k=6
       ·have d6:((k:Int)==6)=true:=by simp;omega
        by_cases hd6:6<=d
        ·have HE:Hid (y=10):=hid (by rw[HYZ.out,if_neg (fun h=>by omega),if_neg hq,if_pos ⟨Or.inr (by omega),hd6⟩])
         have hdI:(6:Int)<=(d:Int):=by omega
         clear h3 hq h5 h6
         go_wp2_with fail
         go_ret
         exact⟨by rw[HR.out,HE.out];rfl,Below.trans HB0.out (HB1.out.mono (by omega))⟩
        ·have HE:Hid (y=0):=hid (by rw[HYZ.out,if_neg (fun h=>by omega),if_neg hq,if_neg (fun h=>hd6 h.2)])
         have hdI:(d:Int)<(6:Int):=by omega
         clear h3 hq h5 h6
         go_wp2_with fail
         go_meet
         exact⟨HE.out,HB1.out⟩
       ·have d6:((k:Int)==6)=false:=by simp;omega
        have HE:Hid (y=0):=hid (by rw[HYZ.out,if_neg (fun h=>by omega),if_neg hq,if_neg (fun h=>by omega)])
        clear h3 hq h5 h6
        go_wp2_with fail
        go_meet
        exact⟨HE.out,HB1.out⟩
 case rest=>
  obtain⟨hy0,hbw⟩:=hcut
  have HBW:=hid hbw;clear hbw
  have hR2:R=orE (checkL (d+1) l) (checkF (d+1) [] f):=by rw[HR.out,hy0];rfl
  have hdep:0<ll\/0<lf->d<6:=fun hp=>why0_depth (HY.out.symm.trans hy0) hp
  have HD:=hid hdep;clear hdep
  have HR2:=hid hR2;clear hR2 hy0 HR HY
  have c4:World.cell? _ ⟨w.heap.size,4,none⟩=some (.slice pl ll cl):=(HBK.out.below HBW.out hlt0).cell rfl
  go_wp2
  clear c4
  go_loopw [57] (fun i wr=>∃j:Nat,i=.int .i64 j/\j<=ll/\orE (checkL (d+1) (l.drop j)) (checkF (d+1) [] f)=R/\Below W0.heap.size W0 wr) (fun i _=>ll-(intOf i).toNat)
  case atStart=>exact⟨0,rfl,by omega,HR2.out.symm,HBW.out⟩
  case round=>
  clear HBW HR2
  obtain⟨j,rfl,hj,hrel,hbw⟩:=hrel
  have HREL:=hid hrel;clear hrel
  have HBW:=hid hbw
  have hwr:=hbw.size
  clear hbw
  by_cases hlt:j<ll
  ·have hj1:j<l.length:=by rw[←HLL.out];exact hlt
   have hdI:(d:Int)+1<=6:=by have:=HD.out (Or.inl (by omega));omega
   obtain⟨g,o,cs,hpl,hcells,hval⟩:=(HL.out.ext (Below.trans HB0.out (HBW.out.mono (by omega)))) j hj1
   have hdrop:=checkL_drop (d:=d+1) hj1
   have hsz2:=DVal.size_l (k:=k) (b:=b) (n:=n) (s:=s) (f:=f) l[j] (List.getElem_mem _)
   generalize l[j]=v at hval hdrop hsz2
   have HS2:=hid hsz2;clear hsz2
   have HDR:=hid hdrop;clear hdrop
   obtain⟨k1,b1,n1,s1,l1,f1⟩:=v
   have HV:=hid hval
   obtain⟨pl1,cl1,pf1,cf1,rfl,hbd,_,_⟩:=hasVal_mk.1 hval
   clear hval
   obtain⟨e0,e1,e2,e3,e4,e5⟩:=hcells.six
   clear hcells hbd
   subst hpl
   obtain⟨q,hq⟩:∃q,q=checkV (d+1) (.mk k1 b1 n1 s1 l1 f1):=⟨_,rfl⟩
   have HQ:=hid hq;clear hq
   go_wp2_with fail
   go_at_call 112
   have hba:Below wr.heap.size wr (wr.alloc (.cells #[.int .u8 (k1:Int),.bool b1,.int .i64 n1,.string (bs s1),.slice pl1 l1.length cl1,.slice pf1 f1.length cf1] 52)):=(Below.refl _ _).alloc (Nat.le_refl _) _
   refine(HI.out (.mk k1 b1 n1 s1 l1 f1) (d+1) _ S _ _ (by have:=HS2.out;have:=HM.out;omega) rfl (by omega) (HV.out.ext hba)).mono ?_
   rintro e' w1 ⟨he',hb⟩
   rw[←HQ.out]at he'
   subst he'
   have HB1:=hid (below_ext HBW.out (below_ext hba hb));clear hb hba e0 e1 e2 e3 e4 e5
   by_cases hq0:q=0
   ·subst hq0
    go_wp2
    go_roundw
    case rel=>exact⟨j+1,by go_num,by omega,by rw[←HREL.out,HDR.out,←HQ.out];rfl,HB1.out⟩
    case measure=>simp[intOf];omega
   ·have hR2:R=q:=by rw[←HREL.out,HDR.out,←HQ.out,orE_n _ hq0,orE_n _ hq0]
    have HR2:=hid hR2;clear hR2
    have hqb:(q !=0)=true:=by simpa using hq0
    clear hq0
    go_wp2_with fail
    go_ret
    exact⟨by rw[HR2.out];rfl,Below.trans HB0.out (HB1.out.mono (by omega))⟩
  ·have hR2:R=checkF (d+1) [] f:=by
    rw[←HREL.out,List.drop_eq_nil_of_le (by rw[←HLL.out];omega),checkL,orE_z]
   have HR2:=hid hR2;clear hR2 HREL
   have c5:World.cell? _ ⟨w.heap.size,5,none⟩=some (.slice pf lf cf):=(HBK.out.below HBW.out hlt0).cell rfl
   go_wp2
   clear c5
   go_loopw [72] (fun i wr=>∃j:Nat,i=.int .i64 j/\j<=lf/\checkF (d+1) (prevN f j) (f.drop j)=R/\Below W0.heap.size W0 wr) (fun i _=>lf-(intOf i).toNat)
   case atStart=>exact⟨0,rfl,by omega,HR2.out.symm,HBW.out⟩
   case round=>
   clear HBW HR2 hlt hwr hj
   obtain⟨j2,rfl,hj2,hrel,hbw⟩:=hrel
   have HREL:=hid hrel;clear hrel
   have HBW:=hid hbw
   have hwr2:=hbw.size
   clear hbw
   by_cases hlt:j2<lf
   ·have hjf:j2<f.length:=by rw[←HLF.out];exact hlt
    have hdI:(d:Int)+1<=6:=by have:=HD.out (Or.inr (by omega));omega
    obtain⟨g,o,cs,hpf,⟨hxl,hcells⟩,hval⟩:=(HF.out.ext (Below.trans HB0.out (HBW.out.mono (by omega)))) j2 hjf
    have hdrop:=checkF_drop (d:=d+1) (last:=prevN f j2) hjf
    have hsz2:=DVal.size_f (k:=k) (b:=b) (n:=n) (s:=s) (l:=l) f[j2] (List.getElem_mem _)
    have hpn:prevN f (j2+1)=f[j2].1:=by rw[prevN,if_neg (by omega)];simp[hjf]
    generalize f[j2]=p at hval hdrop hsz2 hxl hcells hpn
    obtain⟨x,v⟩:=p
    simp only[]at hval hdrop hsz2 hxl hcells hpn
    have HPN:=hid hpn;clear hpn
    have HS2:=hid hsz2;clear hsz2
    have HDR:=hid hdrop;clear hdrop
    obtain⟨k1,b1,n1,s1,l1,f1⟩:=v
    have HV:=hid hval
    obtain⟨pl1,cl1,pf1,cf1,rfl,hbd,_,_⟩:=hasVal_mk.1 hval
    clear hval
    obtain⟨e0,e1,e2,e3,e4,e5,e6⟩:=hcells.seven
    have hgr:=hcells.2.1
    clear hcells hbd
    subst hpf
    obtain⟨N,hN⟩:∃N,N=nameE x:=⟨_,rfl⟩
    have HN:=hid hN;clear hN
    have hxl2:x.length<=1099511627776:=by omega
    go_wp2_with fail
    go_at_call 107
    refine(ref_name_any x _ hxl2).mono ?_
    rintro e' w1 ⟨he',hb⟩
    rw[←HN.out]at he'
    subst he'
    have hba:Below wr.heap.size wr (wr.alloc (.cells #[.string (bs x),.int .u8 (k1:Int),.bool b1,.int .i64 n1,.string (bs s1),.slice pl1 l1.length cl1,.slice pf1 f1.length cf1] 66)):=(Below.refl _ _).alloc (Nat.le_refl _) _
    have hblk2:IsBlk w1 wr.heap.size #[.string (bs x),.int .u8 (k1:Int),.bool b1,.int .i64 n1,.string (bs s1),.slice pl1 l1.length cl1,.slice pf1 f1.length cf1] 66:=(IsBlk.new _ _ _).ext hb
    have hb1:=below_ext hba hb
    clear hba hb e0 e1 e2 e3 e4 e5 e6
    have HB1:=hid hb1
    have HB1':=hid (below_ext HBW.out hb1)
    have hw1s:=hblk2.lt
    clear hb1
    by_cases hn0:N=0
    ·obtain⟨Q,hQ⟩:∃Q,Q=gtB x (prevN f j2):=⟨_,rfl⟩
     have HQ:=hid hQ;clear hQ
     subst hn0
     go_upto_region 22 with(fail)
     go_cut [97] (fun s97 wx=>s97=.bool (!Q)/\Below w1.heap.size w1 wx)
     case first=>
      have d0:w1.cell? ⟨wr.heap.size,0,none⟩=some (.string (bs x)):=hblk2.cell rfl
      have c5:w1.cell? ⟨w.heap.size,5,none⟩=some (.slice (some ⟨g,o,none⟩) lf cf):=(HBK.out.below HB1'.out hlt0).cell rfl
      by_cases hj0:j2=0
      ·obtain rfl:Q=true:=by rw[HQ.out,prevN,if_pos hj0];exact gtB_nil (nameE_ne HN.out.symm)
       have hg0:decide (0<j2)=false:=decide_eq_false (by omega)
       have hg1:(j2:Int)<=0:=by omega
       clear hj0
       refine mix_start [] (Cls w1) (by kernel_rfl) (Cls.of ((Below.refl _ _).drew)) ?_
       refine mix_flt (by kernel_rfl) [0,1,2,3,4,5,6,7,8,9,10,11,12,13,14,15,16,17] 0 _ _ (by kernel_rfl) ?_
       simp only[opsAt,zo1,zo2,zo3,zo4,zo5]
       unfold Cls
       repeat(go_big_quiet_step (fail))
       refine wpQuiet_nil ?_
       (try rw[←Cls_def])
       refine mix_end [] (by kernel_rfl) (fun w1 hw1=>?_)
       refine wpList_nil ?_
       refine Calm.normal ?_
       go_wp2_with fail
       go_meet
       exact⟨rfl,hw1.below⟩
      ·have hjm:j2-1<f.length:=by omega
       obtain⟨g3,o3,cs3,hp3,⟨_,hc3⟩,hv3⟩:=(HF.out.ext (Below.trans HB0.out (HB1'.out.mono (by omega)))) (j2-1) hjm
       simp only[Option.some.injEq,Addr.mk.injEq,and_true]at hp3
       obtain⟨rfl,rfl⟩:=hp3
       have e0:w1.cell? ⟨g,o+(j2-1)*7,none⟩=some (.string (bs (prevN f j2))):=by
        have h0:=hc3.2.2 0 (by simp)
        rw[prevN,if_neg hj0,List.getElem?_eq_getElem hjm]
        exact h0
       have hg1:g<w1.heap.size:=hc3.2.1
       have hg0:decide (0<j2)=true:=decide_eq_true (by omega)
       have hg2:(0:Int)<(j2:Int):=by omega
       have hlw:w.heap.size<w1.heap.size:=by omega
       clear hc3 hv3 hj0
       generalize prevN f j2=px at e0 HQ
       have hcmp:Op.bytesLess (bs px).toList (bs x).toList=Q:=by rw[tl_bs,tl_bs,bytesLess_tri];exact HQ.out.symm
       refine mix_start [] (Cls w1) (by kernel_rfl) (Cls.of ((Below.refl _ _).drew)) ?_
       refine mix_flt (by kernel_rfl) [0,1,2,3,4,5,6,7,8,9,10,11,12,13,14,15,16,17] 0 _ _ (by kernel_rfl) ?_
       simp only[opsAt,zo1,zo2,zo3,zo4,zo5]
       unfold Cls
       repeat(go_big_quiet_step (fail))
       refine wpQuiet_nil ?_
       (try rw[←Cls_def])
       refine mix_end [] (by kernel_rfl) (fun w1 hw1=>?_)
       refine wpList_nil ?_
       refine Calm.normal ?_
       go_wp2_with fail
       go_meet
       exact⟨rfl,hw1.below⟩
     case rest=>
      obtain⟨rfl,hbx⟩:=hcut
      have hblk3:=hblk2.ext hbx
      have HBX:=hid (below_ext HB1'.out hbx)
      have HV3:=hid (HV.out.ext (below_ext HB1.out hbx))
      have d1:World.cell? _ ⟨wr.heap.size,1,none⟩=some (.int .u8 (k1:Int)):=hblk3.cell rfl
      have d2:World.cell? _ ⟨wr.heap.size,2,none⟩=some (.bool b1):=hblk3.cell rfl
      have d3:World.cell? _ ⟨wr.heap.size,3,none⟩=some (.int .i64 n1):=hblk3.cell rfl
      have d4:World.cell? _ ⟨wr.heap.size,4,none⟩=some (.string (bs s1)):=hblk3.cell rfl
      have d5:World.cell? _ ⟨wr.heap.size,5,none⟩=some (.slice pl1 l1.length cl1):=hblk3.cell rfl
      have d6:World.cell? _ ⟨wr.heap.size,6,none⟩=some (.slice pf1 f1.length cf1):=hblk3.cell rfl
      clear hbx hblk3
      cases Q
      ·have hR2:R=18:=by rw[←HREL.out,HDR.out,←HN.out,←HQ.out];rfl
       have HR2:=hid hR2;clear hR2
       rw[show(!false)=true from rfl]
       go_wp2_with fail
       go_ret
       exact⟨by rw[HR2.out];rfl,Below.trans HB0.out (HBX.out.mono (by omega))⟩
      ·obtain⟨q,hq⟩:∃q,q=checkV (d+1) (.mk k1 b1 n1 s1 l1 f1):=⟨_,rfl⟩
       have HCV:=hid hq;clear hq
       rw[show(!true)=false from rfl]
       go_wp2_with fail
       go_at_call 112
       refine(HI.out (.mk k1 b1 n1 s1 l1 f1) (d+1) _ S _ _ (by have:=HS2.out;have:=HM.out;omega) rfl (by omega) HV3.out).mono ?_
       rintro e' w2 ⟨he',hb⟩
       rw[←HCV.out]at he'
       subst he'
       have HB2:=hid (below_ext HBX.out hb)
       clear hb d1 d2 d3 d4 d5 d6
       by_cases hq0:q=0
       ·have hrel2:checkF (d+1) (prevN f (j2+1)) (f.drop (j2+1))=R:=by
         rw[←HREL.out,HDR.out,←HN.out,←HQ.out,←HCV.out,hq0,HPN.out];rfl
        have HREL2:=hid hrel2;clear hrel2
        subst hq0
        go_wp2
        go_roundw
        case rel=>exact⟨j2+1,by go_num,by omega,HREL2.out,HB2.out⟩
        case measure=>simp[intOf];omega
       ·have hR2:R=q:=by rw[←HREL.out,HDR.out,←HN.out,←HQ.out,←HCV.out,show orE 0 (unlessE true 18)=0 from rfl,orE_z,orE_n _ hq0]
        have HR2:=hid hR2;clear hR2
        have hqb:(q !=0)=true:=by simpa using hq0
        clear hq0
        go_wp2_with fail
        go_ret
        exact⟨by rw[HR2.out];rfl,Below.trans HB0.out (HB2.out.mono (by omega))⟩
    ·have hR2:R=N:=by rw[←HREL.out,HDR.out,←HN.out,orE_n _ hn0,orE_n _ hn0]
     have HR2:=hid hR2;clear hR2
     have hqb:(N !=0)=true:=by simpa using hn0
     have hqe:(N==0)=false:=by simpa using hn0
     clear hn0 hblk2
     go_upto_region 22 with(fail)
     refine mix_start [] (Cls w1) (by kernel_rfl) (Cls.of ((Below.refl _ _).drew)) ?_
     refine mix_flt (by kernel_rfl) [0,1,2,3,4,5,6,7,8,9,10,11,12,13,14,15,16,17] 0 _ _ (by kernel_rfl) ?_
     simp only[opsAt,zo1,zo2,zo3,zo4,zo5]
     unfold Cls
     repeat(go_big_quiet_step (fail))
     refine wpQuiet_nil ?_
     (try rw[←Cls_def])
     refine mix_end [] (by kernel_rfl) (fun w1 hw1=>?_)
     refine wpList_nil ?_
     refine Calm.normal ?_
     have HB2:=hid (below_ext HB1'.out hw1.below);clear hw1
     go_wp2_with fail
     go_ret
     exact⟨by rw[HR2.out];rfl,Below.trans HB0.out (HB2.out.mono (by omega))⟩
   ·have hR0:R=0:=by rw[←HREL.out,List.drop_eq_nil_of_le (by rw[←HLF.out];omega),checkF]
    have HR0:=hid hR0;clear hR0
    go_wp2
    go_ret
    exact⟨by rw[HR0.out];rfl,Below.trans HB0.out (HBW.out.mono (by omega))⟩
theorem ref_check_all :∀(m:Nat) (v:DVal) (d:Nat) (dI:Int) (S:Nat->Prop) (cs:List Value) (w:World),SizeOf.sizeOf v<m->dI=(d:Int)->d<=6->HasVal S w v cs→
 Calls Tryz.prog 112 #[.agg cs.toArray,.int .i64 dI] w fun e' w'=>e'=.returned (.int .i64 (checkV d v))/\Below w.heap.size w w':=by
 intro m
 induction m with
 |zero=>intro v d dI S cs w h;omega
 |succ m ih=>
  intro v d dI S cs w h hdI hd hv
  subst hdI
  obtain⟨k,b,n,s,l,f⟩:=v
  obtain⟨pl,cl,pf,cf,rfl,hb,hl,hf⟩:=hasVal_mk.1 hv
  exact ref_check_step m ih k b n s l f h d hd S pl cl pf cf w hb.1 (by omega) (by omega) (by omega) hl hf
theorem ref_check_any (v:DVal) (S:Nat->Prop) (cs:List Value) (w:World) (hv:HasVal S w v cs):
 Calls Tryz.prog 82 #[.agg cs.toArray] w fun e' w'=>e'=.returned (.int .i64 (checkV 0 v))/\Below w.heap.size w w':=by
 have hsz:=Nat.lt_succ_self (SizeOf.sizeOf v)
 have HV:=hid hv
 obtain⟨k,b,n,s,l,f⟩:=v
 obtain⟨pl,cl,pf,cf,rfl,hb,hl,hf⟩:=hasVal_mk.1 hv
 clear hv hb hl hf
 have HS:=hid hsz;clear hsz
 obtain⟨R,hR⟩:∃R,R=checkV 0 (.mk k b n s l f):=⟨_,rfl⟩
 rw[←hR]
 have HR:=hid hR;clear hR
 show Calls Tryz.prog 82 #[.agg #[.int .u8 (k:Int),.bool b,.int .i64 n,.string (bs s),.slice pl l.length cl,.slice pf f.length cf]] w _
 go_enter Tryz.func82,Tryz.ntmps82
 go_wp2_with fail
 go_at_call 112
 have hb1:Below w.heap.size w (w.alloc (.cells #[.int .u8 (k:Int),.bool b,.int .i64 n,.string (bs s),.slice pl l.length cl,.slice pf f.length cf] 52)):=(Below.refl _ _).alloc (Nat.le_refl _) _
 refine(ref_check_all _ (.mk k b n s l f) 0 _ S _ _ HS.out rfl (by omega) (HV.out.ext hb1)).mono ?_
 rintro e' w1 ⟨he,hb⟩
 rw[←HR.out]at he
 subst he
 have HB:=hid (below_ext hb1 hb);clear hb hb1
 go_wp2
 go_ret
 exact⟨rfl,HB.out⟩
end Go.Proofs.YtcihbnpckicljaaGreatDoor
