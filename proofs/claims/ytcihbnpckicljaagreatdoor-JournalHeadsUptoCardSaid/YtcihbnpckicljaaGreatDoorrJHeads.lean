/- JournalHeads, walked. Conditions: a block and a row of texts lie in memory, the revisions' texts no longer than 2^39 bytes; the tables read as the text lays them. -/
import Derived.Test.YtcihbnpckicljaaGreatDoorrJIs
import Derived.Test.YtcihbnpckicljaaGreatDoorrJCopy
import Derived.Test.YtcihbnpckicljaaGreatDoorrJHeq
set_option linter.unusedVariables false
set_option linter.unusedSimpArgs false
namespace Go.Proofs.YtcihbnpckicljaaGreatDoor
open Go Go.RowKit Go.BigFrame
open Go.Lib(hid)
set_option maxRecDepth 100000
theorem blk_sts {S S':Nat->Prop} {w:World} {b:DBlk} {l:List (List UInt8)} {ps pr pl:Option Addr} {cp cr cl:Nat}
 (h:HasBlk S w b [.int .u64 (b.seq:Int),.string (bs b.prev),.string (bs b.root),.slice ps b.sts.length cp,.slice pr b.revs.length cr]) (hl:HasS S' w pl l) (hc:l.length<=cl/\cl<=maxLen) (hn:l.length<=1073741824) (hs:∀s∈l,s.length<=1073741824):
 HasBlk (fun _=>True) w ⟨b.seq,b.prev,b.root,l,b.revs⟩ [.int .u64 (b.seq:Int),.string (bs b.prev),.string (bs b.root),.slice pl l.length cl,.slice pr b.revs.length cr]:=by
 obtain⟨_,_,pr',cr',e,hbd,h1,h2⟩:=h
 simp only[List.cons.injEq,Value.slice.injEq,true_and,and_true]at e
 obtain⟨_,rfl,rfl⟩:=e
 exact⟨_,_,_,_,rfl,⟨hbd.1,hbd.2.1,hbd.2.2.1,hn,hbd.2.2.2.2.1,hc.1,hc.2,hbd.2.2.2.2.2.2.2.1,hbd.2.2.2.2.2.2.2.2.1,hs⟩,hl.ext_to (fun _ _=>trivial) (fun _ _ _=>rfl),h2.kept relR (fun _ _=>trivial) (fun _ _ _=>rfl)⟩
theorem stsT_len (l:List (List UInt8)):(stsT l).length=32:=by unfold stsT;exact shaL_length _
set_option maxHeartbeats 8000000 in
theorem heads_any (b:DBlk) (S Sl:Nat->Prop) (ps pr pl:Option Addr) (cp cr cl:Nat) (l:List (List UInt8)) (w:World)
 (hb:HasBlk S w b [.int .u64 (b.seq:Int),.string (bs b.prev),.string (bs b.root),.slice ps b.sts.length cp,.slice pr b.revs.length cr]) (hno:ps=none->cp=0) (hk:∀r∈b.revs,okR r)
 (hl:HasS Sl w pl l) (hc:l.length<=cl/\cl<=maxLen) (hn:l.length<=1073741824) (hs:∀s∈l,s.length<=1073741824) (hT:U8T w) (hK:Ks w):
 Calls Tryz.prog 6 #[.agg #[.int .u64 (b.seq:Int),.string (bs b.prev),.string (bs b.root),.slice ps b.sts.length cp,.slice pr b.revs.length cr],.slice pl l.length cl] w fun e' w'=>e'=.returned (.bool true)/\Below w.heap.size w w':=by
 have HT:=hid hT
 have HK:=hid hK
 have HLV:Hid (∀W,Below w.heap.size w W->Calls Tryz.prog 14 #[] W fun e' w'=>e'=.returned (.bool true)/\Below W.heap.size W w'):=hid (fun W hb=>lives_any W (U8T_ext hT hb) (hK.ext hb))
 have HSR:Hid (∀W,Below w.heap.size w W->Calls Tryz.prog 23 #[.agg #[.int .u64 (b.seq:Int),.string (bs b.prev),.string (bs b.root),.slice ps b.sts.length cp,.slice pr b.revs.length cr]] W (HeadOut W (shortP b))):=hid (fun W h=>short_p b S _ W (hb.ext h) hk (U8T_ext hT h) (hK.ext h))
 have HCP:Hid (∀W,Below w.heap.size w W->Calls Tryz.prog 27 #[.agg #[.int .u64 (b.seq:Int),.string (bs b.prev),.string (bs b.root),.slice ps b.sts.length cp,.slice pr b.revs.length cr]] W (OwnOut W b)):=hid (fun W h=>rcopyBlk_any b S ps pr cp cr W (hb.ext h) hno)
 obtain⟨b2,hb2⟩:∃b2,b2=(⟨b.seq,b.prev,b.root,l,b.revs⟩:DBlk):=⟨_,rfl⟩
 have HS2:Hid (∀(W:World) (p3:Option Addr) (c3:Nat),Below w.heap.size w W->∀S3 p1 c1,HasBlk S3 W b [.int .u64 (b.seq:Int),.string (bs b.prev),.string (bs b.root),.slice p1 b.sts.length c1,.slice p3 b.revs.length c3]->Calls Tryz.prog 23 #[.agg #[.int .u64 (b.seq:Int),.string (bs b.prev),.string (bs b.root),.slice pl l.length cl,.slice p3 b.revs.length c3]] W (HeadOut W (shortP b2))):=hid (fun W p3 c3 h S3 p1 c1 hx=>by
  rw[hb2]
  exact short_p ⟨b.seq,b.prev,b.root,l,b.revs⟩ _ _ W (blk_sts hx (hl.ext h) hc hn hs) hk (U8T_ext hT h) (hK.ext h))
 have hq1:((shortP b).2=0/\shortP b=(⟨b.seq,b.prev,b.root,b.revs.length,stsT b.sts⟩,0)/\b.prev.length=32)\/((shortP b).2≠0/\(shortP b).1=.zero):=by
  by_cases h0:(wholeP b).2=0
  ·have h1:=short_is h0
   exact .inl ⟨by rw[h1],h1,(parts_full (whole_parts h0)).1⟩
  ·refine .inr ?_
   unfold shortP
   rw[if_pos h0]
   exact⟨h0,rfl⟩
 have hq2:(shortP b2).2=0->shortP b2=(⟨b.seq,b.prev,b.root,b.revs.length,stsT l⟩,0):=fun h=>by
  by_cases h0:(wholeP b2).2=0
  ·rw[short_is h0,hb2]
  ·unfold shortP at h
   rw[if_pos h0]at h
   exact absurd h h0
 have hoh:=short_okH hb
 have HDG:Hid (∀W,Below w.heap.size w W->Calls Tryz.prog 19 #[.agg (headCs (shortP b).1).toArray] W fun e' w'=>e'=.returned (.string (bs (digP (shortP b).1)))/\Below W.heap.size W w'):=hid (fun W hb=>digest_any _ W hoh (U8T_ext hT hb) (hK.ext hb))
 have hdl:(digP (shortP b).1).length=32:=shaL_length _
 have hst:=stsT_len b.sts
 have hbq:b.seq<18446744073709551616:=by obtain⟨_,_,_,_,_,hbd,_⟩:=hb;exact hbd.1
 have hbn:b.revs.length<=1073741824:=by obtain⟨_,_,_,_,_,hbd,_⟩:=hb;exact hbd.2.2.2.2.1
 generalize stsT l=T2 at hq2
 generalize stsT b.sts=T1 at hq1 hst
 generalize shortP b2=H2 at HS2 hq2
 generalize digP (shortP b).1=DG at HDG hdl
 generalize shortP b=H1 at HSR HDG hq1 hoh
 clear hb2 b2 hb hno hk hl hc hn hs hT hK hoh
 obtain⟨bseq,bprev,broot,bsts,brevs⟩:=b
 simp only at*
 obtain⟨⟨h1q,h1p,h1r,h1n,h1s⟩,h1w⟩:=H1
 obtain⟨⟨h2q,h2p,h2r,h2n,h2s⟩,h2w⟩:=H2
 go_enter Tryz.func6,Tryz.ntmps6
 go_upto_region 1 with(fail)
 generalize hW0:World.alloc w _=W0
 have hb0:Below w.heap.size w W0:=by rw[←hW0];exact(Below.refl _ _).alloc (Nat.le_refl _) _
 have hd0:IsBlk W0 w.heap.size #[.int .u64 (bseq:Int),.string (bs bprev),.string (bs broot),.slice ps bsts.length cp,.slice pr brevs.length cr] 28:=by rw[←hW0];exact IsBlk.new _ _ _
 have HB0:=hid hb0
 have HD0:=hid hd0
 clear hW0 hb0 hd0
 go_wp2_with fail
 go_at_call 14
 refine(HLV.out _ HB0.out).mono ?_
 rintro e' w1 ⟨rfl,hb1⟩
 have HB1:=hid (below_ext HB0.out hb1)
 have hd1:=HD0.out.ext hb1
 have HD1:=hid hd1
 have hlt1:=hd1.lt
 have x0:=hd1.cell (i:=0) rfl
 have x1:=hd1.cell (i:=1) rfl
 have x2:=hd1.cell (i:=2) rfl
 have x3:=hd1.cell (i:=3) rfl
 have x4:=hd1.cell (i:=4) rfl
 clear hb1 hd1 HD0
 go_wp2_with fail
 go_at_call 23
 refine(HSR.out _ HB1.out).mono ?_
 rintro e' w2 ⟨rfl,hb2⟩
 have HB2:=hid (below_ext HB1.out hb2)
 have hd2:=HD1.out.ext hb2
 have HD2:=hid hd2
 clear x0 x1 x2 x3 x4 hb2 hd2 hlt1
 go_upto_region 4 with(fail)
 generalize hW3:World.alloc w2 _=w3
 have hb3:Below w2.heap.size w2 w3:=by rw[←hW3];exact(Below.refl _ _).alloc (Nat.le_refl _) _
 have hd3:IsBlk w3 w2.heap.size #[.int .u64 (h1q:Int),.string (bs h1p),.string (bs h1r),.int .u64 (h1n:Int),.string (bs h1s)] 24:=by rw[←hW3];exact IsBlk.new _ _ _
 obtain⟨b5,hb5⟩:∃b,b=w2.heap.size:=⟨_,rfl⟩
 rw[←hb5]at hd3
 rw[←hb5]
 have HB3:=hid (below_ext HB2.out hb3)
 have hdb:=HD2.out.ext hb3
 have HD3:=hid hdb
 have HE3:=hid hd3
 have hwb5:w.heap.size<b5:=by rw[hb5];exact HD2.out.lt
 rcases hq1 with⟨hz,he,hpl⟩|⟨hz,he⟩
 case inr=>
  have hqb:(h1w !=0)=true:=by rw[bne_iff_ne];exact hz
  unfold DHead.zero at he
  injection he with a1 a2 a3 a4 a5
  subst a1
  subst a2
  subst a3
  subst a4
  subst a5
  have hlt3:=hd3.lt
  have x0:=hd3.cell (i:=0) rfl
  have x1:=hd3.cell (i:=1) rfl
  have x2:=hd3.cell (i:=2) rfl
  have x3:=hd3.cell (i:=3) rfl
  have x4:=hd3.cell (i:=4) rfl
  have hemp:((bs []).toList==ByteArray.toList ⟨#[]⟩)=true:=by rw[show bs []=⟨#[]⟩from rfl];simp
  have hemp3:(bs []).toList.isEmpty=true:=by rw[show bs []=⟨#[]⟩from rfl];simp
  have hemp2:(ByteArray.toList ⟨#[]⟩==ByteArray.toList ⟨#[]⟩)=true:=by simp
  clear hz hd3 hdb hb3 hW3 hb5
  go_wp2
  go_ret
  exact⟨rfl,HB3.out⟩
 injection he with he1 he2
 injection he1 with a1 a2 a3 a4 a5
 subst a1
 subst a2
 subst a3
 subst a4
 subst a5
 subst he2
 have hlt3:=hdb.lt
 have x0:=hdb.cell (i:=0) rfl
 have x1:=hdb.cell (i:=1) rfl
 have x2:=hdb.cell (i:=2) rfl
 have x3:=hdb.cell (i:=3) rfl
 have x4:=hdb.cell (i:=4) rfl
 clear hz hd3 hdb hb3 hW3 hb5
 go_wp2_with fail
 go_at_call 27
 refine(HCP.out _ HB3.out).mono ?_
 rintro e' w4 ⟨p4,c4,p5,c5,rfl,hk4,hb4⟩
 simp only at hk4
 have hk4':=relB.lt hk4
 have HB4:=hid (below_ext HB3.out hb4)
 have HD4:=hid (HD3.out.ext hb4)
 have HE4:=hid (HE3.out.ext hb4)
 clear x0 x1 x2 x3 x4 hb4 hlt3
 go_upto_region 7 with(fail)
 generalize hW5:World.alloc w4 _=w5
 have hb5':Below w4.heap.size w4 w5:=by rw[←hW5];exact(Below.refl _ _).alloc (Nat.le_refl _) _
 have hd5:IsBlk w5 w4.heap.size #[.int .u64 (h1q:Int),.string (bs h1p),.string (bs h1r),.slice p4 bsts.length c4,.slice p5 brevs.length c5] 28:=by rw[←hW5];exact IsBlk.new _ _ _
 obtain⟨b7,hb7⟩:∃b,b=w4.heap.size:=⟨_,rfl⟩
 rw[←hb7]at hd5 hk4'
 rw[←hb7]
 have HB5:=hid (below_ext HB4.out hb5')
 have HK5:=hid (hk4'.ext hb5')
 have HD5:=hid (HD4.out.ext hb5')
 have HE5:=hid (HE4.out.ext hb5')
 have HC5:=hid hd5
 have hlt5:=hd5.lt
 have hw57:w.heap.size<b7/\b5<b7:=⟨by rw[hb7];exact HD4.out.lt,by rw[hb7];exact HE4.out.lt⟩
 have f3:=hd5.frozen 3
 have x0:=hd5.cell (i:=0) rfl
 have x1:=hd5.cell (i:=1) rfl
 have x2:=hd5.cell (i:=2) rfl
 have x3:=hd5.cell (i:=3) rfl
 have x4:=hd5.cell (i:=4) rfl
 clear hW5 hb5' hd5 hk4 hk4' hb7
 go_upto_region 8 with(fail)
 generalize hW6:World.setCell _ _ _=w6
 have hd6:IsBlk w6 b7 #[.int .u64 (h1q:Int),.string (bs h1p),.string (bs h1r),.slice pl l.length cl,.slice p5 brevs.length c5] 28:=by rw[←hW6];simpa using HC5.out.set 3 (.slice pl l.length cl)
 have ho6:∀z,z≠b7->w6.heap[z]?=w5.heap[z]?:=fun z hz=>by rw[←hW6];exact Below.heap_setCell _ _ _ _ hz
 have HB6:Hid (Below w.heap.size w w6):=hid (by rw[←hW6];exact below_set HB5.out (by omega))
 have HK6:=hid (HK5.out.kept (S':=fun _=>True) (fun _ _=>trivial) (fun z hz _=>ho6 z (by have:=hz.2;omega)))
 have HD6:Hid (IsBlk w6 w.heap.size #[.int .u64 (h1q:Int),.string (bs h1p),.string (bs h1r),.slice ps bsts.length cp,.slice pr brevs.length cr] 28):=hid ((ho6 _ (by omega)).trans HD5.out)
 have HE6:Hid (IsBlk w6 b5 #[.int .u64 (h1q:Int),.string (bs h1p),.string (bs h1r),.int .u64 (brevs.length:Int),.string (bs h1s)] 24):=hid ((ho6 _ (by omega)).trans HE5.out)
 have hlt6:=hd6.lt
 clear hW6 x0 x1 x2 x3 x4 f3 ho6 hlt5
 have x0:=hd6.cell (i:=0) rfl
 have x1:=hd6.cell (i:=1) rfl
 have x2:=hd6.cell (i:=2) rfl
 have x3:=hd6.cell (i:=3) rfl
 have x4:=hd6.cell (i:=4) rfl
 clear hd6
 go_wp2_with fail
 go_at_call 23
 refine(HS2.out _ _ _ HB6.out _ _ _ HK6.out).mono ?_
 rintro e' w7 ⟨rfl,hb7⟩
 have HB7:=hid (below_ext HB6.out hb7)
 have HD7:=hid (HD6.out.ext hb7)
 have HE7:=hid (HE6.out.ext hb7)
 clear x0 x1 x2 x3 x4 hb7 hlt6
 go_upto_region 9 with(fail)
 generalize hW8:World.alloc w7 _=w8
 have hb8:Below w7.heap.size w7 w8:=by rw[←hW8];exact(Below.refl _ _).alloc (Nat.le_refl _) _
 have hd8:IsBlk w8 w7.heap.size #[.int .u64 (h2q:Int),.string (bs h2p),.string (bs h2r),.int .u64 (h2n:Int),.string (bs h2s)] 24:=by rw[←hW8];exact IsBlk.new _ _ _
 obtain⟨b8,hb8'⟩:∃b,b=w7.heap.size:=⟨_,rfl⟩
 rw[←hb8']at hd8
 rw[←hb8']
 have HB8:=hid (below_ext HB7.out hb8)
 have hdb:=HD7.out.ext hb8
 have hde:=HE7.out.ext hb8
 have hw8:w.heap.size<b8/\b5<b8:=⟨by rw[hb8'];exact HD7.out.lt,by rw[hb8'];exact HE7.out.lt⟩
 have hltb:=hdb.lt
 have hlte:=hde.lt
 have hltc:=hd8.lt
 have HDB:=hid hdb
 have HDE:=hid hde
 have HDC:=hid hd8
 have hsp:((bs h1p).toList==(bs h1p).toList)=true:=by simp
 have hsr:((bs h1r).toList==(bs h1r).toList)=true:=by simp
 clear hW8 hb8 hb8'
 by_cases hz2:h2w=0
 case neg=>
  have hqb:(h2w !=0)=true:=by rw[bne_iff_ne];exact hz2
  have x0:=hdb.cell (i:=0) rfl
  have x1:=hdb.cell (i:=1) rfl
  have x2:=hdb.cell (i:=2) rfl
  have x3:=hdb.cell (i:=3) rfl
  have x4:=hdb.cell (i:=4) rfl
  have y0:=hde.cell (i:=0) rfl
  have y1:=hde.cell (i:=1) rfl
  have y2:=hde.cell (i:=2) rfl
  have y3:=hde.cell (i:=3) rfl
  have y4:=hde.cell (i:=4) rfl
  clear hdb hde hd8 hz2
  go_wp2
  go_ret
  exact⟨rfl,HB8.out⟩
 have he2:=hq2 hz2
 injection he2 with he1 he2
 injection he1 with a1 a2 a3 a4 a5
 subst a1
 subst a2
 subst a3
 subst a4
 subst a5
 subst hz2
 have y4:=hde.cell (i:=4) rfl
 have z4:=hd8.cell (i:=4) rfl
 have f4:=hd8.frozen 4
 clear hdb hde hd8 he2
 go_upto_region 12 with(fail)
 generalize hW9:World.setCell _ _ _=w9
 have hd9:IsBlk w9 b8 #[.int .u64 (h2q:Int),.string (bs h2p),.string (bs h2r),.int .u64 (brevs.length:Int),.string (bs h1s)] 24:=by rw[←hW9];simpa using HDC.out.set 4 (.string (bs h1s))
 have ho9:∀z,z≠b8->w9.heap[z]?=w8.heap[z]?:=fun z hz=>by rw[←hW9];exact Below.heap_setCell _ _ _ _ hz
 have HB9:Hid (Below w.heap.size w w9):=hid (by rw[←hW9];exact below_set HB8.out (by omega))
 have hdb:IsBlk w9 w.heap.size #[.int .u64 (h2q:Int),.string (bs h2p),.string (bs h2r),.slice ps bsts.length cp,.slice pr brevs.length cr] 28:=(ho9 _ (by omega)).trans HDB.out
 have hde:IsBlk w9 b5 #[.int .u64 (h2q:Int),.string (bs h2p),.string (bs h2r),.int .u64 (brevs.length:Int),.string (bs h1s)] 24:=(ho9 _ (by omega)).trans HDE.out
 have hltb9:=hdb.lt
 have hlte9:=hde.lt
 have hltc9:=hd9.lt
 have hss:((bs h1s).toList==(bs h1s).toList)=true:=by simp
 have hsz:(bs h1s).size=32:=by rw[bs_size];exact hst
 have hdz:(bs DG).size=32:=by rw[bs_size];exact hdl
 have hwr:IntKind.u64.wrap (brevs.length:Int)=(brevs.length:Int):=by
  simp only[IntKind.wrap,IntKind.bits,IntKind.signed]
  first|omega|(simp;omega)
 clear hW9 ho9 y4 z4 f4
 have x0:=hdb.cell (i:=0) rfl
 have x1:=hdb.cell (i:=1) rfl
 have x2:=hdb.cell (i:=2) rfl
 have x3:=hdb.cell (i:=3) rfl
 have x4:=hdb.cell (i:=4) rfl
 have y0:=hde.cell (i:=0) rfl
 have y1:=hde.cell (i:=1) rfl
 have y2:=hde.cell (i:=2) rfl
 have y3:=hde.cell (i:=3) rfl
 have y4:=hde.cell (i:=4) rfl
 have z0:=hd9.cell (i:=0) rfl
 have z1:=hd9.cell (i:=1) rfl
 have z2:=hd9.cell (i:=2) rfl
 have z3:=hd9.cell (i:=3) rfl
 have z4:=hd9.cell (i:=4) rfl
 clear hdb hde hd9
 go_wp2_with fail
 go_at_call 19
 refine(HDG.out _ HB9.out).mono ?_
 rintro e' w10 ⟨rfl,hb10⟩
 have HB10:=hid (below_ext HB9.out hb10)
 clear x0 x1 x2 x3 x4 y0 y1 y2 y3 y4 z0 z1 z2 z3 z4 hb10
 go_wp2
 go_ret
 exact⟨rfl,HB10.out⟩
end Go.Proofs.YtcihbnpckicljaaGreatDoor
