/- A text's frame, a block's frame: framed and Frame of journal and of the document. Conditions: a text no longer than 2^30 bytes; a block lies in memory; the tables read as the text lays them. -/
import Derived.Test.YtcihbnpckicljaaGreatDoorrJRWhole
import Derived.Test.YtcihbnpckicljaaGreatDoorrJScan
set_option linter.unusedVariables false
set_option linter.unusedSimpArgs false
namespace Go.Proofs.YtcihbnpckicljaaGreatDoor
open Go Go.RowKit Go.BigFrame
open Go.Lib(hid)
set_option maxRecDepth 100000
theorem le4_cells (n:Nat) (h:n<=1073741824):(u8s (le4 n)).toArray= #[.int .u8 ((n:Int)%256),.int .u8 ((n:Int)/256%256),.int .u8 ((n:Int)/65536%256),.int .u8 ((n:Int)/16777216)]:=by
 show #[Value.int .u8 ((UInt8.ofNat (n%256)).toNat:Int),.int .u8 ((UInt8.ofNat (n/256%256)).toNat:Int),.int .u8 ((UInt8.ofNat (n/65536%256)).toNat:Int),.int .u8 ((UInt8.ofNat (n/16777216%256)).toNat:Int)]=_
 rw[u8_mod _ (by omega),u8_mod _ (by omega),u8_mod _ (by omega),u8_mod _ (by omega),show n/16777216%256=n/16777216 by omega]
 rfl
set_option maxHeartbeats 4000000 in
theorem framed_any (s:List UInt8) (w:World) (hs:s.length<=1073741824) (hK:Ks w):
 Calls Tryz.prog 77 #[.string (bs s)] w fun e' w'=>e'=.returned (.string (bs (framedP s)))/\Below w.heap.size w w':=by
 have hsz:=bs_size s
 have HK:=hid hK
 obtain⟨n,hn⟩:∃n,n=s.length:=⟨_,rfl⟩
 have HN:=hid hn
 obtain⟨X,hX⟩:∃X,X=shaL (le4 n++s):=⟨_,rfl⟩
 have HX:=hid hX
 have h4z:(bs (le4 n)).size=4:=by rw[bs_size];rfl
 have hxz:(bs X).size=32:=by rw[bs_size,hX,shaL_length]
 have hF:framedP s=le4 n++X.take 8++s:=by rw[hX,hn];rfl
 rw[hF]
 rw[←hn]at hs hsz
 have hcv:=run_string_blk (P:=Tryz.prog) (w:=w.alloc (.cells #[.int .u8 ((n:Int)%256),.int .u8 ((n:Int)/256%256),.int .u8 ((n:Int)/65536%256),.int .u8 ((n:Int)/16777216)] 5)) 85 5 9 Tryz.underlying85 Tryz.underlying5 Tryz.underlying9 (g:=w.heap.size) (n:=4) (cap:=4) (t:=5) (l:=le4 n) rfl (by rw[le4_cells n hs];exact IsBlk.new _ _ _)
 clear hK hn hX hF
 go_enter Tryz.func77,Tryz.ntmps77
 go_upto_region 3 with(fail)
 clear hcv
 generalize hW1:World.alloc w _=W1
 have hb1:Below w.heap.size w W1:=by rw[←hW1];exact(Below.refl _ _).alloc (Nat.le_refl _) _
 have HB1:=hid hb1
 clear hW1 hb1
 go_wp2_with fail
 go_at_call 50
 refine(sum_l (le4 n++s) _ (bs_app _ _) _ (HK.out.ext HB1.out) (by have:=HN.out;simp[le4];omega)).mono ?_
 rintro e' w2 ⟨he,hb2⟩
 rw[←HX.out]at he
 subst he
 have HB2:=hid (below_ext HB1.out hb2)
 clear hb2
 go_wp2
 go_ret
 exact⟨by rw[show bs (le4 n++X.take 8++s)=bs (le4 n)++(bs X).extract 0 8++bs s from by rw[bs_head,bs_app,bs_app]];rfl,HB2.out⟩
set_option maxHeartbeats 4000000 in
theorem rframed_any (s:List UInt8) (w:World) (hs:s.length<=1073741824) (hK:Ks w):
 Calls Tryz.prog 49 #[.string (bs s)] w fun e' w'=>e'=.returned (.string (bs (framedP s)))/\Below w.heap.size w w':=by
 have hsz:=bs_size s
 have HK:=hid hK
 obtain⟨n,hn⟩:∃n,n=s.length:=⟨_,rfl⟩
 have HN:=hid hn
 obtain⟨X,hX⟩:∃X,X=shaL (le4 n++s):=⟨_,rfl⟩
 have HX:=hid hX
 have h4z:(bs (le4 n)).size=4:=by rw[bs_size];rfl
 have hxz:(bs X).size=32:=by rw[bs_size,hX,shaL_length]
 have hF:framedP s=le4 n++X.take 8++s:=by rw[hX,hn];rfl
 rw[hF]
 rw[←hn]at hs hsz
 have hcv:=run_string_blk (P:=Tryz.prog) (w:=w.alloc (.cells #[.int .u8 ((n:Int)%256),.int .u8 ((n:Int)/256%256),.int .u8 ((n:Int)/65536%256),.int .u8 ((n:Int)/16777216)] 5)) 85 5 9 Tryz.underlying85 Tryz.underlying5 Tryz.underlying9 (g:=w.heap.size) (n:=4) (cap:=4) (t:=5) (l:=le4 n) rfl (by rw[le4_cells n hs];exact IsBlk.new _ _ _)
 clear hK hn hX hF
 go_enter Tryz.func49,Tryz.ntmps49
 go_upto_region 3 with(fail)
 clear hcv
 generalize hW1:World.alloc w _=W1
 have hb1:Below w.heap.size w W1:=by rw[←hW1];exact(Below.refl _ _).alloc (Nat.le_refl _) _
 have HB1:=hid hb1
 clear hW1 hb1
 go_wp2_with fail
 go_at_call 60
 refine(rsum_l (le4 n++s) _ (bs_app _ _) _ (by have:=HN.out;simp[le4];omega)).mono ?_
 rintro e' w2 ⟨he,hb2⟩
 rw[←HX.out]at he
 subst he
 have HB2:=hid (below_ext HB1.out hb2)
 clear hb2
 go_wp2
 go_ret
 exact⟨by rw[show bs (le4 n++X.take 8++s)=bs (le4 n)++(bs X).extract 0 8++bs s from by rw[bs_head,bs_app,bs_app]];rfl,HB2.out⟩
set_option maxHeartbeats 4000000 in
theorem frame_p (b:DBlk) (S:Nat->Prop) (cs:List Value) (w:World) (hb:HasBlk S w b cs) (hk:∀r∈b.revs,okR r) (hT:U8T w) (hK:Ks w):
 Calls Tryz.prog 36 #[.agg cs.toArray] w (TextOut w (frameP b)):=by
 have HPT:Hid (∀w',Below w.heap.size w w'->Calls Tryz.prog 71 #[.agg cs.toArray] w' (TextOut w' (wholeP b))):=hid (fun w' h=>whether_any b S cs w' (hb.ext h) hk (U8T_ext hT h) (hK.ext h))
 have HLN:Hid ((wholeP b).2=0->(wholeP b).1.length<=16384):=hid whole_len
 obtain⟨Q,hQ⟩:∃Q,Q=frameP b:=⟨_,rfl⟩
 rw[←hQ]
 unfold frameP at hQ
 generalize wholeP b=P at HPT HLN hQ
 have HQ:=hid hQ
 have HK:=hid hK
 obtain⟨ps,cp,pr,cr,rfl,hbd,hS,hR⟩:=hb
 clear hS hR hk hT hK hbd hQ
 obtain⟨T,q⟩:=P
 show Calls Tryz.prog 36 #[.agg #[.int .u64 (b.seq:Int),.string (bs b.prev),.string (bs b.root),.slice ps b.sts.length cp,.slice pr b.revs.length cr]] w _
 go_enter Tryz.func36,Tryz.ntmps36
 go_wp2_with fail
 go_at_call 71
 refine(HPT.out _ ((Below.refl _ _).alloc (Nat.le_refl _) _)).mono ?_
 rintro e' w1 ⟨rfl,hb1⟩
 have HB1:=hid (below_ext ((Below.refl _ _).alloc (Nat.le_refl _) _) hb1)
 clear hb1
 by_cases hq:q=0
 case neg=>
  have hqb:(q !=0)=true:=by rw[bne_iff_ne];exact hq
  have HQ2:Hid (Q=([],q)):=hid (by rw[HQ.out,if_pos hq])
  clear hq
  go_wp2
  go_ret2
  exact⟨by rw[HQ2.out];rfl,HB1.out⟩
 subst hq
 have HQ2:Hid (Q=(framedP T,0)):=hid (by rw[HQ.out,if_neg (by simp)])
 have HL2:=hid (HLN.out rfl)
 clear HQ HLN
 go_wp2_with fail
 go_at_call 77
 refine(framed_any T _ (by have:=HL2.out;omega) (HK.out.ext HB1.out)).mono ?_
 rintro e' w4 ⟨rfl,hb4⟩
 have HB4:=hid (below_ext HB1.out hb4)
 clear hb4
 go_wp2
 go_ret2
 exact⟨by rw[HQ2.out];rfl,HB4.out⟩
set_option maxHeartbeats 4000000 in
theorem rframe_p (b:DBlk) (S:Nat->Prop) (cs:List Value) (w:World) (hb:HasBlk S w b cs) (hk:∀r∈b.revs,okR r) (hT:U8T w) (hK:Ks w):
 Calls Tryz.prog 37 #[.agg cs.toArray] w (TextOut w (frameP b)):=by
 have HPT:Hid (∀w',Below w.heap.size w w'->Calls Tryz.prog 34 #[.agg cs.toArray] w' (TextOut w' (wholeP b))):=hid (fun w' h=>rtext_p b S cs w' (hb.ext h) hk (U8T_ext hT h))
 have HLN:Hid ((wholeP b).2=0->(wholeP b).1.length<=16384):=hid whole_len
 obtain⟨Q,hQ⟩:∃Q,Q=frameP b:=⟨_,rfl⟩
 rw[←hQ]
 unfold frameP at hQ
 generalize wholeP b=P at HPT HLN hQ
 have HQ:=hid hQ
 have HK:=hid hK
 obtain⟨ps,cp,pr,cr,rfl,hbd,hS,hR⟩:=hb
 clear hS hR hk hT hK hbd hQ
 obtain⟨T,q⟩:=P
 show Calls Tryz.prog 37 #[.agg #[.int .u64 (b.seq:Int),.string (bs b.prev),.string (bs b.root),.slice ps b.sts.length cp,.slice pr b.revs.length cr]] w _
 go_enter Tryz.func37,Tryz.ntmps37
 go_wp2_with fail
 go_at_call 34
 refine(HPT.out _ ((Below.refl _ _).alloc (Nat.le_refl _) _)).mono ?_
 rintro e' w1 ⟨rfl,hb1⟩
 have HB1:=hid (below_ext ((Below.refl _ _).alloc (Nat.le_refl _) _) hb1)
 clear hb1
 by_cases hq:q=0
 case neg=>
  have hqb:(q !=0)=true:=by rw[bne_iff_ne];exact hq
  have HQ2:Hid (Q=([],q)):=hid (by rw[HQ.out,if_pos hq])
  clear hq
  go_wp2
  go_ret2
  exact⟨by rw[HQ2.out];rfl,HB1.out⟩
 subst hq
 have HQ2:Hid (Q=(framedP T,0)):=hid (by rw[HQ.out,if_neg (by simp)])
 have HL2:=hid (HLN.out rfl)
 clear HQ HLN
 go_wp2_with fail
 go_at_call 49
 refine(rframed_any T _ (by have:=HL2.out;omega) (HK.out.ext HB1.out)).mono ?_
 rintro e' w4 ⟨rfl,hb4⟩
 have HB4:=hid (below_ext HB1.out hb4)
 clear hb4
 go_wp2
 go_ret2
 exact⟨by rw[HQ2.out];rfl,HB4.out⟩
end Go.Proofs.YtcihbnpckicljaaGreatDoor
