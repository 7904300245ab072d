/- Merged out of: HandGlob, PureTok, Qx8, HandIdent. -/
import Derived.Test.YtodhmbnfliajiaaGreatDoorHandGlobA
import Derived.Test.YtodhmbnfliajiaaGreatDoorQx6
/- HandGlob: a text of this claim's proof,as printed or written,without what the claim does not use. -/
namespace Go.Proofs.YtodhmbnfliajiaaGreatDoor.Q
open Go.RowKit Go.Shelf Go.Proofs.YtodhmbnfliajiaaGreatDoorW.PrintWords Go.Proofs.YtodhmbnfliajiaaGreatDoorW.PrintLast
def glob_Fold.f (k:Nat) (a0 a1:ByteArray):Option Bool:=if 1000000000000 < a0.size then none else if 1000000000000 < a1.size then none else glob_match.f k ((gletters a0).map glow) ((gletters a1).map glow)
set_option maxRecDepth 100000 in
set_option maxHeartbeats 4000000 in
theorem glob_Fold.calls (k:Nat) (a0:ByteArray) (a1:ByteArray) (r:Bool) (w:World) (hT:Tabs w) (h:glob_Fold.f k a0 a1=some r) :
 Calls Tryz.prog 26 #[.string a0,.string a1] w fun e w'=>e=.returned (.bool r)∧Below w.heap.size w w':=by
 unfold glob_Fold.f at h;by_cases h0:1000000000000 < a0.size
 · rw [if_pos h0] at h;cases h
 by_cases h1:1000000000000 < a1.size
 · rw [if_neg h0,if_pos h1] at h;cases h
 rw [if_neg h0,if_neg h1] at h;have H:=Lib.hid h;clear h
 go_enter Tryz.func26,Tryz.ntmps26;go_wp2_with fail;refine (letters_any a0 (by omega) w hT).mono ?_;rintro e w1 ⟨v0,rfl,ho1,hb1⟩;go_wp2_with fail;refine (low_any w.heap.size v0 (gletters a0) (by have:=gletters_len a0;omega) (glets_i32 a0 _ _) w1 hb1.size ho1).mono ?_;rintro e w2 ⟨rfl,ho2,hb2⟩;have hb02:=hb1.trans hb2;go_wp2_with fail;refine (letters_any a1 (by omega) w2 (hT.below hb02)).mono ?_;rintro e w3 ⟨v1,rfl,ho3,hb3⟩;go_wp2_with fail;refine (low_any w2.heap.size v1 (gletters a1) (by have:=gletters_len a1;omega) (glets_i32 a1 _ _) w3 hb3.size ho3).mono ?_;rintro e w4 ⟨rfl,ho4,hb4⟩;have hb24:=hb3.trans hb4;have ho5:=pw_own_below ho2 hb24;obtain ⟨A0,c0,hv0,hc0,hC0⟩:=gl_reads (l:=(gletters a0).map glow) (by simpa using ho5);obtain ⟨A1,c1,hv1,hc1,hC1⟩:=gl_reads (l:=(gletters a1).map glow) (by simpa using ho4);rw [hv0,hv1];have hM:=glob_match.calls k A0 c0 _ A1 c1 _ r w4 hC0 hc0 hC1 hc1 H.out;simp only [List.length_map] at hM;have HM:=Lib.hid hM;clear hM hC0 hC1 ho1 ho2 ho3 ho4 ho5 hv0 hv1;go_wp2_with fail;refine (HM.out).mono ?_;rintro e w5 ⟨rfl,hb5⟩;go_wp2;go_ret;exact ⟨rfl,(hb02.trans (hb24.mono hb02.size)).trans (hb5.mono (Nat.le_trans hb02.size hb24.size))⟩
end Go.Proofs.YtodhmbnfliajiaaGreatDoor.Q

/- PureTok: a text of this claim's proof,as printed or written,without what the claim does not use. -/
namespace Go.Proofs.YtodhmbnfliajiaaGreatDoor.Q
open Go.Lib
def dval (acc:Nat) (l:List UInt8):Nat:=l.foldl (fun a c=>a * 10+(c.toNat - 48)) acc
theorem dval_nil (acc:Nat):dval acc []=acc:=rfl
theorem dval_cons (acc:Nat) (c:UInt8) (r:List UInt8):dval acc (c :: r)=dval (acc * 10+(c.toNat - 48)) r:=by unfold dval;rw [List.foldl_cons]
def isD (c:UInt8):Bool:=decide (48≤c.toNat∧c.toNat≤57)
theorem dval_lt : ∀ (l:List UInt8) (acc:Nat),l.all isD=true→dval acc l < (acc+1) * 10 ^ l.length
 | [],acc,_=>by rw [dval_nil,List.length_nil,Nat.pow_zero,Nat.mul_one];exact Nat.lt_succ_self _
 | c :: r,acc,h=>by
  simp only [List.all_cons,Bool.and_eq_true] at h;have hc:=of_decide_eq_true h.1;have ih:=dval_lt r (acc * 10+(c.toNat - 48)) h.2;rw [dval_cons,List.length_cons];refine Nat.lt_of_lt_of_le ih ?_;rw [Nat.pow_succ,Nat.mul_comm (10 ^ r.length) 10,← Nat.mul_assoc];exact Nat.mul_le_mul_right _ (by omega)
theorem dval_ge : ∀ (l:List UInt8) (acc:Nat),acc≤dval acc l
 | [],acc=>Nat.le_refl _
 | c :: r,acc=>by
  rw [dval_cons];exact Nat.le_trans (by omega) (dval_ge r _)
theorem pu_ok (M:Nat) : ∀ (l:List UInt8) (acc:Nat),l.all isD=true→dval acc l≤M→dval acc l < 1000000000000000000→parseUintM M acc l=.ok (dval acc l)
 | [],acc,_,_,_=>by rw [parseUintM,dval_nil]
 | c :: r,acc,h,hM,hb=>by
  simp only [List.all_cons,Bool.and_eq_true] at h;have hc:=of_decide_eq_true h.1;rw [dval_cons] at hM hb;have hge:=dval_ge r (acc * 10+(c.toNat - 48));rw [parseUintM,if_pos hc,if_neg (by omega),if_neg (by omega),dval_cons];exact pu_ok M r _ h.2 hM hb
theorem pi_ok (l:List UInt8) (hne:l≠[]) (hd:l.all isD=true) (hl:l.length≤18):parseIntB 64 l=.ok ((dval 0 l:Nat):Int):=by
 have hb:=dval_lt l 0 hd;have h18:10 ^ l.length≤10 ^ 18:=Nat.pow_le_pow_right (by omega) hl
 have hb2:dval 0 l < 1000000000000000000:=by
  have e:(10:Nat) ^ 18=1000000000000000000:=by decide
  rw [e] at h18;omega
 cases l with
 | nil=>exact absurd rfl hne
 | cons c r=>
  have hc:48≤c.toNat∧c.toNat≤57:=by simp only [List.all_cons,Bool.and_eq_true] at hd;exact of_decide_eq_true hd.1
  rw [parseIntB_plain 64 c r (by omega) (by omega)]
  have hu:parseUintB 64 (c :: r)=.ok (dval 0 (c :: r)):=by
   unfold parseUintB;rw [if_neg (by simp)]
   exact pu_ok _ _ 0 hd (by
    have:(2:Nat) ^ 64 - 1=18446744073709551615:=by decide
    omega) hb2
  rw [hu];have h63:(2:Nat) ^ (64 - 1)=9223372036854775808:=by decide
  simp only [signlessC,h63];rw [if_neg (by omega)]
end Go.Proofs.YtodhmbnfliajiaaGreatDoor.Q

/- Qx8: a text of this claim's proof,as printed or written,without what the claim does not use. -/
namespace Go.Proofs.YtodhmbnfliajiaaGreatDoor.Q
open Go.RowKit Go.Proofs.YtodhmbnfliajiaaGreatDoorW.PrintWords Go.Proofs.YtodhmbnfliajiaaGreatDoorW.PrintLast Go.Proofs.YtodhmbnfliajiaaGreatDoorW.PrintMore
attribute [local go_sem] max2_int min2_int max_two min_two max_three min_three max_four min_four
set_option linter.unusedVariables false
set_option linter.unusedSimpArgs false
def agoraref01_Str.f (a0:ByteArray):Option (Int×Int×ByteArray×List ByteArray×(List (S27))):=some (3,0,a0,([]:List ByteArray),([]:List (S27)))
set_option maxHeartbeats 8000000 in
set_option maxRecDepth 100000 in
theorem agoraref01_Str.calls (a0:ByteArray) (r1:Int) (r2:Int) (r3:ByteArray) (r4:List ByteArray) (r5:List (S27)) (w:World) (h:agoraref01_Str.f a0=some (r1,r2,r3,r4,r5)) :
 Calls Tryz.prog 69 #[.string a0] w fun e w'=>∃ v3_ v4_:Value,e=.returned (.agg #[.int .i64 r1,.int .i64 r2,.string r3,v3_,v4_])∧Kd.R Kd.string 9 w' w.heap.size (fun _=>True) v3_ r4∧Kd.R k27 27 w' w.heap.size (fun k_=>some k_≠(v3_:Value).ownBlock) v4_ r5∧Below w.heap.size w w':=by
 have hu27:=Tryz.underlying27;have HB:=Aside0.mk (Below.refl w.heap.size w);have H:(some (3,0,a0,([]:List ByteArray),([]:List (S27))))=some (r1,r2,r3,r4,r5):=h;clear h;simp only [Option.some.injEq,Prod.mk.injEq] at H;obtain ⟨rfl,rfl,rfl,rfl,rfl⟩:=H;go_enter Tryz.func69,Tryz.ntmps69;go_wp2_with (first|((with_reducible refine gate_dst (N:=2) rfl ?_);refine box_event ?hg (N:=2) ?hd (cs:=#[.int .i64 0,.int .i64 0,.string (⟨#[]⟩:ByteArray),.slice none 0 0,.slice none 0 0]) (t:=27) ?hr ?_;(case hd=>rfl);(case hg=>rfl);(case hr=>exact hr_);intro gb123 hg w2 hbox hb;have n0_:=Aside0.mk (below_step bz_ hb);have n1_:=Aside0.mk (hbox);have n2_:=Aside0.mk ((by rw [hg];exact (below_size bz_):w.heap.size≤gb123));have n3_:=Aside0.mk ((by rw [hg];exact (below_size bz_):w.heap.size≤gb123));clear HB;have HB:=n0_;have BK123:=n1_;have GW123:=n2_;have GE123:=n3_;clear n0_ n1_ n2_ n3_;clear hb hbox hg;have hcz3_0:w2.cell? ⟨gb123,0,none⟩=some (.int .i64 0):=(blk_cell BK123.out 0).trans rfl;have hcz3_1:w2.cell? ⟨gb123,1,none⟩=some (.int .i64 0):=(blk_cell BK123.out 1).trans rfl;have hcz3_2:w2.cell? ⟨gb123,2,none⟩=some (.string (⟨#[]⟩:ByteArray)):=(blk_cell BK123.out 2).trans rfl;have hcz3_3:w2.cell? ⟨gb123,3,none⟩=some (.slice none 0 0):=(blk_cell BK123.out 3).trans rfl;have hcz3_4:w2.cell? ⟨gb123,4,none⟩=some (.slice none 0 0):=(blk_cell BK123.out 4).trans rfl;have hfz3_0:=blk_frozen BK123.out 0;have hfz3_1:=blk_frozen BK123.out 1;have hfz3_2:=blk_frozen BK123.out 2;have hfz3_3:=blk_frozen BK123.out 3;have hfz3_4:=blk_frozen BK123.out 4));refine bodyPost_ret (results_cell_row rfl _ _ gb123 27 #[.int .i64 3,.int .i64 0,.string a0,.slice none 0 0,.slice none 0 0] (0,0) _ rfl (by (with_reducible repeat (first|refine blk_drewN ?_ _|refine blk_drew ?_|refine blk_alloc ?_ _));refine blk_put (cs:=#[.int .i64 3,.int .i64 0,.string a0,.slice none 0 0,.slice none 0 0]) ?_ 4 _ rfl;(with_reducible repeat (first|refine blk_drewN ?_ _|refine blk_drew ?_|refine blk_alloc ?_ _));refine blk_put (cs:=#[.int .i64 3,.int .i64 0,.string a0,.slice none 0 0,.slice none 0 0]) ?_ 3 _ rfl;(with_reducible repeat (first|refine blk_drewN ?_ _|refine blk_drew ?_|refine blk_alloc ?_ _));refine blk_put (cs:=#[.int .i64 3,.int .i64 0,.string (⟨#[]⟩:ByteArray),.slice none 0 0,.slice none 0 0]) ?_ 2 _ rfl;(with_reducible repeat (first|refine blk_drewN ?_ _|refine blk_drew ?_|refine blk_alloc ?_ _));refine blk_put (cs:=#[.int .i64 3,.int .i64 0,.string (⟨#[]⟩:ByteArray),.slice none 0 0,.slice none 0 0]) ?_ 1 _ rfl;(with_reducible repeat (first|refine blk_drewN ?_ _|refine blk_drew ?_|refine blk_alloc ?_ _));refine blk_put (cs:=#[.int .i64 0,.int .i64 0,.string (⟨#[]⟩:ByteArray),.slice none 0 0,.slice none 0 0]) ?_ 0 _ rfl;(with_reducible repeat (first|refine blk_drewN ?_ _|refine blk_drew ?_|refine blk_alloc ?_ _));exact BK123.out) Tryz.underlying27 rfl kr_) rfl ?_;exact ⟨_,_,by first|rfl|(simp [errW_none,errW_some] <;> rfl)|(simp [*,errW_none,errW_some] <;> rfl),by first|exact Kd.R_nil _ _ _ _ _|exact Kd.N_nil _ _ _ _ _|exact Kd.V_nil _ _ _ _ _|exact Kd.Q_nil _ _ _ _ _|exact Kd.S_nil _ _ _ _ _,by first|exact Kd.R_nil _ _ _ _ _|exact Kd.N_nil _ _ _ _ _|exact Kd.V_nil _ _ _ _ _|exact Kd.Q_nil _ _ _ _ _|exact Kd.S_nil _ _ _ _ _,by repeat (first|(with_reducible first|exact HB.out|apply below_alloc|apply pw_below_drewN|apply below_drew1|refine below_set ?_ GE123.out)|exact HB.out)⟩
def agoraref27_text.f (a0:ByteArray):Option (Int×Int×ByteArray×List ByteArray×(List (S27))×Bool):=(agoraref01_Str.f a0).bind fun bt125=>(some (bt125.1,bt125.2.1,bt125.2.2.1,bt125.2.2.2.1,bt125.2.2.2.2,true))
set_option maxHeartbeats 8000000 in
set_option maxRecDepth 100000 in
theorem agoraref27_text.calls (a0:ByteArray) (r1:Int) (r2:Int) (r3:ByteArray) (r4:List ByteArray) (r5:List (S27)) (r6:Bool) (w:World) (h:agoraref27_text.f a0=some (r1,r2,r3,r4,r5,r6)) :
 Calls Tryz.prog 60 #[.string a0] w fun e w'=>∃ v3_ v4_:Value,e=.returned (.tuple #[.agg #[.int .i64 r1,.int .i64 r2,.string r3,v3_,v4_],.bool r6])∧Kd.R Kd.string 9 w' w.heap.size (fun _=>True) v3_ r4∧Kd.R k27 27 w' w.heap.size (fun k_=>some k_≠(v3_:Value).ownBlock) v4_ r5∧Below w.heap.size w w':=by
 have hu27:=Tryz.underlying27;have HB:=Aside0.mk (Below.refl w.heap.size w);have H:((agoraref01_Str.f a0).bind fun bt125=>(some (bt125.1,bt125.2.1,bt125.2.2.1,bt125.2.2.2.1,bt125.2.2.2.2,true)))=some (r1,r2,r3,r4,r5,r6):=h;clear h;obtain ⟨⟨t125,t126,t127,t128,t131⟩,A2,H⟩:=bs_ H;(try dsimp only at H);simp only [Option.some.injEq,Prod.mk.injEq] at H;obtain ⟨rfl,rfl,rfl,rfl,rfl,rfl⟩:=H;go_enter Tryz.func60,Tryz.ntmps60;go_wp2_with (first|((with_reducible refine gate_dst (N:=2) rfl ?_);refine box_event ?hg (N:=2) ?hd (cs:=#[.int .i64 0,.int .i64 0,.string (⟨#[]⟩:ByteArray),.slice none 0 0,.slice none 0 0]) (t:=27) ?hr ?_;(case hd=>rfl);(case hg=>rfl);(case hr=>exact hr_);intro gb124 hg w3 hbox hb;have n0_:=Aside0.mk (below_step bz_ hb);have n1_:=Aside0.mk (hbox);have n2_:=Aside0.mk ((by rw [hg];exact (below_size bz_):w.heap.size≤gb124));have n3_:=Aside0.mk ((by rw [hg];exact (below_size bz_):w.heap.size≤gb124));clear HB;have HB:=n0_;have BK124:=n1_;have GW124:=n2_;have GE124:=n3_;clear n0_ n1_ n2_ n3_;clear hb hbox hg)|((with_reducible refine gate_callee (f:=69) rfl ?_);refine goesL_ (some 5) rfl rfl Tryz.func69 kr_ rfl #[.string a0] rfl ag_ ?_;(with_reducible refine (agoraref01_Str.calls a0 t125 t126 t127 t128 t131 _ A2.out).mono ?_);rintro e w4 ⟨v129,v132,rfl,ho0,ho1,hb⟩;refine ⟨_,rfl,?_⟩;have n0_:=Aside0.mk (Kd.R_lower ho0 (below_size (by repeat (first|(with_reducible first|exact HB.out|apply below_alloc|apply pw_below_drewN|apply below_drew1|refine below_set ?_ GE124.out)|exact HB.out))));have n1_:=Aside0.mk (Kd.R_lower (Kd.R_newB ho1 (g:=gb124) (o:=.cells #[.int .i64 0,.int .i64 0,.string (⟨#[]⟩:ByteArray),.slice none 0 0,.slice none 0 0] 27 (0,0)) (bk_ BK124)) (below_size (by repeat (first|(with_reducible first|exact HB.out|apply below_alloc|apply pw_below_drewN|apply below_drew1|refine below_set ?_ GE124.out)|exact HB.out))));have n2_:=Aside0.mk (blk_below (g:=gb124) (o:=.cells #[.int .i64 0,.int .i64 0,.string (⟨#[]⟩:ByteArray),.slice none 0 0,.slice none 0 0] 27 (0,0)) (bk_ BK124) hb);have n3_:=Aside0.mk (below_step (by repeat (first|(with_reducible first|exact HB.out|apply below_alloc|apply pw_below_drewN|apply below_drew1|refine below_set ?_ GE124.out)|exact HB.out)) hb);clear BK124;clear HB;have HO130:=n0_;have HO133:=n1_;have BK124:=n2_;have HB:=n3_;clear n0_ n1_ n2_ n3_;(try clear hb);(try clear hb2);(try clear hk);(try clear hi);(try clear ho0);(try clear ho1);have hcz5_0:w4.cell? ⟨gb124,0,none⟩=some (.int .i64 0):=(blk_cell BK124.out 0).trans rfl;have hcz5_1:w4.cell? ⟨gb124,1,none⟩=some (.int .i64 0):=(blk_cell BK124.out 1).trans rfl;have hcz5_2:w4.cell? ⟨gb124,2,none⟩=some (.string (⟨#[]⟩:ByteArray)):=(blk_cell BK124.out 2).trans rfl;have hcz5_3:w4.cell? ⟨gb124,3,none⟩=some (.slice none 0 0):=(blk_cell BK124.out 3).trans rfl;have hcz5_4:w4.cell? ⟨gb124,4,none⟩=some (.slice none 0 0):=(blk_cell BK124.out 4).trans rfl;have hfz5_0:=blk_frozen BK124.out 0;have hfz5_1:=blk_frozen BK124.out 1;have hfz5_2:=blk_frozen BK124.out 2;have hfz5_3:=blk_frozen BK124.out 3;have hfz5_4:=blk_frozen BK124.out 4;obtain ⟨Ao6,co6,eo6⟩:=Kd.R_slice HO130.out;subst eo6;obtain ⟨Ao7,co7,eo7⟩:=Kd.R_slice HO133.out;subst eo7));refine bodyPost_ret (results_ct rfl _ _ gb124 27 #[.int .i64 t125,.int .i64 t126,.string t127,.slice Ao6 t128.length co6,.slice Ao7 t131.length co7] (0,0) _ rfl (by (with_reducible repeat (first|refine blk_drewN ?_ _|refine blk_drew ?_|refine blk_alloc ?_ _));refine blk_put (cs:=#[.int .i64 t125,.int .i64 t126,.string t127,.slice Ao6 t128.length co6,.slice none 0 0]) ?_ 4 _ rfl;(with_reducible repeat (first|refine blk_drewN ?_ _|refine blk_drew ?_|refine blk_alloc ?_ _));refine blk_put (cs:=#[.int .i64 t125,.int .i64 t126,.string t127,.slice none 0 0,.slice none 0 0]) ?_ 3 _ rfl;(with_reducible repeat (first|refine blk_drewN ?_ _|refine blk_drew ?_|refine blk_alloc ?_ _));refine blk_put (cs:=#[.int .i64 t125,.int .i64 t126,.string (⟨#[]⟩:ByteArray),.slice none 0 0,.slice none 0 0]) ?_ 2 _ rfl;(with_reducible repeat (first|refine blk_drewN ?_ _|refine blk_drew ?_|refine blk_alloc ?_ _));refine blk_put (cs:=#[.int .i64 t125,.int .i64 0,.string (⟨#[]⟩:ByteArray),.slice none 0 0,.slice none 0 0]) ?_ 1 _ rfl;(with_reducible repeat (first|refine blk_drewN ?_ _|refine blk_drew ?_|refine blk_alloc ?_ _));refine blk_put (cs:=#[.int .i64 0,.int .i64 0,.string (⟨#[]⟩:ByteArray),.slice none 0 0,.slice none 0 0]) ?_ 0 _ rfl;(with_reducible repeat (first|refine blk_drewN ?_ _|refine blk_drew ?_|refine blk_alloc ?_ _));exact BK124.out) Tryz.underlying27 rfl kr_) rfl ?_;exact ⟨_,_,by first|rfl|(simp [errW_none,errW_some] <;> rfl)|(simp [*,errW_none,errW_some] <;> rfl),by (with_reducible repeat (first|apply Kd.R_alloc|apply Kd.R_drewN|apply Kd.R_drew));exact Kd.R_mono (Kd.R_far (p:=⟨gb124,4,none⟩) (Kd.R_far (p:=⟨gb124,3,none⟩) (Kd.R_far (p:=⟨gb124,2,none⟩) (Kd.R_far (p:=⟨gb124,1,none⟩) (Kd.R_far (p:=⟨gb124,0,none⟩) (Kd.R_types HO130.out BK124.out (by decide)) (fun _ hk=>hk.2) (.int .i64 t125)) (fun _ hk=>hk.2) (.int .i64 t126)) (fun _ hk=>hk.2) (.string t127)) (fun _ hk=>hk.2) (.slice Ao6 t128.length co6)) (fun _ hk=>hk.2) (.slice Ao7 t131.length co7)) (fun _ hk=>trivial),by (with_reducible repeat (first|apply Kd.R_alloc|apply Kd.R_drewN|apply Kd.R_drew));exact Kd.R_mono (Kd.R_far (p:=⟨gb124,4,none⟩) (Kd.R_far (p:=⟨gb124,3,none⟩) (Kd.R_far (p:=⟨gb124,2,none⟩) (Kd.R_far (p:=⟨gb124,1,none⟩) (Kd.R_far (p:=⟨gb124,0,none⟩) (Kd.R_mono HO133.out (fun k_ hk=>(⟨hk,hk.2⟩:_∧k_≠gb124))) (fun _ hk=>hk.2) (.int .i64 t125)) (fun _ hk=>hk.2) (.int .i64 t126)) (fun _ hk=>hk.2) (.string t127)) (fun _ hk=>hk.2) (.slice Ao6 t128.length co6)) (fun _ hk=>hk.2) (.slice Ao7 t131.length co7)) (fun _ hk=>hk.1.1),by repeat (first|(with_reducible first|exact HB.out|apply below_alloc|apply pw_below_drewN|apply below_drew1|refine below_set ?_ GE124.out)|exact HB.out)⟩
end Go.Proofs.YtodhmbnfliajiaaGreatDoor.Q

/- HandIdent: a text of this claim's proof,as printed or written,without what the claim does not use. -/
namespace Go.Proofs.YtodhmbnfliajiaaGreatDoor.Q
open Go.RowKit Go.Proofs.YtodhmbnfliajiaaGreatDoorW.PrintWords Go.Proofs.YtodhmbnfliajiaaGreatDoorW.PrintLast
def idSmall (c:Int):Bool:=decide (97≤c∧c≤122) || decide (48≤c∧c≤57) || decide (c=46)
def idServer1 (c:Int):Bool:=idSmall c || decide (c=45)
def allB (p:Int→Bool) (s:ByteArray):Bool:=(List.range s.size).all (fun i=>p (bt s (i:Int)))
theorem idServer1_f (c:Int):ident_Server_1.f c=some (idServer1 c):=by
 have h:ident_small.f c=some (idSmall c):=by
  unfold ident_small.f idSmall;by_cases h1:97≤c <;> by_cases h2:c≤122 <;> by_cases h3:48≤c <;> by_cases h4:c≤57 <;> by_cases h5:c=46 <;> simp [h1,h2,h3,h4,h5] <;> omega
 unfold ident_Server_1.f;rw [h];unfold idServer1;by_cases h:c=45 <;> cases hs:idSmall c <;> simp [h]
theorem ba_toList_len (s:ByteArray):s.toList.length=s.size:=by rw [ByteArray.toList_eq,Array.length_toList];rfl
set_option maxRecDepth 100000 in
set_option maxHeartbeats 2000000 in
theorem of_Server (s:ByteArray) (hs:s.size≤9223372036854775807) (w:World) :
 Calls Tryz.prog 104 #[.string s,.int .i64 32,.func (.func 107) #[] #[]] w fun e w'=>e=.returned (.bool (decide (1≤s.size∧s.size≤32) && allB idServer1 s))∧Drawn0 w w':=by
 by_cases h0:s.size=0
 · have h1:s.toList=[]:=by
    apply List.eq_nil_of_length_eq_zero;rw [ba_toList_len];exact h0
   have h2:s.toList.isEmpty=true:=by rw [h1];rfl
   have HF:decide (1≤s.size∧s.size≤32)=false:=by simp;omega
   have HH:=Lib.hid HF;have H0:=Lib.hid h0;clear HF h0
   go_enter Tryz.func104,Tryz.ntmps104;go_wp2;go_ret;exact ⟨by rw [HH.out];rfl,Drawn0.refl _⟩
 · have h1:s.toList≠[]:=by
    intro h;apply h0;rw [← ba_toList_len,h];rfl
   have h2:s.toList.isEmpty=false:=by cases hh:s.toList with|nil=>exact absurd hh h1|cons a l=>rfl
   by_cases hm:32 < s.size
   · have HF:decide (1≤s.size∧s.size≤32)=false:=by simp;omega
     have hd:decide ((32:Int) < (s.size:Int))=true:=by simp;omega
     have HH:=Lib.hid HF;have H0:=Lib.hid h0;have H1:=Lib.hid h1;clear HF h0 h1
     go_enter Tryz.func104,Tryz.ntmps104;go_wp2;go_ret;exact ⟨by rw [HH.out];rfl,Drawn0.refl _⟩
   · have HF:decide (1≤s.size∧s.size≤32)=true:=by simp;omega
     have hd:decide ((32:Int) < (s.size:Int))=false:=by simp;omega
     have HH:=Lib.hid HF;have H0:=Lib.hid h0;have H1:=Lib.hid h1;clear HF h0 h1
     go_enter Tryz.func104,Tryz.ntmps104;go_wp2;go_loopw [18] (fun i wr=>∃ k:Nat,k≤s.size∧i=.int .i64 k∧Hid (∀ j,j < k→idServer1 (bt s (j:Int))=true)∧Drawn0 w wr) (fun i _=>s.size - (intOf i).toNat);case atStart=>exact ⟨0,Nat.zero_le _,rfl,fun j hj=>by omega,Drawn0.refl _⟩
     case round=>
      obtain ⟨k,hk,rfl,HA,hD⟩:=hrel;by_cases hlt:k < s.size
      · have hb0:(((s[k]'hlt).toNat:Nat):Int)=bt s (k:Int):=by simp [bt,hlt]
        have hC:=fun W=>ident_Server_1.calls (bt s (k:Int)) (idServer1 (bt s (k:Int))) W (idServer1_f _)
        have HC:=Lib.hid hC;clear hC
        have HDr:=Lib.hid hD;clear hD
        cases hx:idServer1 (bt s (k:Int)) with
        | true=>
         rw [hx] at HC;have HX:=Lib.hid hx;clear hx
         go_wp2_with fail;refine (HC.out _).mono ?_;rintro e w2 ⟨rfl,⟨nd,rfl⟩⟩;go_wp2;go_roundw;case rel=>exact ⟨k+1,by omega,by simp,fun j hj=>by rcases Nat.lt_succ_iff_lt_or_eq.1 hj with h|rfl;exact HA j h;exact HX.out,HDr.out.step _⟩
         case measure=>simp [intOf];omega
        | false=>
         rw [hx] at HC;have HX:=Lib.hid hx;clear hx
         have HL:allB idServer1 s=false:=by
          unfold allB;rw [List.all_eq_false];exact ⟨k,by simpa using hlt,by rw [HX.out];decide⟩
         have HL':=Lib.hid HL;clear HL
         go_wp2_with fail;refine (HC.out _).mono ?_;rintro e w2 ⟨rfl,⟨nd,rfl⟩⟩;go_wp2;go_ret;exact ⟨by rw [HL'.out,Bool.and_false];rfl,HDr.out.step _⟩
      · obtain rfl:k=s.size:=by omega
        have HL:allB idServer1 s=true:=by
         unfold allB;rw [List.all_eq_true];exact fun j hj=>HA j (by simpa using hj)
        have HL':=Lib.hid HL;clear HL
        go_wp2;go_ret;exact ⟨by rw [HL'.out,HH.out];rfl,hD⟩
def ident_Server.f (a0:ByteArray):Option Bool:=if 9223372036854775807 < a0.size then none else some (decide (1≤a0.size∧a0.size≤32) && allB idServer1 a0)
theorem ident_Server.calls (a0:ByteArray) (r:Bool) (w:World) (h:ident_Server.f a0=some r) :
 Calls Tryz.prog 89 #[.string a0] w fun e w'=>e=.returned (.bool r)∧Drawn0 w w':=by
 unfold ident_Server.f at h;by_cases hb:9223372036854775807 < a0.size
 · rw [if_pos hb] at h;cases h
 rw [if_neg hb] at h;injection h with h;subst h
 have hO:=of_Server a0 (by omega) w;have HO:=Lib.hid hO;clear hO hb
 generalize (decide (1≤a0.size∧a0.size≤32) && allB idServer1 a0)=r at *;go_enter Tryz.func89,Tryz.ntmps89;go_wp2_with fail;refine (HO.out).mono ?_;rintro e w2 ⟨rfl,hd⟩;go_wp2;go_ret;exact ⟨rfl,hd⟩
end Go.Proofs.YtodhmbnfliajiaaGreatDoor.Q

