/- HandWord: a text of this claim's proof,as printed or written,without what the claim does not use. -/
import Derived.Test.YtodhmbnfliajiaaGreatDoorPureFold
namespace Go.Proofs.YtodhmbnfliajiaaGreatDoor.Q
open Go.RowKit Go.Shelf Go.Proofs.YtodhmbnfliajiaaGreatDoorW.PrintWords Go.Proofs.YtodhmbnfliajiaaGreatDoorW.PrintLast Go.Proofs.YtodhmbnfliajiaaGreatDoorW.PrintMore
def gWordL (x:GL):Bool := !x.f1 && (decide (97≤x.f0∧x.f0≤122) || decide (65≤x.f0∧x.f0≤90) || decide (48≤x.f0∧x.f0≤57) || decide (x.f0=95) || decide (128≤x.f0))
set_option maxRecDepth 100000 in
set_option maxHeartbeats 4000000 in
theorem wordL_calls (c:Int) (r:Bool) (w:World):Calls Tryz.prog 54 #[.agg #[.int .i32 c,.bool r]] w fun e w'=>e=.returned (.bool (gWordL ⟨c,r⟩))∧Below w.heap.size w w':=by
 have hB:=(Below.refl w.heap.size w).alloc (Nat.le_refl _) (.cells #[.int .i32 c,.bool r] 80);have HB:=Lib.hid hB;clear hB
 cases r with
 | true=>
  have HV:=Lib.hid (show gWordL ⟨c,true⟩=false from rfl);go_enter Tryz.func54,Tryz.ntmps54;go_wp2;go_ret;exact ⟨by rw [HV.out];rfl,HB.out⟩
 | false=>
  have hv:gWordL ⟨c,false⟩=(decide (97≤c∧c≤122) || decide (65≤c∧c≤90) || decide (48≤c∧c≤57) || decide (c=95) || decide (128≤c)):=rfl;by_cases h1:97≤c
  · have d1:decide (97≤c)=true:=decide_eq_true h1;by_cases h2:c≤122
    · have d2:decide (c≤122)=true:=decide_eq_true h2;have HV:=Lib.hid (show gWordL ⟨c,false⟩=true by rw [hv];simp;omega);clear hv h1 h2;go_enter Tryz.func54,Tryz.ntmps54;go_wp2;go_ret;exact ⟨by rw [HV.out];rfl,HB.out⟩
    · have d2:decide (c≤122)=false:=decide_eq_false h2;have d3:decide (65≤c)=true:=decide_eq_true (by omega);have d4:decide (c≤90)=false:=decide_eq_false (by omega);have d5:decide (48≤c)=true:=decide_eq_true (by omega);have d6:decide (c≤57)=false:=decide_eq_false (by omega);have d7:(c==95)=false:=by simp;omega
      have HV:=Lib.hid (show gWordL ⟨c,false⟩=decide (128≤c) by rw [hv,Bool.eq_iff_iff];simp;omega);clear hv h1 h2;go_enter Tryz.func54,Tryz.ntmps54;go_wp2;go_ret;exact ⟨by rw [HV.out];rfl,HB.out⟩
  · have d1:decide (97≤c)=false:=decide_eq_false h1;have d8:decide (128≤c)=false:=decide_eq_false (by omega);by_cases h3:65≤c
    · have d3:decide (65≤c)=true:=decide_eq_true h3;by_cases h4:c≤90
      · have d4:decide (c≤90)=true:=decide_eq_true h4;have HV:=Lib.hid (show gWordL ⟨c,false⟩=true by rw [hv];simp;omega);clear hv h1 h3 h4;go_enter Tryz.func54,Tryz.ntmps54;go_wp2;go_ret;exact ⟨by rw [HV.out];rfl,HB.out⟩
      · have d4:decide (c≤90)=false:=decide_eq_false h4;have d5:decide (48≤c)=true:=decide_eq_true (by omega);have d6:decide (c≤57)=false:=decide_eq_false (by omega);have HV:=Lib.hid (show gWordL ⟨c,false⟩=(c==95) by rw [hv,Bool.eq_iff_iff];simp;omega);clear hv h1 h3 h4;cases h9:(c==95)
        all_goals
         rw [h9] at HV;go_enter Tryz.func54,Tryz.ntmps54;go_wp2;go_ret;exact ⟨by rw [HV.out];rfl,HB.out⟩
    · have d3:decide (65≤c)=false:=decide_eq_false h3;have d7:(c==95)=false:=by simp;omega
      by_cases h5:48≤c
      · have d5:decide (48≤c)=true:=decide_eq_true h5;have HV:=Lib.hid (show gWordL ⟨c,false⟩=decide (c≤57) by rw [hv,Bool.eq_iff_iff];simp;omega);clear hv h1 h3 h5;cases h9:decide (c≤57)
        all_goals
         rw [h9] at HV;go_enter Tryz.func54,Tryz.ntmps54;go_wp2;go_ret;exact ⟨by rw [HV.out];rfl,HB.out⟩
      · have d5:decide (48≤c)=false:=decide_eq_false h5;have HV:=Lib.hid (show gWordL ⟨c,false⟩=false by rw [hv,Bool.eq_iff_iff];simp;omega);clear hv h1 h3 h5;go_enter Tryz.func54,Tryz.ntmps54;go_wp2;go_ret;exact ⟨by rw [HV.out];rfl,HB.out⟩
def gEdge (l:List GL) (i:Int):Bool:=decide (i < 0) || decide ((l.length:Int)≤i) || !gWordL (rd_T80 l i)
set_option maxRecDepth 100000 in
set_option maxHeartbeats 4000000 in
theorem edge_calls (B:Nat) (A:Option Addr) (n cp:Nat) (l:List GL) (i:Int) (W:World) (hn:n=l.length) (hb:W.heap[B]?=some (.cells #[.slice A n cp] 76 (0,0))) (hC:Kd.C k80 W A l.length l) :
 Calls Tryz.prog 53 #[.int .i64 i,.pointer (some ⟨B,0,none⟩)] W fun e w'=>e=.returned (.bool (gEdge l i))∧Below W.heap.size W w':=by
 subst hn;have hcell:W.cell? ⟨B,0,none⟩=some (.slice A l.length cp):=(blk_cell hb 0).trans rfl;have hv:gEdge l i=(decide (i < 0) || decide ((l.length:Int)≤i) || !gWordL (rd_T80 l i)):=rfl;have HC:=Lib.hid hC;have HL:=Lib.hid (show l.length≤9223372036854775807 from hC.2.1)
 clear hC;by_cases h0:i < 0
 · have d0:decide (i < 0)=true:=decide_eq_true h0;have HV:=Lib.hid (show gEdge l i=true by rw [hv,d0];rfl);clear hv h0;go_enter Tryz.func53,Tryz.ntmps53;go_wp2;go_ret;exact ⟨by rw [HV.out];rfl,Below.refl _ _⟩
 · have d0:decide (i < 0)=false:=decide_eq_false h0;by_cases h1:(l.length:Int)≤i
   · have d1:decide ((l.length:Int)≤i)=true:=decide_eq_true h1;have HV:=Lib.hid (show gEdge l i=true by rw [hv,d0,d1];rfl);clear hv h0 h1;go_enter Tryz.func53,Tryz.ntmps53;go_wp2;go_ret;exact ⟨by rw [HV.out];rfl,Below.refl _ _⟩
   · have d1:decide ((l.length:Int)≤i)=false:=decide_eq_false h1;have HV:=Lib.hid (show gEdge l i = !gWordL (rd_T80 l i) by rw [hv,d0,d1];rfl);clear hv;have i0:0≤i:=by omega
     have i1:i < (l.length:Int):=by omega
     have hT:=at_T80 HC.out i i0 i1;clear h0 h1;generalize rd_T80 l i=x at *;obtain ⟨ad,rfl,g0,g1⟩:=hT;have HW:=Lib.hid (fun w=>wordL_calls x.f0 x.f1 w);go_enter Tryz.func53,Tryz.ntmps53;go_wp2_with (go_at_call 54;refine (HW.out _).mono ?_;rintro e w1 ⟨rfl,hb1⟩);go_ret;exact ⟨by rw [HV.out];rfl,hb1⟩
def gRow (q l:List GL) (a:Nat) (n:Nat):Bool:=(List.range n).any fun d=>gEdge l ((a+d:Nat):Int) && gM q ((l.take (a+d)).drop a)
def gWordB (q l:List GL) (n:Nat):Bool:=(List.range n).any fun a=>gEdge l ((a:Int) - 1) && gRow q l a (l.length+1 - a)
def wordB (p s:ByteArray):Bool := !p.toList.isEmpty && gWordB ((gletters p).map glow) ((gletters s).map glow) (((gletters s).map glow).length+1)
theorem gRow_succ (q l:List GL) (a n:Nat):gRow q l a (n+1)=(gRow q l a n || (gEdge l ((a+n:Nat):Int) && gM q ((l.take (a+n)).drop a))):=by
 simp [gRow,List.range_succ]
theorem gWordB_succ (q l:List GL) (n:Nat):gWordB q l (n+1)=(gWordB q l n || (gEdge l ((n:Int) - 1) && gRow q l n (l.length+1 - n))):=by
 simp [gWordB,List.range_succ]
theorem gRow_mono (q l:List GL) (a:Nat) {n m:Nat} (h:n≤m) (ht:gRow q l a n=true):gRow q l a m=true:=by
 simp only [gRow,List.any_eq_true,List.mem_range] at ht ⊢;obtain ⟨d,h1,h2⟩:=ht;exact ⟨d,by omega,h2⟩
theorem gWordB_mono (q l:List GL) {n m:Nat} (h:n≤m) (ht:gWordB q l n=true):gWordB q l m=true:=by
 simp only [gWordB,List.any_eq_true,List.mem_range] at ht ⊢;obtain ⟨d,h1,h2⟩:=ht;exact ⟨d,by omega,h2⟩
theorem match_calls (A0:Option Addr) (c0:Nat) (p:List GL) (A1:Option Addr) (c1:Nat) (s:List GL) (w:World) (hp:p.length≤1000000000000) (hs:s.length≤1000000000000) (hr0:Kd.C k80 w A0 p.length p) (hc0:p.length≤c0) (hr1:Kd.C k80 w A1 s.length s) (hc1:s.length≤c1) :
 Calls Tryz.prog 55 #[.slice A0 p.length c0,.slice A1 s.length c1] w fun e w'=>e=.returned (.bool (gM p s))∧Below w.heap.size w w':=by
 obtain ⟨K,h⟩:=glob_match_f p s hp hs;exact glob_match.calls K A0 c0 p A1 c1 s _ w hr0 hc0 hr1 hc1 h
set_option maxRecDepth 100000 in
set_option maxHeartbeats 8000000 in
theorem word_any (p s:ByteArray) (hp:p.size≤1000000000) (hs:s.size≤1000000000) (w:World) (hT:Tabs w) :
 Calls Tryz.prog 25 #[.string p,.string s] w fun e w'=>e=.returned (.bool (wordB p s))∧Below w.heap.size w w':=by
 cases hp0:p.toList.isEmpty with
 | true=>
  have HV:=Lib.hid (show wordB p s=false by unfold wordB;rw [hp0];rfl);have hp1:p.toList=[]:=by simpa using hp0
  have hp2:=hp0;go_enter Tryz.func25,Tryz.ntmps25;go_wp2;go_ret;exact ⟨by rw [HV.out];rfl,Below.refl _ _⟩
 | false=>
  have HV:=Lib.hid (show wordB p s=gWordB ((gletters p).map glow) ((gletters s).map glow) (((gletters s).map glow).length+1) by unfold wordB;rw [hp0];rfl);have lp:=gletters_len p;have ls:=gletters_len s;have hLP:((gletters p).map glow).length≤1000000000:=by rw [List.length_map];omega
  have hLS:((gletters s).map glow).length≤1000000000:=by rw [List.length_map];omega
  have HP1:=Lib.hid (show p.toList≠[] by simpa using hp0);go_enter Tryz.func25,Tryz.ntmps25;go_wp2_with fail;refine (letters_any p (by omega) w hT).mono ?_;rintro e w1 ⟨v0,rfl,ho1,hb1⟩;go_wp2_with fail;refine (low_any w.heap.size v0 (gletters p) (by omega) (glets_i32 p _ _) w1 hb1.size ho1).mono ?_;rintro e w2 ⟨rfl,ho2,hb2⟩;have hb02:=hb1.trans hb2;go_wp2_with fail;refine (letters_any s (by omega) w2 (hT.below hb02)).mono ?_;rintro e w3 ⟨v1,rfl,ho3,hb3⟩;go_wp2_with fail;refine (low_any w2.heap.size v1 (gletters s) (by omega) (glets_i32 s _ _) w3 hb3.size ho3).mono ?_;rintro e w4 ⟨rfl,ho4,hb4⟩;have hb24:=hb3.trans hb4;have ho5:=pw_own_below ho2 hb24;obtain ⟨A0,c0,hv0,hc0,hC0⟩:=gl_reads (l:=(gletters p).map glow) (by simpa using ho5);obtain ⟨A1,c1,hv1,hc1,hC1⟩:=gl_reads (l:=(gletters s).map glow) (by simpa using ho4);rw [hv0,hv1];have HB04:=Lib.hid (hb02.trans (hb24.mono hb02.size));clear ho1 ho2 ho3 ho4 ho5 hv0 hv1 hb1 hb2 hb3 hb4 hb02 hb24 hT;generalize (gletters p).map glow=q at *;generalize (gletters s).map glow=l at *;have HC0:=Lib.hid hC0;have HC1:=Lib.hid hC1;have Hc0:=Lib.hid hc0;have Hc1:=Lib.hid hc1;have HLP:=Lib.hid hLP
  clear hC0 hC1 hc0 hc1 hLP lp ls hp hs hp0;go_wp2;have hblk:=blk_new w4 (.cells #[.slice A1 l.length c1] 76);have HB0:=Lib.hid ((HB04.out).alloc HB04.out.size (.cells #[.slice A1 l.length c1] 76));have HD0:=Lib.hid (Kd.C_alloc HC0.out (.cells #[.slice A1 l.length c1] 76));have HD1:=Lib.hid (Kd.C_alloc HC1.out (.cells #[.slice A1 l.length c1] 76));have HK:=Lib.hid hblk;clear HC0 HC1 HB04 hblk;generalize w4.alloc (.cells #[.slice A1 l.length c1] 76)=W0 at HK HB0 HD0 HD1 ⊢;generalize w4.heap.size=B at HK ⊢;have eg : ∀ args w,(callFunc 53 args).run Tryz.prog w=.ok (.enter 53 args) w:=enters_of Tryz.func53 kr_ rfl;have HE:=Lib.hid (fun (i:Int) (W:World) (hb:Below W0.heap.size W0 W)=>edge_calls B A1 l.length c1 l i W rfl (blk_below HK.out hb) (Kd.C_below HD1.out hb));have HCE:=Lib.hid (fun (W:World) (hb:Below W0.heap.size W0 W)=>((blk_cell (blk_below HK.out hb) 0).trans rfl:W.cell? ⟨B,0,none⟩=some (.slice A1 l.length c1)));obtain ⟨i0,hi0,_,hsz0,_⟩:=info_parts glInfo;have hcut:=fun (a b:Nat) (h1:a≤b) (h2:b≤l.length)=>cut_mid (P:=Tryz.prog) 76 80 .i64 .i64 Tryz.underlying76 hi0 2 hsz0 A1 l.length c1 (a:Int) (b:Int) (by omega) (by omega) (by omega) Hc1.out
  have HCUT:=Lib.hid hcut;clear hcut hi0 hsz0;go_loopw [8,9,22] (fun _ _ vi wr=>∃ a:Nat,a≤l.length+1∧vi=.int .i64 a∧Hid (gWordB q l a=false)∧Hid (Below W0.heap.size W0 wr)) (fun _ _ vi _=>l.length+1 - (intOf vi).toNat);case atStart=>exact ⟨0,Nat.zero_le _,rfl,rfl,Below.refl _ _⟩
  case round=>
   obtain ⟨a,ha,rfl,HG,HW⟩:=hrel;by_cases hlt:a < l.length+1
   · have hlt':(a:Int) < (l.length:Int)+1:=by omega
     obtain ⟨wo,hwo⟩ : ∃ wo,wo=wr:=⟨_,rfl⟩;subst hwo;go_wp2;go_loopw [9] (fun vb wr2=>∃ b:Nat,a≤b∧b≤l.length+1∧vb=.int .i64 b∧Hid (gEdge l ((a:Int) - 1)=true→gRow q l a (b - a)=false)∧Hid (Below W0.heap.size W0 wr2)) (fun vb _=>l.length+1 - (intOf vb).toNat);case atStart=>exact ⟨a,Nat.le_refl _,by omega,rfl,fun _=>by rw [Nat.sub_self];rfl,HW⟩
     case round=>
      obtain ⟨b,hab,hb,rfl,HI,HW2⟩:=hrel;have hE1:=HE.out ((a:Int) - 1) wr HW2.out
      cases he:gEdge l ((a:Int) - 1) with
      | false=>
       rw [he] at hE1;have HE1:=Lib.hid hE1;have HS:=Lib.hid (show gWordB q l (a+1)=false by rw [gWordB_succ,HG.out,he];rfl);clear he hE1;go_wp2_with (go_at_fn 53;refine HE1.out.mono ?_;rintro e w5 ⟨rfl,hb5⟩);have HW5:=Lib.hid ((HW2.out).trans (hb5.mono HW2.out.size));go_roundw;case rel=>exact ⟨a+1,by omega,by simp,HS.out,HW5.out⟩
       case measure=>simp [intOf];omega
      | true=>
       rw [he] at hE1;have HE1:=Lib.hid hE1;clear hE1;by_cases hbl:b < l.length+1
       · have dle:decide ((b:Int)≤(l.length:Int))=true:=decide_eq_true (by omega);have dle':decide (b≤l.length)=true:=decide_eq_true (by omega);have HEb:=Lib.hid (fun W hW=>HE.out (b:Int) W hW)
         have hRs:gRow q l a (b+1 - a)=(gRow q l a (b - a) || (gEdge l (b:Int) && gM q ((l.take b).drop a))):=by
          have:=gRow_succ q l a (b - a);rw [show a+(b - a)=b by omega,show b - a+1=b+1 - a by omega] at this;exact this
         rw [HI he,Bool.false_or] at hRs;have HRS:=Lib.hid hRs;have HEE:=Lib.hid he
         clear hRs he HE;have hle1:a≤b:=hab;have hbl1:b≤l.length:=by omega
         cases hb1:gEdge l (b:Int) with
         | false=>
          have HS:=Lib.hid (show gEdge l ((a:Int) - 1)=true→gRow q l a (b+1 - a)=false from fun _=>by rw [HRS.out,hb1];rfl);have HEb2:=Lib.hid (fun W hW=>(by have:=HEb.out W hW;rw [hb1] at this;exact this:Calls Tryz.prog 53 #[.int .i64 (b:Int),.pointer (some ⟨B,0,none⟩)] W fun e w'=>e=.returned (.bool false)∧Below W.heap.size W w'));clear hb1 HEb HRS;go_wp2_with (first|(go_at_fn 53;((with_reducible refine HE1.out.mono ?_);rintro e w5 ⟨rfl,hb5⟩;have hcl:=HCE.out _ (HW2.out.trans (hb5.mono HW2.out.size))))|(go_at_fn 53;((with_reducible refine (HEb2.out _ (HW2.out.trans (hb5.mono HW2.out.size))).mono ?_);rintro e w6 ⟨rfl,hb6⟩)));have HW6:=Lib.hid ((HW2.out).trans ((hb5.trans (hb6.mono hb5.size)).mono HW2.out.size));clear hcl;go_roundw;case rel=>exact ⟨b+1,by omega,by omega,by simp,Lib.hid (fun _=>HS.out HEE.out),HW6.out⟩
          case measure=>simp [intOf];omega
         | true=>
          have HEb2:=Lib.hid (fun W hW=>(by have:=HEb.out W hW;rw [hb1] at this;exact this:Calls Tryz.prog 53 #[.int .i64 (b:Int),.pointer (some ⟨B,0,none⟩)] W fun e w'=>e=.returned (.bool true)∧Below W.heap.size W w'));have hcut:=HCUT.out a b hle1 hbl1;have hmid:=fun W (hW:Below W0.heap.size W0 W)=>Kd.C_mid (lo:=a) (hi:=b) (c:=c1) (Kd.C_below HD1.out hW) hle1 hbl1 Hc1.out
          have hlenm:((l.take b).drop a).length=b - a:=by rw [List.length_drop,List.length_take];omega
          have hmc:=fun W (hW:Below W0.heap.size W0 W)=>match_calls A0 c0 q (if c1=a then A1 else A1.map (·.add (a * 2))) (c1 - a) ((l.take b).drop a) W (by have:=HLP.out;omega) (by rw [hlenm];omega) (Kd.C_below HD0.out hW) Hc0.out (hmid W hW) (by rw [hlenm];have:=Hc1.out;omega)
          simp only [Int.toNat_natCast] at hcut;rw [hlenm] at hmc;clear hmid hlenm;generalize (if c1=a then A1 else A1.map (·.add (a * 2)))=A9 at hcut hmc;generalize c1 - a=c9 at hcut hmc;have HMC:=Lib.hid hmc;have HB1:=Lib.hid hb1;clear hmc hb1 HEb
          cases hm:gM q ((l.take b).drop a) with
          | false=>
           have HS:=Lib.hid (show gEdge l ((a:Int) - 1)=true→gRow q l a (b+1 - a)=false from fun _=>by rw [HRS.out,HB1.out,hm];rfl);rw [hm] at HMC;clear hm;go_wp2_with (first|(go_at_fn 53;((with_reducible refine HE1.out.mono ?_);rintro e w5 ⟨rfl,hb5⟩;have hcl:=HCE.out _ (HW2.out.trans (hb5.mono HW2.out.size))))|(go_at_fn 53;((with_reducible refine (HEb2.out _ (HW2.out.trans (hb5.mono HW2.out.size))).mono ?_);rintro e w6 ⟨rfl,hb6⟩;have hcl6:=HCE.out _ ((HW2.out).trans ((hb5.trans (hb6.mono hb5.size)).mono HW2.out.size))))|(go_at_call 55;((with_reducible refine (HMC.out _ ((HW2.out).trans ((hb5.trans (hb6.mono hb5.size)).mono HW2.out.size))).mono ?_);rintro e w7 ⟨rfl,hb7⟩)));have HW7:=Lib.hid ((HW2.out).trans (((hb5.trans (hb6.mono hb5.size)).trans (hb7.mono (Nat.le_trans hb5.size hb6.size))).mono HW2.out.size));clear hcl hcl6;go_roundw;case rel=>exact ⟨b+1,by omega,by omega,by simp,Lib.hid (fun _=>HS.out HEE.out),HW7.out⟩
           case measure=>simp [intOf];omega
          | true=>
           have HS:=Lib.hid (show wordB p s=true by
            rw [HV.out];refine gWordB_mono q l (n:=a+1) (by omega) ?_;rw [gWordB_succ,HEE.out,gRow_mono q l a (n:=b+1 - a) (by omega) (by rw [HRS.out,HB1.out,hm];rfl)]
            simp)
           rw [hm] at HMC;clear hm;go_wp2_with (first|(go_at_fn 53;((with_reducible refine HE1.out.mono ?_);rintro e w5 ⟨rfl,hb5⟩;have hcl:=HCE.out _ (HW2.out.trans (hb5.mono HW2.out.size))))|(go_at_fn 53;((with_reducible refine (HEb2.out _ (HW2.out.trans (hb5.mono HW2.out.size))).mono ?_);rintro e w6 ⟨rfl,hb6⟩;have hcl6:=HCE.out _ ((HW2.out).trans ((hb5.trans (hb6.mono hb5.size)).mono HW2.out.size))))|(go_at_call 55;((with_reducible refine (HMC.out _ ((HW2.out).trans ((hb5.trans (hb6.mono hb5.size)).mono HW2.out.size))).mono ?_);rintro e w7 ⟨rfl,hb7⟩)));have HW7:=Lib.hid ((HW2.out).trans (((hb5.trans (hb6.mono hb5.size)).trans (hb7.mono (Nat.le_trans hb5.size hb6.size))).mono HW2.out.size));clear hcl hcl6;go_ret;exact ⟨by rw [HS.out];rfl,HB0.out.trans (HW7.out.mono HB0.out.size)⟩
       · have dle:decide ((b:Int)≤(l.length:Int))=false:=decide_eq_false (by omega);have dle':decide (b≤l.length)=false:=decide_eq_false (by omega);have HS:=Lib.hid (show gWordB q l (a+1)=false by rw [gWordB_succ,HG.out,he,show l.length+1 - a=b - a by omega,HI he];rfl);clear he hbl;go_wp2_with (go_at_fn 53;refine HE1.out.mono ?_;rintro e w5 ⟨rfl,hb5⟩;have hcl:=HCE.out _ (HW2.out.trans (hb5.mono HW2.out.size)));have HW5:=Lib.hid ((HW2.out).trans (hb5.mono HW2.out.size));clear hcl;go_roundw;case rel=>exact ⟨a+1,by omega,by simp,HS.out,HW5.out⟩
         case measure=>simp [intOf];omega
   · have hal:a=l.length+1:=by omega
     have HS:=Lib.hid (show wordB p s=false by rw [HV.out,← hal];exact HG.out);have dlt:decide ((a:Int) < (l.length:Int)+1)=false:=decide_eq_false (by omega);clear hal hlt;go_wp2;go_ret;exact ⟨by rw [HS.out];rfl,HB0.out.trans (HW.out.mono HB0.out.size)⟩
end Go.Proofs.YtodhmbnfliajiaaGreatDoor.Q
