/- Merged out of: PureSame, HandPushDefault. -/
import Derived.Test.YtodhmbnfliajiaaGreatDoorQx20
import Derived.Test.YtodhmbnfliajiaaGreatDoorHandRefFind
/- PureSame: a text of this claim's proof,as printed or written,without what the claim does not use. -/
namespace Go.Proofs.YtodhmbnfliajiaaGreatDoor.Q
open Go.RowKit Go.Proofs.YtodhmbnfliajiaaGreatDoorW.PrintWords Go.Proofs.YtodhmbnfliajiaaGreatDoorW.PrintLast Go.Proofs.YtodhmbnfliajiaaGreatDoorW.PrintMore
set_option linter.unusedVariables false
theorem same_l1 (l:List RL) (i:Int) (r:RL) (hr:r.f3.length≤1000000000) (k:Nat) : ∀ (d m:Nat),m+d=r.f3.length→agoraref27_Same.l1 (k+d+1) l l i (m:Int) r.f0 r.f1 r.f2 r.f3 r.f4 r.f5 r.f0 r.f1 r.f2 r.f3 r.f4 r.f5=agoraref27_Same.l0 (k) l l (wrap64 (i+1))
 | 0,m,hm=>by
  unfold agoraref27_Same.l1;rw [if_neg (by omega)]
 | d+1,m,hm=>by
  have ih:=same_l1 l i r hr k d (m+1) (by omega);have e:wrap64 ((m:Int)+1)=((m+1:Nat):Int):=by rw [wrap_small _ (by omega) (by omega)];omega
  unfold agoraref27_Same.l1;rw [if_pos (by omega),if_pos (by omega),if_pos (by omega),if_neg (by simp),e];exact ih
theorem same_l0 (l:List RL) (hl:l.length≤1000000000) (hr : ∀ r ∈ l,r.f3.length≤1000000000) : ∀ (d i:Nat),i+d=l.length→∃ k,agoraref27_Same.l0 k l l (i:Int)=some true
 | 0,i,hi=>⟨1,by unfold agoraref27_Same.l0;rw [if_neg (by omega)]⟩
 | d+1,i,hi=>by
  obtain ⟨k,h⟩:=same_l0 l hl hr d (i+1) (by omega)
  have hm:rd_T47 l (i:Int) ∈ l:=by
   have:rd_T47 l (i:Int)=l[i]'(by omega):=by simp [rd_T47,show i < l.length by omega]
   rw [this];exact List.getElem_mem _
  have h3:=hr _ hm;have e:wrap64 ((i:Int)+1)=((i+1:Nat):Int):=by rw [wrap_small _ (by omega) (by omega)];omega
  have h1:=same_l1 l (i:Int) (rd_T47 l (i:Int)) h3 k (rd_T47 l (i:Int)).f3.length 0 (by omega);rw [e,h] at h1;refine ⟨k+(rd_T47 l (i:Int)).f3.length+1+1+1,?_⟩;unfold agoraref27_Same.l0;rw [if_pos (by omega),if_pos (by omega),if_pos (by omega),if_pos rfl,if_pos rfl,if_neg (by simp),if_neg (by simp),if_neg (by simp)];unfold agoraref27_Same.j1;rw [if_neg (by simp)];exact h1
theorem same_f (l:List RL) (hl:l.length≤1000000000) (hr : ∀ r ∈ l,r.f3.length≤1000000000) : ∃ k,agoraref27_Same.f k l l=some true:=by
 obtain ⟨k,h⟩:=same_l0 l hl hr l.length 0 (by omega);refine ⟨k,?_⟩;unfold agoraref27_Same.f;rw [if_pos rfl];exact h
end Go.Proofs.YtodhmbnfliajiaaGreatDoor.Q

/- HandPushDefault: a text of this claim's proof,as printed or written,without what the claim does not use. -/
namespace Go.Proofs.YtodhmbnfliajiaaGreatDoor.Q
open Go.RowKit Go.Proofs.YtodhmbnfliajiaaGreatDoorW.PrintWords Go.Proofs.YtodhmbnfliajiaaGreatDoorW.PrintLast Go.Proofs.YtodhmbnfliajiaaGreatDoorW.PrintMore
set_option linter.unusedVariables false
set_option linter.unusedSimpArgs false
theorem user_len (u:ByteArray):(userB u).1.size≤u.size:=by
 unfold userB cutB;split
 · obtain ⟨n1,n2⟩:=cut_len (cutRest ⟨#[64]⟩ u).data.toList;have hr:=rest_len ⟨#[64]⟩ u
   have e1:(cutName (cutRest ⟨#[64]⟩ u)).size≤(cutRest ⟨#[64]⟩ u).size:=by
    show (Lib.cut (cutRest ⟨#[64]⟩ u).data.toList [58]).1.toArray.size≤_
    have:(cutRest ⟨#[64]⟩ u).size=(cutRest ⟨#[64]⟩ u).data.toList.length:=by simp
    rw [this];simpa using n1
   exact Nat.le_trans e1 hr
 · exact Nat.zero_le _
theorem base_fits (u:ByteArray) (hu:u.size≤60) : ∀ r ∈ baseRules u,RuleFits r:=by
 intro r hr;unfold baseRules at hr;simp only [List.mem_cons,List.not_mem_nil,or_false] at hr;rcases hr with rfl|rfl|rfl|rfl|rfl|rfl|rfl
 · exact ⟨by decide,fun q hq=>by cases hq⟩
 · refine ⟨by decide,fun q hq=>?_⟩;unfold r1 at hq;simp only [List.mem_cons,List.not_mem_nil,or_false] at hq;subst hq;decide
 · refine ⟨by show 3≤6;decide,fun q hq=>?_⟩;unfold r2 at hq;simp only [List.mem_cons,List.not_mem_nil,or_false] at hq;rcases hq with rfl|rfl|rfl
   · show (⟨#[109,46,114,111,111,109,46,109,101,109,98,101,114]⟩:ByteArray).size≤60;decide
   · show (⟨#[105,110,118,105,116,101]⟩:ByteArray).size≤60;decide
   · exact hu
 · refine ⟨by decide,fun q hq=>?_⟩;unfold r3 at hq;simp only [List.mem_cons,List.not_mem_nil,or_false] at hq;subst hq;decide
 · refine ⟨by decide,fun q hq=>?_⟩;unfold r4 at hq;simp only [List.mem_cons,List.not_mem_nil,or_false] at hq;rcases hq with rfl|rfl <;> decide
 · refine ⟨by decide,fun q hq=>?_⟩;unfold r5 at hq;simp only [List.mem_cons,List.not_mem_nil,or_false] at hq;rcases hq with rfl|rfl <;> decide
 · refine ⟨by decide,fun q hq=>?_⟩;unfold r6 at hq;simp only [List.mem_cons,List.not_mem_nil,or_false] at hq;subst hq;decide
theorem few_default {x:EvV} {name:ByteArray} (f:FewIs [] x name) (u:ByteArray) (hu:u.size≤60):FewIs (defaultRules u) x name:=by
 have hb:=base_fits u hu;have hl:(baseRules u).length=7:=rfl;refine ⟨?_,f.ev,f.name,?_⟩
 · unfold defaultRules;split
   · simp [hl]
   · omega
 · intro r hr;unfold defaultRules at hr;split at hr
   · rw [List.mem_append,List.mem_append,List.mem_singleton] at hr;rcases hr with (hr|hr)|hr
     · exact hb r (List.mem_of_mem_take hr)
     · subst hr;refine ⟨by show 1≤6;decide,fun q hq=>?_⟩;unfold ownRule at hq;simp only [List.mem_cons,List.not_mem_nil,or_false] at hq;subst hq;exact Nat.le_trans (user_len u) hu
     · exact hb r (List.mem_of_mem_drop hr)
   · exact hb r hr
theorem same_c (l:List RL) (hl:l.length≤1000000000) (hr : ∀ r ∈ l,r.f3.length≤1000000000) (A:Option Addr) (c:Nat) (A':Option Addr) (c':Nat) (w:World) (h1:Kd.C k47 w A l.length l) (h2:l.length≤c) (h3:Kd.C k47 w A' l.length l) (h4:l.length≤c'):Calls Tryz.prog 20 #[.slice A l.length c,.slice A' l.length c'] w fun e w'=>e=.returned (.bool true)∧Below w.heap.size w w':=by
 obtain ⟨K,h⟩:=same_f l hl hr;exact agoraref27_Same.calls K A c l A' c' l true w h1 h2 h3 h4 h
def pdD:List (Option Nat):=[some 30,some 31,some 32,some 33,some 29,some 34,some 35,some 36,some 9,some 10,some 11]
def RulesAt (l:List RL) (W:World) (v:Value):Prop := ∃ A c,v=.slice A l.length c∧l.length≤c∧Kd.C k47 W A l.length l
def pdS (u:ByteArray) (x:EvV) (user name:ByteArray) (mem lev:Int) (l:List RL) (t1 t2:Bool) (t3:ByteArray):List Spec:=[.val (.string u),.by_ (RulesAt l),.val (.agg (scV x user name mem lev)),.val (.tuple #[.bool t1,.bool t2,.string t3]),.val (.tuple #[.bool t1,.bool t2,.string t3]),.val (.bool t1),.val (.bool t2),.val (.string t3),.val (.bool t1),.val (.bool t2),.val (.string t3)]
theorem pd_keep (u:ByteArray) (x:EvV) (user name:ByteArray) (mem lev:Int) (l:List RL) (t1 t2:Bool) (t3:ByteArray) (j:Nat) (W W':World) (v:Value) (hR:Below W.heap.size W W') (h:(specAt (pdS u x user name mem lev l t1 t2 t3) j).V W v):(specAt (pdS u x user name mem lev l t1 t2 t3) j).V W' v:=by
 match j,h with
 | 0,h=>exact h
 | 1,⟨A,c,h1,h2,h3⟩=>exact ⟨A,c,h1,h2,Kd.C_below h3 hR⟩
 | 2,h=>exact h
 | 3,h=>exact h
 | 4,h=>exact h
 | 5,h=>exact h
 | 6,h=>exact h
 | 7,h=>exact h
 | 8,h=>exact h
 | 9,h=>exact h
 | 10,h=>exact h
 | j+11,h=>exact h
set_option maxRecDepth 100000 in
set_option maxHeartbeats 8000000 in
theorem pushDefault_calls (u:ByteArray) (x:EvV) (user name:ByteArray) (mem lev:Int) (w:World) (hT:Tabs w) (hN:Near x) (hx:x.OkR w) :
 Calls Tryz.prog 5 #[.string u,.agg (scV x user name mem lev)] w fun e w'=>e=.returned (.bool true)∧Below w.heap.size w w':=by
 have hG:Giv none 0 [] x w:=⟨hT,C_nil _ _ _,Nat.le_refl _,hx⟩;obtain ⟨b,hb,hfew⟩:=few_c x user name mem lev [] hN;have HFew:=Lib.hid (fun W (h:Below w.heap.size w W)=>(show Calls Tryz.prog 9 #[.slice none 0 0,.agg (scV x user name mem lev)] W _ from hfew none 0 W (hG.below h)));have HAw:=Lib.hid (fun W (h:Below w.heap.size w W)=>awake_c W (hT.below h));have HG:=Lib.hid hG;clear hfew hT hx hG;have hu:=Tryz.underlying32;go_enter Tryz.func5,Tryz.ntmps5;go_wp2_with (first|((with_reducible refine gate_dst (N:=3) rfl ?_);refine box_event ?hg (N:=3) ?hd (cs:=scV x user name mem lev) (t:=32) ?hr ?_;(case hd=>rfl);(case hg=>rfl);(case hr=>exact hr_);intro g3 hg3 w3 hk3 hb3;(have hn3:w.heap.size≤g3:=Nat.le_of_eq hg3.symm);have HN3:=Lib.hid hn3;have HK3:=Lib.hid hk3;have HB3:=Lib.hid hb3;clear hk3 hb3 hg3 hn3)|((with_reducible refine gate_dst (N:=12) rfl ?_);refine wpList_load_row rfl 32 (.tmp 3) rfl g3 rfl 32 (scV x user name mem lev) (0,0) _ HK3.out hu rfl kr_ ?_));refine (HFew.out _ HB3.out).mono ?_;rintro e w4 ⟨rfl,hb4⟩;have HB4:=Lib.hid (below_step HB3.out hb4);have HK4:=Lib.hid (blk_below HK3.out hb4);clear HFew HB3 HK3 hb4
 cases b with
 | false=>
  clear hb;go_wp2;go_ret;exact ⟨rfl,HB4.out⟩
 | true=>
 have hf:=hb rfl;clear hb;by_cases h60:60 < u.size
 · have b1:decide ((60:Int) < (u.size:Int))=true:=decide_eq_true (by omega);have b2:decide (60 < u.size)=true:=decide_eq_true h60;clear h60;go_wp2;go_ret;exact ⟨rfl,HB4.out⟩
 · have b1:decide ((60:Int) < (u.size:Int))=false:=decide_eq_false (by omega);have b2:decide (60 < u.size)=false:=decide_eq_false h60;have hd:=few_default hf u (by omega);have HDe:=Lib.hid (fun W (h:Below w.heap.size w W)=>default_calls u W (HG.out.hT.below h) (by omega));have HRd:=Lib.hid (fun W=>rdefault_c u (by omega) W);have HSa:=Lib.hid (same_c (defaultRules u) (by have:=hd.len;omega) (fun r hr=>by have:=(hd.rules r hr).1;omega));have HTe:=Lib.hid (fun A c W (h:Giv A c (defaultRules u) x W)=>tell_c x user name mem lev hd.small hd.name _ hd.rulesSmall A c W h);have HRt:=Lib.hid (fun A c W (h:Giv A c (defaultRules u) x W)=>rtell_c x user name mem lev hd A c W h);generalize defaultRules u=l at HDe HRd HSa HTe HRt;generalize tellB l x user name mem lev=t at HTe HRt;obtain ⟨t1,t2,t3⟩:=t;dsimp only at HTe HRt;clear h60 hd hf;go_wp2_with (first|(go_at_call 18;refine (HDe.out _ HB4.out).mono ?_;rintro e w5 ⟨A5,c5,rfl,hl5,hC5,hb5⟩;have HB5:=Lib.hid (below_step HB4.out hb5);have HK5:=Lib.hid (blk_below HK4.out hb5);have HC5:=Lib.hid hC5;clear HDe hb5 hC5)|((with_reducible refine gate_dst (N:=24) rfl ?_);refine wpList_load_row rfl 32 (.tmp 3) rfl g3 rfl 32 (scV x user name mem lev) (0,0) _ HK5.out hu rfl kr_ ?_)|(go_at_call 16;refine (HTe.out A5 c5 _ ⟨HG.out.hT.below HB5.out,HC5.out,hl5,HG.out.hx.below HB5.out⟩).mono ?_;rintro e w6 ⟨rfl,hb6⟩;have HB6:=Lib.hid (below_step HB5.out hb6);have HK6:=Lib.hid (blk_below HK5.out hb6);have HC6:=Lib.hid (Kd.C_below HC5.out hb6);clear HTe hb6 HB5 HK5 HC5));refine wp_region_some _ pdD (pdS u x user name mem lev l t1 t2 t3) (fun W=>Below w6.heap.size w6 W) (fun _ W W'=>Below W.heap.size W W') kr_ kr_ kr_ kr_ rfl (below_drew1 (Below.refl _ _)) ?hI ?hV ?hNo ?hp ?hq;case hI=>exact fun _ W W' h hR=>below_step h hR
   case hV=>exact fun i j _ _ W W' v _ hR hv=>pd_keep u x user name mem lev l t1 t2 t3 j W W' v hR hv
   case hNo=>exact fun j hj h=>absurd h ((show ∀ j,j < 11→oslot pdD j≠none by decide) j hj)
   case hp=>
    refine ⟨?p0,?p1,?p2,?p3,?p4,?p5,?p6,?p7,?p8,?p9,?p10,trivial⟩
    case p0=>
     intro _ a w2 hinv hk hd hkp K hK;have h0:a.tmps[0]?.getD undef=.string u:=ev_of' ((hk 0 (show ∀ i,i < 11→oslot pdD i≠some 0 by decide)).trans rfl);unfold Oper.wp;go_simp;exact hK _ _ rfl (Below.refl _ _)
    case p1=>
     intro _ a w2 hinv hk hd hkp K hK;have h30:a.tmps[30]?.getD undef=.string u:=ev_of' (hd 0 (by decide) kr_);unfold Oper.wp;go_simp;refine (HRd.out _).mono ?_;rintro e w7 ⟨A7,c7,rfl,hl7,hC7,hb7⟩;exact hK _ _ ⟨A7,c7,rfl,hl7,hC7⟩ hb7
    case p2=>
     intro _ a w2 hinv hk hd hkp K hK;have e3:a.eval (.tmp 3)=.pointer (some ⟨g3,0,none⟩):=(hk 3 (show ∀ i,i < 11→oslot pdD i≠some 3 by decide)).trans rfl;exact wp_load_part 32 (.tmp 3) rfl g3 0 e3 32 (scV x user name mem lev) (scV x user name mem lev) (0,0) _ (blk_below HK6.out hinv) rfl hu rfl kr_ (hK _ _ rfl (Below.refl _ _))
    case p3=>
     intro _ a w2 hinv hk hd hkp K hK;obtain ⟨A7,c7,q1,q2,q3⟩:=hd 1 (by decide) kr_;have h31:a.tmps[31]?.getD undef=.slice A7 l.length c7:=ev_of' q1;have h32:a.tmps[32]?.getD undef=.agg (scV x user name mem lev):=ev_of' (hd 2 (by decide) kr_);clear q1;have HQ:=Lib.hid (HRt.out A7 c7 _ ⟨HG.out.hT.below (below_step HB6.out hinv),q3,q2,HG.out.hx.below (below_step HB6.out hinv)⟩);unfold Oper.wp;go_simp;refine HQ.out.mono ?_;rintro e w8 ⟨rfl,hb8⟩;exact hK _ _ rfl hb8
    case p4=>
     intro _ a w2 hinv hk hd hkp K hK;have h33:a.tmps[33]?.getD undef=.tuple #[.bool t1,.bool t2,.string t3]:=ev_of' (hd 3 (by decide) kr_);unfold Oper.wp;go_simp;exact hK _ _ rfl (Below.refl _ _)
    case p5=>
     intro _ a w2 hinv hk hd hkp K hK;have h29:a.tmps[29]?.getD undef=.tuple #[.bool t1,.bool t2,.string t3]:=ev_of' (hd 4 (by decide) kr_);unfold Oper.wp;go_simp;exact hK _ _ rfl (Below.refl _ _)
    case p6=>
     intro _ a w2 hinv hk hd hkp K hK;have h29:a.tmps[29]?.getD undef=.tuple #[.bool t1,.bool t2,.string t3]:=ev_of' (hd 4 (by decide) kr_);unfold Oper.wp;go_simp;exact hK _ _ rfl (Below.refl _ _)
    case p7=>
     intro _ a w2 hinv hk hd hkp K hK;have h29:a.tmps[29]?.getD undef=.tuple #[.bool t1,.bool t2,.string t3]:=ev_of' (hd 4 (by decide) kr_);unfold Oper.wp;go_simp;exact hK _ _ rfl (Below.refl _ _)
    case p8=>
     intro _ a w2 hinv hk hd hkp K hK;have h34:a.tmps[34]?.getD undef=.bool t1:=ev_of' (hd 5 (by decide) kr_);unfold Oper.wp;go_simp;exact hK _ _ rfl (Below.refl _ _)
    case p9=>
     intro _ a w2 hinv hk hd hkp K hK;have h35:a.tmps[35]?.getD undef=.bool t2:=ev_of' (hd 6 (by decide) kr_);unfold Oper.wp;go_simp;exact hK _ _ rfl (Below.refl _ _)
    case p10=>
     intro _ a w2 hinv hk hd hkp K hK;have h36:a.tmps[36]?.getD undef=.string t3:=ev_of' (hd 7 (by decide) kr_);unfold Oper.wp;go_simp;exact hK _ _ rfl (Below.refl _ _)
   case hq=>
    intro w7 f hinv hf;clear hf;dsimp only [putsO,conc,pdD,pdS,Spec.value];simp only [Act.put,List.setIfInBounds_toArray,List.set_cons_succ,List.set_cons_zero];have HB7:=Lib.hid (below_step HB6.out hinv);have HC7:=Lib.hid (Kd.C_below HC6.out hinv);clear hinv HB6 HC6 HK6 HRt;have n1:(t1==t1)=true:=by simp
    have n2:(t2==t2)=true:=by simp
    have n3:(t3.toList==t3.toList)=true:=by simp
    go_wp2_with (first|(go_at_call 19;refine (HRd.out _).mono ?_;rintro e w8 ⟨A8,c8,rfl,hl8,hC8,hb8⟩;have HB8:=Lib.hid (below_step HB7.out hb8);have HC8:=Lib.hid (Kd.C_below HC7.out hb8);have HD8:=Lib.hid hC8;clear hC8 hb8)|(go_at_call 20;refine (HSa.out A5 c5 A8 c8 _ HC8.out hl5 HD8.out hl8).mono ?_;rintro e w9 ⟨rfl,hb9⟩;have HB9:=Lib.hid (below_step HB8.out hb9);clear hb9)|(go_at_call 13;refine (HAw.out _ HB9.out).mono ?_;rintro e w10 ⟨rfl,hb10⟩;have HB10:=Lib.hid (below_step HB9.out hb10);clear hb10));go_ret;exact ⟨rfl,HB10.out⟩
end Go.Proofs.YtodhmbnfliajiaaGreatDoor.Q

