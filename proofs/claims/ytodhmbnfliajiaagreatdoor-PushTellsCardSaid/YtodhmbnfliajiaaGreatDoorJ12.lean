/- Merged out of: PureMembers, Qx14. -/
import Derived.Test.YtodhmbnfliajiaaGreatDoorJ10
import Derived.Test.YtodhmbnfliajiaaGreatDoorJ15
import Derived.Test.YtodhmbnfliajiaaGreatDoorHandField
import Derived.Test.YtodhmbnfliajiaaGreatDoorJ6
import Derived.Test.YtodhmbnfliajiaaGreatDoorQx0
import Derived.Test.YtodhmbnfliajiaaGreatDoorQx8
import Derived.Test.YtodhmbnfliajiaaGreatDoorQx13
/- PureMembers: a text of this claim's proof,as printed or written,without what the claim does not use. -/
namespace Go.Proofs.YtodhmbnfliajiaaGreatDoor.Q
open Go.RowKit Go.Proofs.YtodhmbnfliajiaaGreatDoorW.PrintWords Go.Proofs.YtodhmbnfliajiaaGreatDoorW.PrintLast Go.Proofs.YtodhmbnfliajiaaGreatDoorW.PrintMore
set_option linter.unusedSimpArgs false
def dInt (o:Option Nat):Int:=match o with|none=>-1|some m=>(m:Int)
theorem bt_list (s:ByteArray) (i:Nat) (hl:i < s.data.toList.length):bt s (i:Int)=((s.data.toList[i]).toNat:Int):=by
 rw [bt_get s i (by simpa using hl),get_list s i hl]
theorem digits_l0 (s:ByteArray) (hs:s.size≤9) : ∀ (m i K:Nat) (acc:Nat),m=s.size - i→i≤s.size→acc < 10 ^ i→m < K→
 agoraref27_digits.l0 K s (acc:Int) (i:Int)=some (if (s.data.toList.drop i).all isD=true then ((dval acc (s.data.toList.drop i):Nat):Int) else -1)
 | 0,i,K,acc,hm,hi,ha,hK=>by
  obtain ⟨K,rfl⟩ : ∃ j,K=j+1:=⟨K - 1,by omega⟩
  rw [agoraref27_digits.l0,if_neg (by omega),List.drop_eq_nil_of_le (by simp;omega)];rfl
 | m+1,i,K,acc,hm,hi,ha,hK=>by
  obtain ⟨K,rfl⟩ : ∃ j,K=j+1:=⟨K - 1,by omega⟩
  have hl:i < s.data.toList.length:=by simp;omega
  have hb:=bt_list s i hl
  have hp:acc < 100000000:=Nat.lt_of_lt_of_le ha (show 10 ^ i≤10 ^ 8 from Nat.pow_le_pow_right (by decide) (by omega))
  have hp1 : ∀ d,d≤9→acc * 10+d < 10 ^ (i+1):=by
   intro d hd
   rw [Nat.pow_succ]
   generalize 10 ^ i=q at *
   omega
  clear ha
  rw [agoraref27_digits.l0,if_pos (by omega),if_pos (by omega),hb,List.drop_eq_getElem_cons hl,List.all_cons]
  generalize s.data.toList[i]=c
  have hc:=c.toNat_lt
  by_cases h1:c.toNat < 48
  · have:isD c=false:=by unfold isD;rw [decide_eq_false];omega
    rw [if_pos (by omega),this];simp
  · rw [if_neg (by omega)]
    by_cases h2:57 < c.toNat
    · have:isD c=false:=by unfold isD;rw [decide_eq_false];omega
      rw [if_pos (by omega),this];simp
    · have hD:isD c=true:=by unfold isD;rw [decide_eq_true];omega
      have r1:m=s.size - (i+1):=by omega
      have r2:i+1≤s.size:=by omega
      have r3:m < K:=by omega
      have r4:=hp1 (c.toNat - 48) (by omega)
      have r5 : ¬ ((c.toNat:Int) > 57):=by omega
      have e1:wrap64 (wrap64 (10 * (acc:Int))+((c.toNat:Int) - 48) % 256)=((acc * 10+(c.toNat - 48):Nat):Int):=by
       rw [wrap_small (10 * (acc:Int)) (by omega) (by omega),Int.emod_eq_of_lt (by omega) (by omega),wrap_small _ (by omega) (by omega)];omega
      have e2:wrap64 ((i:Int)+1)=((i+1:Nat):Int):=by rw [wrap_small _ (by omega) (by omega)];omega
      rw [if_neg r5,e1,e2,digits_l0 s hs m (i+1) K _ r1 r2 r4 r3,hD,Bool.true_and,dval_cons]
theorem digits_f (s:ByteArray) (hs:s.size≤1000000000) (K:Nat) (hK:s.size+2≤K):agoraref27_digits.f K s=some (dInt (dig9 s.data.toList)):=by
 obtain ⟨K,rfl⟩ : ∃ j,K=j+1:=⟨K - 1,by omega⟩
 have hsz:s.data.toList.length=s.size:=by simp
 unfold agoraref27_digits.f dig9
 by_cases h1:s.size < 1
 · rw [if_pos (by omega),agoraref27_digits.j0,if_pos rfl,if_neg];rfl
   rintro ⟨h,_⟩;exact h (List.eq_nil_of_length_eq_zero (by omega))
 · rw [if_neg (by omega),agoraref27_digits.j0]
   by_cases h2:9 < s.size
   · rw [if_pos (by simp;omega),if_neg];rfl
     rintro ⟨_,h,_⟩;omega
   · rw [if_neg (by simp;omega)]
     have:=digits_l0 s (by omega) s.size 0 K 0 (by omega) (by omega) (by decide) (by omega)
     refine (show agoraref27_digits.l0 K s 0 0=_ from this).trans ?_
     rw [List.drop_zero]
     congr 1
     have hne:s.data.toList≠[]:=by
      intro h;rw [h] at hsz;simp at hsz;omega
     by_cases h3:s.data.toList.all isD=true
     · rw [if_pos h3,if_pos ⟨hne,by omega,h3⟩];rfl
     · rw [if_neg h3,if_neg (fun h=>h3 h.2.2)];rfl
theorem after_f (a b:ByteArray) : ∃ r,agoraref27_after.f a b=some (r,decide (a.data.toList.take b.size=b.data.toList))∧(a.data.toList.take b.size=b.data.toList→r.data.toList=a.data.toList.drop b.size∧r.size≤a.size):=by
 have ha:a.data.toList.length=a.size:=by simp
 have hb:b.data.toList.length=b.size:=by simp
 have e1:(a.extract 0 b.size).toList=a.data.toList.take b.size:=by
  rw [ByteArray.toList_eq,ByteArray.data_extract,Array.toList_extract,List.extract_eq_take_drop];simp
 unfold agoraref27_after.f
 by_cases h:a.data.toList.take b.size=b.data.toList
 · have hl:b.size≤a.size:=by
    have:=congrArg List.length h;rw [List.length_take] at this;omega
   have e2:(a.extract b.size a.size).data.toList=a.data.toList.drop b.size:=by
    rw [ByteArray.data_extract,Array.toList_extract,List.extract_eq_take_drop,List.take_of_length_le (by simp)]
   refine ⟨a.extract b.size a.size,?_,fun _=>⟨e2,?_⟩⟩
   · rw [if_pos ⟨hl,by rw [e1,ByteArray.toList_eq];exact h⟩,decide_eq_true h]
   · have:(a.extract b.size a.size).size=(a.extract b.size a.size).data.toList.length:=by simp
     rw [this,e2,List.length_drop];omega
 · refine ⟨⟨#[]⟩,?_,fun h2=>absurd h2 h⟩
   rw [if_neg (by rintro ⟨_,h2⟩;rw [e1,ByteArray.toList_eq] at h2;exact h h2),decide_eq_false h]
theorem members_f (p:ByteArray) (n:Int) (hp:p.size≤1000000000) (K:Nat) (hK:p.size+2≤K):agoraref27_members.f K p n=some (standsB p n):=by
 have hm:=memL_stands p.data.toList n
 unfold standsB
 rw [← hm]
 have hdig : ∀ (r:ByteArray) (f:Int→Bool),r.size≤p.size→((agoraref27_digits.f K r).bind fun t=>if t≥0 then (agoraref27_digits.f K r).bind fun u=>some (f u) else some false)=some (match dig9 r.data.toList with|none=>false|some m=>f (m:Int)):=by
  intro r f hr
  rw [digits_f r (by omega) K (by omega),Option.bind_some,Option.bind_some]
  cases dig9 r.data.toList with
  | none=>rfl
  | some m=>rw [if_pos (by show (m:Int)≥0;omega)];rfl
 obtain ⟨r1,h1,g1⟩:=after_f p ⟨#[61,61]⟩
 obtain ⟨r2,h2,g2⟩:=after_f p ⟨#[60,61]⟩
 obtain ⟨r3,h3,g3⟩:=after_f p ⟨#[62,61]⟩
 obtain ⟨r4,h4,g4⟩:=after_f p ⟨#[60]⟩
 obtain ⟨r5,h5,g5⟩:=after_f p ⟨#[62]⟩
 simp only [show (⟨#[61,61]⟩:ByteArray).size=2 from rfl,show (⟨#[60,61]⟩:ByteArray).size=2 from rfl,show (⟨#[62,61]⟩:ByteArray).size=2 from rfl,show (⟨#[60]⟩:ByteArray).size=1 from rfl,show (⟨#[62]⟩:ByteArray).size=1 from rfl,show (⟨#[61,61]⟩:ByteArray).data.toList=[61,61] from rfl,show (⟨#[60,61]⟩:ByteArray).data.toList=[60,61] from rfl,show (⟨#[62,61]⟩:ByteArray).data.toList=[62,61] from rfl,show (⟨#[60]⟩:ByteArray).data.toList=[60] from rfl,show (⟨#[62]⟩:ByteArray).data.toList=[62] from rfl] at h1 h2 h3 h4 h5 g1 g2 g3 g4 g5
 have e1 : ∀ m:Int,(n==m)=decide (n=m):=fun m=>by rw [Bool.eq_iff_iff];simp
 unfold agoraref27_members.f memL
 rw [h1,Option.bind_some]
 by_cases c1:p.data.toList.take 2=[61,61]
 · obtain ⟨q1,q2⟩:=g1 c1
   simp only [decide_eq_true c1,if_true,if_pos c1]
   rw [hdig r1 (fun t=>n==t) q2,q1]
   generalize dig9 _=o
   cases o <;> first|rfl|(simp only [e1])
 · simp only [decide_eq_false c1,Bool.false_eq_true,if_false,if_neg c1]
   rw [h2,Option.bind_some]
   by_cases c2:p.data.toList.take 2=[60,61]
   · obtain ⟨q1,q2⟩:=g2 c2
     simp only [decide_eq_true c2,if_true,if_pos c2]
     rw [hdig r2 (fun t=>decide (n≤t)) q2,q1]
     generalize dig9 _=o
     cases o <;> first|rfl|(simp only [e1])
   · simp only [decide_eq_false c2,Bool.false_eq_true,if_false,if_neg c2]
     rw [h3,Option.bind_some]
     by_cases c3:p.data.toList.take 2=[62,61]
     · obtain ⟨q1,q2⟩:=g3 c3
       simp only [decide_eq_true c3,if_true,if_pos c3]
       rw [hdig r3 (fun t=>decide (n≥t)) q2,q1]
       generalize dig9 _=o
       cases o <;> first|rfl|(simp only [e1])
     · simp only [decide_eq_false c3,Bool.false_eq_true,if_false,if_neg c3]
       rw [h4,Option.bind_some]
       by_cases c4:p.data.toList.take 1=[60]
       · obtain ⟨q1,q2⟩:=g4 c4
         simp only [decide_eq_true c4,if_true,if_pos c4]
         rw [hdig r4 (fun t=>decide (n < t)) q2,q1]
         generalize dig9 _=o
         cases o <;> first|rfl|(simp only [e1])
       · simp only [decide_eq_false c4,Bool.false_eq_true,if_false,if_neg c4]
         rw [h5,Option.bind_some]
         by_cases c5:p.data.toList.take 1=[62]
         · obtain ⟨q1,q2⟩:=g5 c5
           simp only [decide_eq_true c5,if_true,if_pos c5]
           rw [hdig r5 (fun t=>decide (n > t)) q2,q1]
           generalize dig9 _=o
           cases o <;> first|rfl|(simp only [e1])
         · simp only [decide_eq_false c5,Bool.false_eq_true,if_false,if_neg c5]
           rw [hdig p (fun t=>n==t) (Nat.le_refl _)]
           generalize dig9 _=o
           cases o <;> first|rfl|(simp only [e1])
end Go.Proofs.YtodhmbnfliajiaaGreatDoor.Q

/- Qx14: a text of this claim's proof,as printed or written,without what the claim does not use. -/
namespace Go.Proofs.YtodhmbnfliajiaaGreatDoor.Q
open Go.RowKit Go.Proofs.YtodhmbnfliajiaaGreatDoorW.PrintWords Go.Proofs.YtodhmbnfliajiaaGreatDoorW.PrintLast Go.Proofs.YtodhmbnfliajiaaGreatDoorW.PrintMore
attribute [local go_sem] max2_int min2_int max_two min_two max_three min_three max_four min_four
set_option linter.unusedVariables false
set_option linter.unusedSimpArgs false
def push_match.f (a0:ByteArray) (a1:ByteArray):Option (ByteArray×ByteArray×ByteArray×Int):=some ((⟨#[101,118,101,110,116,95,109,97,116,99,104]⟩:ByteArray),a0,a1,0)
set_option maxHeartbeats 8000000 in
set_option maxRecDepth 100000 in
theorem push_match.calls (a0:ByteArray) (a1:ByteArray) (r1:ByteArray) (r2:ByteArray) (r3:ByteArray) (r4:Int) (w:World) (h:push_match.f a0 a1=some (r1,r2,r3,r4)) :
 Calls Tryz.prog 40 #[.string a0,.string a1] w fun e w'=>e=.returned (.agg #[.string r1,.string r2,.string r3,.int .i64 r4])∧Below w.heap.size w w':=by
 have hu23:=Tryz.underlying23
 have HB:=Aside0.mk (Below.refl w.heap.size w)
 have H:(some ((⟨#[101,118,101,110,116,95,109,97,116,99,104]⟩:ByteArray),a0,a1,0))=some (r1,r2,r3,r4):=h
 clear h
 simp only [Option.some.injEq,Prod.mk.injEq] at H
 obtain ⟨rfl,rfl,rfl,rfl⟩:=H
 go_enter Tryz.func40,Tryz.ntmps40
 go_wp2_with (first|((with_reducible refine gate_dst (N:=4) rfl ?_);refine box_event ?hg (N:=4) ?hd (cs:=#[.string (⟨#[]⟩:ByteArray),.string (⟨#[]⟩:ByteArray),.string (⟨#[]⟩:ByteArray),.int .i64 0]) (t:=23) ?hr ?_;(case hd=>rfl);(case hg=>rfl);(case hr=>first|(go_simp;done)|(go_simp;rfl));intro gb276 hg w3 hbox hb;have n0_:=Aside0.mk (below_step (by repeat (first|(with_reducible first|exact HB.out|apply below_alloc|apply pw_below_drewN|apply below_drew1)|exact HB.out)) hb);have n1_:=Aside0.mk (hbox);have n2_:=Aside0.mk ((by rw [hg];exact (below_size (by repeat (first|(with_reducible first|exact HB.out|apply below_alloc|apply pw_below_drewN|apply below_drew1)|exact HB.out))):w.heap.size≤gb276));have n3_:=Aside0.mk ((by rw [hg];exact (below_size (by repeat (first|(with_reducible first|exact HB.out|apply below_alloc|apply pw_below_drewN|apply below_drew1)|exact HB.out))):w.heap.size≤gb276));clear HB;have HB:=n0_;have BK276:=n1_;have GW276:=n2_;have GE276:=n3_;clear n0_ n1_ n2_ n3_;clear hb hbox hg;have hcz4_0:w3.cell? ⟨gb276,0,none⟩=some (.string (⟨#[]⟩:ByteArray)):=(blk_cell BK276.out 0).trans rfl;have hcz4_1:w3.cell? ⟨gb276,1,none⟩=some (.string (⟨#[]⟩:ByteArray)):=(blk_cell BK276.out 1).trans rfl;have hcz4_2:w3.cell? ⟨gb276,2,none⟩=some (.string (⟨#[]⟩:ByteArray)):=(blk_cell BK276.out 2).trans rfl;have hcz4_3:w3.cell? ⟨gb276,3,none⟩=some (.int .i64 0):=(blk_cell BK276.out 3).trans rfl;have hfz4_0:=blk_frozen BK276.out 0;have hfz4_1:=blk_frozen BK276.out 1;have hfz4_2:=blk_frozen BK276.out 2;have hfz4_3:=blk_frozen BK276.out 3))
 refine bodyPost_ret (results_cell_row rfl _ _ gb276 23 #[.string (⟨#[101,118,101,110,116,95,109,97,116,99,104]⟩:ByteArray),.string a0,.string a1,.int .i64 0] (0,0) _ rfl (by (with_reducible repeat (first|refine blk_drewN ?_ _|refine blk_drew ?_|refine blk_alloc ?_ _));refine blk_put (cs:=#[.string (⟨#[101,118,101,110,116,95,109,97,116,99,104]⟩:ByteArray),.string a0,.string a1,.int .i64 0]) ?_ 3 _ rfl;(with_reducible repeat (first|refine blk_drewN ?_ _|refine blk_drew ?_|refine blk_alloc ?_ _));refine blk_put (cs:=#[.string (⟨#[101,118,101,110,116,95,109,97,116,99,104]⟩:ByteArray),.string a0,.string (⟨#[]⟩:ByteArray),.int .i64 0]) ?_ 2 _ rfl;(with_reducible repeat (first|refine blk_drewN ?_ _|refine blk_drew ?_|refine blk_alloc ?_ _));refine blk_put (cs:=#[.string (⟨#[101,118,101,110,116,95,109,97,116,99,104]⟩:ByteArray),.string (⟨#[]⟩:ByteArray),.string (⟨#[]⟩:ByteArray),.int .i64 0]) ?_ 1 _ rfl;(with_reducible repeat (first|refine blk_drewN ?_ _|refine blk_drew ?_|refine blk_alloc ?_ _));refine blk_put (cs:=#[.string (⟨#[]⟩:ByteArray),.string (⟨#[]⟩:ByteArray),.string (⟨#[]⟩:ByteArray),.int .i64 0]) ?_ 0 _ rfl;(with_reducible repeat (first|refine blk_drewN ?_ _|refine blk_drew ?_|refine blk_alloc ?_ _));exact BK276.out) Tryz.underlying23 rfl (by kernel_rfl)) rfl ?_
 exact ⟨by first|rfl|(simp [errW_none,errW_some] <;> rfl)|(simp [*,errW_none,errW_some] <;> rfl),by repeat (first|(with_reducible first|exact HB.out|apply below_alloc|apply pw_below_drewN|apply below_drew1|refine below_set ?_ GE276.out)|exact HB.out)⟩
def ident_small.f (a0:Int):Option (Bool):=if 97≤a0 then (if a0≤122 then (some true) else (if 48≤a0 then (if a0≤57 then (some true) else (some (a0==46))) else (some (a0==46)))) else (if 48≤a0 then (if a0≤57 then (some true) else (some (a0==46))) else (some (a0==46)))
set_option maxHeartbeats 8000000 in
set_option maxRecDepth 100000 in
theorem ident_small.calls (a0:Int) (r:Bool) (w:World) (h:ident_small.f a0=some r) :
 Calls Tryz.prog 106 #[.int .u8 a0] w fun e w'=>e=.returned (.bool r)∧Drawn0 w w':=by
 have H:(if 97≤a0 then (if a0≤122 then (some true) else (if 48≤a0 then (if a0≤57 then (some true) else (some (a0==46))) else (some (a0==46)))) else (if 48≤a0 then (if a0≤57 then (some true) else (some (a0==46))) else (some (a0==46))))=some r:=h
 clear h
 by_cases c2:97≤a0
 · rw [if_pos c2] at H
   have c2b0:decide (97≤a0)=true:=decide_eq_true c2
   clear c2
   by_cases c3:a0≤122
   · rw [if_pos c3] at H
     have c3b0:decide (a0≤122)=true:=decide_eq_true c3
     clear c3
     obtain rfl:=Option.some.inj H
     go_enter Tryz.func106,Tryz.ntmps106
     go_wp2
     go_ret
     exact ⟨by first|rfl|(simp;done)|(simp [*];done),by repeat (first|exact Drawn0.refl _|apply Drawn0.step)⟩
   · rw [if_neg c3] at H
     have c3b0:decide (a0≤122)=false:=decide_eq_false c3
     clear c3
     by_cases c4:48≤a0
     · rw [if_pos c4] at H
       have c4b0:decide (48≤a0)=true:=decide_eq_true c4
       clear c4
       by_cases c5:a0≤57
       · rw [if_pos c5] at H
         have c5b0:decide (a0≤57)=true:=decide_eq_true c5
         clear c5
         obtain rfl:=Option.some.inj H
         go_enter Tryz.func106,Tryz.ntmps106
         go_wp2
         go_ret
         exact ⟨by first|rfl|(simp;done)|(simp [*];done),by repeat (first|exact Drawn0.refl _|apply Drawn0.step)⟩
       · rw [if_neg c5] at H
         have c5b0:decide (a0≤57)=false:=decide_eq_false c5
         clear c5
         obtain rfl:=Option.some.inj H
         go_enter Tryz.func106,Tryz.ntmps106
         go_wp2
         go_ret
         exact ⟨by first|rfl|(simp;done)|(simp [*];done),by repeat (first|exact Drawn0.refl _|apply Drawn0.step)⟩
     · rw [if_neg c4] at H
       have c4b0:decide (48≤a0)=false:=decide_eq_false c4
       clear c4
       obtain rfl:=Option.some.inj H
       go_enter Tryz.func106,Tryz.ntmps106
       go_wp2
       go_ret
       exact ⟨by first|rfl|(simp;done)|(simp [*];done),by repeat (first|exact Drawn0.refl _|apply Drawn0.step)⟩
 · rw [if_neg c2] at H
   have c2b0:decide (97≤a0)=false:=decide_eq_false c2
   clear c2
   by_cases c6:48≤a0
   · rw [if_pos c6] at H
     have c6b0:decide (48≤a0)=true:=decide_eq_true c6
     clear c6
     by_cases c7:a0≤57
     · rw [if_pos c7] at H
       have c7b0:decide (a0≤57)=true:=decide_eq_true c7
       clear c7
       obtain rfl:=Option.some.inj H
       go_enter Tryz.func106,Tryz.ntmps106
       go_wp2
       go_ret
       exact ⟨by first|rfl|(simp;done)|(simp [*];done),by repeat (first|exact Drawn0.refl _|apply Drawn0.step)⟩
     · rw [if_neg c7] at H
       have c7b0:decide (a0≤57)=false:=decide_eq_false c7
       clear c7
       obtain rfl:=Option.some.inj H
       go_enter Tryz.func106,Tryz.ntmps106
       go_wp2
       go_ret
       exact ⟨by first|rfl|(simp;done)|(simp [*];done),by repeat (first|exact Drawn0.refl _|apply Drawn0.step)⟩
   · rw [if_neg c6] at H
     have c6b0:decide (48≤a0)=false:=decide_eq_false c6
     clear c6
     obtain rfl:=Option.some.inj H
     go_enter Tryz.func106,Tryz.ntmps106
     go_wp2
     go_ret
     exact ⟨by first|rfl|(simp;done)|(simp [*];done),by repeat (first|exact Drawn0.refl _|apply Drawn0.step)⟩
def ident_Server_1.f (a0:Int):Option (Bool):=(ident_small.f a0).bind fun t277=>(if t277=true then (some true) else (some (a0==45)))
set_option maxHeartbeats 8000000 in
set_option maxRecDepth 100000 in
theorem ident_Server_1.calls (a0:Int) (r:Bool) (w:World) (h:ident_Server_1.f a0=some r) :
 Calls Tryz.prog 107 #[.int .u8 a0] w fun e w'=>e=.returned (.bool r)∧Drawn0 w w':=by
 have H:((ident_small.f a0).bind fun t277=>(if t277=true then (some true) else (some (a0==45))))=some r:=h
 clear h
 replace H:=Option.bind_eq_some_iff.mp H
 obtain ⟨t277,A20,H⟩:=H
 replace H:(if t277=true then (some true) else (some (a0==45)))=some r:=H
 have A2:=Aside0.mk A20
 clear A20
 by_cases c3:t277=true
 · subst c3
   have H1:(some true)=some r:=by rw [if_pos rfl] at H;exact H
   clear H
   have H:=H1
   clear H1
   obtain rfl:=Option.some.inj H
   go_enter Tryz.func107,Tryz.ntmps107
   go_wp2_with (first|((with_reducible refine gate_callee (f:=106) rfl ?_);refine goesL_ (some 4) rfl rfl Tryz.func106 (by kernel_rfl) rfl #[.int .u8 a0] rfl (by (try simp only [List.map_toArray,List.map_cons,List.map_nil]);first|done|rfl|(simp only [List.length_drop,List.length_take];rfl)) ?_;(with_reducible refine (ident_small.calls a0 true _ A2.out).mono ?_);rintro e w' ⟨rfl,⟨nd,rfl⟩⟩;refine ⟨_,rfl,?_⟩))
   go_ret
   exact ⟨by first|rfl|(simp;done)|(simp [*];done),by repeat (first|exact Drawn0.refl _|apply Drawn0.step)⟩
 · replace c3:=Bool.eq_false_iff.mpr c3
   subst c3
   have H1:(some (a0==45))=some r:=by rw [if_neg (show ¬ (false=true) by decide)] at H;exact H
   clear H
   have H:=H1
   clear H1
   obtain rfl:=Option.some.inj H
   go_enter Tryz.func107,Tryz.ntmps107
   go_wp2_with (first|((with_reducible refine gate_callee (f:=106) rfl ?_);refine goesL_ (some 4) rfl rfl Tryz.func106 (by kernel_rfl) rfl #[.int .u8 a0] rfl (by (try simp only [List.map_toArray,List.map_cons,List.map_nil]);first|done|rfl|(simp only [List.length_drop,List.length_take];rfl)) ?_;(with_reducible refine (ident_small.calls a0 false _ A2.out).mono ?_);rintro e w' ⟨rfl,⟨nd,rfl⟩⟩;refine ⟨_,rfl,?_⟩))
   go_ret
   exact ⟨by first|rfl|(simp;done)|(simp [*];done),by repeat (first|exact Drawn0.refl _|apply Drawn0.step)⟩
end Go.Proofs.YtodhmbnfliajiaaGreatDoor.Q

