/- Qx13: a text of this claim's proof,as printed or written,without what the claim does not use. -/
import Derived.Test.YtodhmbnfliajiaaGreatDoorQx0
import Derived.Test.YtodhmbnfliajiaaGreatDoorJ15
namespace Go.Proofs.YtodhmbnfliajiaaGreatDoor.Q
open Go.RowKit Go.Proofs.YtodhmbnfliajiaaGreatDoorW.PrintWords Go.Proofs.YtodhmbnfliajiaaGreatDoorW.PrintLast Go.Proofs.YtodhmbnfliajiaaGreatDoorW.PrintMore
attribute [local go_sem] max2_int min2_int max_two min_two max_three min_three max_four min_four
set_option linter.unusedVariables false
set_option linter.unusedSimpArgs false
mutual
def agoraref27_digits.j0:Nat→ByteArray→Bool→Option (Int)
 | 0,_,_=>none
 | k+1,x0,x12=>if x12=true then (some (-1)) else (agoraref27_digits.l0 k x0 0 0)
def agoraref27_digits.l0:Nat→ByteArray→Int→Int→Option (Int)
 | 0,_,_,_=>none
 | k+1,x0,x3,x4=>if x4 < (x0.size:Int) then (if 0≤x4 then (if (bt x0 x4) < 48 then (some (-1)) else (if (bt x0 x4) > 57 then (some (-1)) else (agoraref27_digits.l0 k x0 (wrap64 ((wrap64 (10 * x3))+(((bt x0 x4) - 48) % 256))) (wrap64 (x4+1))))) else (none)) else (some x3)
end
def agoraref27_digits.f (k:Nat) (a0:ByteArray):Option (Int):=if (a0.size:Int) < 1 then (agoraref27_digits.j0 k a0 true) else (agoraref27_digits.j0 k a0 (decide ((a0.size:Int) > 9)))
set_option maxHeartbeats 8000000 in
set_option maxRecDepth 100000 in
theorem agoraref27_digits.calls (k:Nat) (a0:ByteArray) (r:Int) (w:World) (h:agoraref27_digits.f k a0=some r) :
 Calls Tryz.prog 67 #[.string a0] w fun e w'=>e=.returned (.int .i64 r)∧Drawn0 w w':=by
 have H:(if (a0.size:Int) < 1 then (agoraref27_digits.j0 k a0 true) else (agoraref27_digits.j0 k a0 (decide ((a0.size:Int) > 9))))=some r:=h
 clear h
 have HC2:=Aside0.mk H
 clear H
 go_enter Tryz.func67,Tryz.ntmps67
 go_upto_region 1 with (fail)
 go_cut [12] (fun v12 wc=>∃ (kq:Nat) (x12_1:Bool),v12=.bool x12_1∧Aside0 (agoraref27_digits.j0 kq a0 x12_1=some r)∧Aside0 (kq≤k)∧Drawn0 w wc)
 case first=>
  have H:=HC2.out
  clear HC2
  by_cases c3:(a0.size:Int) < 1
  · rw [if_pos c3] at H
    have c3b0:decide ((a0.size:Int) < 1)=true:=decide_eq_true c3
    have c3b1:decide (a0.size < 1)=true:=decide_eq_true (by omega)
    clear c3
    (first|rw [c3b0]|(simp only [i64_w,i32_w];rw [c3b0])|skip)
    have H':=Aside0.mk H
    clear H
    go_wp2
    go_meet
    case rel=>exact ⟨_,(true),(by first|rfl|(simp;done)|(simp [*];done)),H',⟨by first|omega|exact Nat.le_refl _⟩,by repeat (first|exact Drawn0.refl _|apply Drawn0.step)⟩
  · rw [if_neg c3] at H
    have c3b0:decide ((a0.size:Int) < 1)=false:=decide_eq_false c3
    have c3b1:decide (a0.size < 1)=false:=decide_eq_false (by omega)
    clear c3
    (first|rw [c3b0]|(simp only [i64_w,i32_w];rw [c3b0])|skip)
    have H':=Aside0.mk H
    clear H
    go_wp2
    go_meet
    case rel=>exact ⟨_,(decide ((a0.size:Int) > 9)),(by first|rfl|(simp;done)|(simp [*];done)),H',⟨by first|omega|exact Nat.le_refl _⟩,by repeat (first|exact Drawn0.refl _|apply Drawn0.step)⟩
 case rest=>
  clear HC2
  try clear p2
  try clear c3
  try clear c3b0
  try clear c3b1
  obtain ⟨kq,x12_1,rfl,HA,HJ1,⟨mc1,rfl⟩⟩:=hcut
  cases kq with
  | zero=>exact absurd HA.out (by simp [agoraref27_digits.j0])
  | succ kj1=>
   have H:=HA.out
   clear HA
   simp only [agoraref27_digits.j0] at H
   by_cases c4:x12_1=true
   · subst c4
     have H1:(some (-1))=some r:=by rw [if_pos rfl] at H;exact H
     clear H
     have H:=H1
     clear H1
     obtain rfl:=Option.some.inj H
     go_wp2
     go_ret
     exact ⟨by first|rfl|(simp;done)|(simp [*];done),by repeat (first|exact Drawn0.refl _|apply Drawn0.step)⟩
   · replace c4:=Bool.eq_false_iff.mpr c4
     subst c4
     have H1:(agoraref27_digits.l0 kj1 a0 0 0)=some r:=by rw [if_neg (show ¬ (false=true) by decide)] at H;exact H
     clear H
     have H:=H1
     clear H1
     have H':=Aside0.mk H
     clear H
     go_wp2
     go_loopg [3,4] kj1 (fun kq v3 v4 w'=>∃ (x3_2:Int) (x4_2:Int),v3=.int .i64 x3_2∧v4=.int .i64 x4_2∧Aside0 (agoraref27_digits.l0 kq a0 x3_2 x4_2=some r)∧Aside0 (kq≤kj1)∧Drawn0 w w')
     case atStart=>exact ⟨(0),(0),(by first|rfl|(simp;done)|(simp [*];done)),(by first|rfl|(simp;done)|(simp [*];done)),H',⟨Nat.le_refl _⟩,by repeat (first|exact Drawn0.refl _|apply Drawn0.step)⟩
     case round=>
      clear H'
      try clear c1
      try clear p2
      try clear c3
      try clear c3b0
      try clear c3b1
      try clear c4
      try clear p2
      obtain ⟨x3_2,x4_2,rfl,rfl,HA,HK2,⟨m2,rfl⟩⟩:=hrel
      cases gk with
      | zero=>exact absurd HA.out (by simp [agoraref27_digits.l0])
      | succ k2=>
       have H:=HA.out
       clear HA
       simp only [agoraref27_digits.l0] at H
       by_cases c5:x4_2 < (a0.size:Int)
       · rw [if_pos c5] at H
         have c5b0:decide (x4_2 < (a0.size:Int))=true:=decide_eq_true c5
         clear c5
         by_cases c6:0≤x4_2
         · rw [if_pos c6] at H
           have c6b0:decide (0≤x4_2)=true:=decide_eq_true c6
           clear c6
           by_cases c8:(bt a0 x4_2) < 48
           · rw [if_pos c8] at H
             have c8b0:decide ((bt a0 x4_2) < 48)=true:=decide_eq_true c8
             clear c8
             obtain rfl:=Option.some.inj H
             have p7:0≤(x4_2:Int):=of_decide_eq_true (by first|(with_reducible assumption)|assumption)
             have q7:x4_2 < (a0.size:Int):=of_decide_eq_true (by first|(with_reducible assumption)|assumption)
             have hx7:=bt_at a0 x4_2
             replace p7:=eq_true p7
             replace q7:=eq_true q7
             go_wp2
             go_ret
             exact ⟨by first|rfl|(simp;done)|(simp [*];done),by repeat (first|exact Drawn0.refl _|apply Drawn0.step)⟩
           · rw [if_neg c8] at H
             have c8b0:decide ((bt a0 x4_2) < 48)=false:=decide_eq_false c8
             clear c8
             by_cases c10:(bt a0 x4_2) > 57
             · rw [if_pos c10] at H
               have c10b0:decide (57 < (bt a0 x4_2))=true:=decide_eq_true c10
               clear c10
               obtain rfl:=Option.some.inj H
               have p7:0≤(x4_2:Int):=of_decide_eq_true (by first|(with_reducible assumption)|assumption)
               have q7:x4_2 < (a0.size:Int):=of_decide_eq_true (by first|(with_reducible assumption)|assumption)
               have hx7:=bt_at a0 x4_2
               replace p7:=eq_true p7
               replace q7:=eq_true q7
               have p9:0≤(x4_2:Int):=of_decide_eq_true (by first|(with_reducible assumption)|assumption)
               have q9:x4_2 < (a0.size:Int):=of_decide_eq_true (by first|(with_reducible assumption)|assumption)
               have hx9:=bt_at a0 x4_2
               replace p9:=eq_true p9
               replace q9:=eq_true q9
               go_wp2
               go_ret
               exact ⟨by first|rfl|(simp;done)|(simp [*];done),by repeat (first|exact Drawn0.refl _|apply Drawn0.step)⟩
             · rw [if_neg c10] at H
               have c10b0:decide (57 < (bt a0 x4_2))=false:=decide_eq_false c10
               clear c10
               have H':=Aside0.mk H
               clear H
               have p7:0≤(x4_2:Int):=of_decide_eq_true (by first|(with_reducible assumption)|assumption)
               have q7:x4_2 < (a0.size:Int):=of_decide_eq_true (by first|(with_reducible assumption)|assumption)
               have hx7:=bt_at a0 x4_2
               replace p7:=eq_true p7
               replace q7:=eq_true q7
               have p9:0≤(x4_2:Int):=of_decide_eq_true (by first|(with_reducible assumption)|assumption)
               have q9:x4_2 < (a0.size:Int):=of_decide_eq_true (by first|(with_reducible assumption)|assumption)
               have hx9:=bt_at a0 x4_2
               replace p9:=eq_true p9
               replace q9:=eq_true q9
               have p11:0≤(x4_2:Int):=of_decide_eq_true (by first|(with_reducible assumption)|assumption)
               have q11:x4_2 < (a0.size:Int):=of_decide_eq_true (by first|(with_reducible assumption)|assumption)
               have hx11:=bt_at a0 x4_2
               replace p11:=eq_true p11
               replace q11:=eq_true q11
               go_wp2
               go_roundg k2
               case measure=>have:=HJ1.out;have:=HK2.out;omega
               case rel=>exact ⟨(wrap64 ((wrap64 (10 * x3_2))+(((bt a0 x4_2) - 48) % 256))),(wrap64 (x4_2+1)),(by first|rfl|(simp;done)|(simp [*];done)),(by first|rfl|(simp;done)|(simp [*];done)),H',⟨by have:=HJ1.out;have:=HK2.out;omega⟩,by repeat (first|exact Drawn0.refl _|apply Drawn0.step)⟩
         · rw [if_neg c6] at H
           exact absurd H (by simp)
       · rw [if_neg c5] at H
         have c5b0:decide (x4_2 < (a0.size:Int))=false:=decide_eq_false c5
         clear c5
         obtain rfl:=Option.some.inj H
         go_wp2
         go_ret
         exact ⟨by first|rfl|(simp;done)|(simp [*];done),by repeat (first|exact Drawn0.refl _|apply Drawn0.step)⟩
def agoraref27_members.f (k:Nat) (a0:ByteArray) (a1:Int):Option (Bool):=(agoraref27_after.f a0 (⟨#[61,61]⟩:ByteArray)).bind fun bt254=>(if bt254.2=true then ((agoraref27_digits.f k bt254.1).bind fun t256=>(if t256≥0 then ((agoraref27_digits.f k bt254.1).bind fun t257=>(some (a1==t257))) else (some false))) else ((agoraref27_after.f a0 (⟨#[60,61]⟩:ByteArray)).bind fun bt258=>(if bt258.2=true then ((agoraref27_digits.f k bt258.1).bind fun t260=>(if t260≥0 then ((agoraref27_digits.f k bt258.1).bind fun t261=>(some (decide (a1≤t261)))) else (some false))) else ((agoraref27_after.f a0 (⟨#[62,61]⟩:ByteArray)).bind fun bt262=>(if bt262.2=true then ((agoraref27_digits.f k bt262.1).bind fun t264=>(if t264≥0 then ((agoraref27_digits.f k bt262.1).bind fun t265=>(some (decide (a1≥t265)))) else (some false))) else ((agoraref27_after.f a0 (⟨#[60]⟩:ByteArray)).bind fun bt266=>(if bt266.2=true then ((agoraref27_digits.f k bt266.1).bind fun t268=>(if t268≥0 then ((agoraref27_digits.f k bt266.1).bind fun t269=>(some (decide (a1 < t269)))) else (some false))) else ((agoraref27_after.f a0 (⟨#[62]⟩:ByteArray)).bind fun bt270=>(if bt270.2=true then ((agoraref27_digits.f k bt270.1).bind fun t272=>(if t272≥0 then ((agoraref27_digits.f k bt270.1).bind fun t273=>(some (decide (a1 > t273)))) else (some false))) else ((agoraref27_digits.f k a0).bind fun t274=>(if t274≥0 then ((agoraref27_digits.f k a0).bind fun t275=>(some (a1==t275))) else (some false))))))))))))
set_option maxHeartbeats 8000000 in
set_option maxRecDepth 100000 in
theorem agoraref27_members.calls (k:Nat) (a0:ByteArray) (a1:Int) (r:Bool) (w:World) (h:agoraref27_members.f k a0 a1=some r) :
 Calls Tryz.prog 32 #[.string a0,.int .i64 a1] w fun e w'=>e=.returned (.bool r)∧Drawn0 w w':=by
 have H:((agoraref27_after.f a0 (⟨#[61,61]⟩:ByteArray)).bind fun bt254=>(if bt254.2=true then ((agoraref27_digits.f k bt254.1).bind fun t256=>(if t256≥0 then ((agoraref27_digits.f k bt254.1).bind fun t257=>(some (a1==t257))) else (some false))) else ((agoraref27_after.f a0 (⟨#[60,61]⟩:ByteArray)).bind fun bt258=>(if bt258.2=true then ((agoraref27_digits.f k bt258.1).bind fun t260=>(if t260≥0 then ((agoraref27_digits.f k bt258.1).bind fun t261=>(some (decide (a1≤t261)))) else (some false))) else ((agoraref27_after.f a0 (⟨#[62,61]⟩:ByteArray)).bind fun bt262=>(if bt262.2=true then ((agoraref27_digits.f k bt262.1).bind fun t264=>(if t264≥0 then ((agoraref27_digits.f k bt262.1).bind fun t265=>(some (decide (a1≥t265)))) else (some false))) else ((agoraref27_after.f a0 (⟨#[60]⟩:ByteArray)).bind fun bt266=>(if bt266.2=true then ((agoraref27_digits.f k bt266.1).bind fun t268=>(if t268≥0 then ((agoraref27_digits.f k bt266.1).bind fun t269=>(some (decide (a1 < t269)))) else (some false))) else ((agoraref27_after.f a0 (⟨#[62]⟩:ByteArray)).bind fun bt270=>(if bt270.2=true then ((agoraref27_digits.f k bt270.1).bind fun t272=>(if t272≥0 then ((agoraref27_digits.f k bt270.1).bind fun t273=>(some (decide (a1 > t273)))) else (some false))) else ((agoraref27_digits.f k a0).bind fun t274=>(if t274≥0 then ((agoraref27_digits.f k a0).bind fun t275=>(some (a1==t275))) else (some false)))))))))))))=some r:=h
 clear h
 replace H:=Option.bind_eq_some_iff.mp H
 obtain ⟨⟨t254,t255⟩,A30,H⟩:=H
 replace H:(if t255=true then ((agoraref27_digits.f k t254).bind fun t256=>(if t256≥0 then ((agoraref27_digits.f k t254).bind fun t257=>(some (a1==t257))) else (some false))) else ((agoraref27_after.f a0 (⟨#[60,61]⟩:ByteArray)).bind fun bt258=>(if bt258.2=true then ((agoraref27_digits.f k bt258.1).bind fun t260=>(if t260≥0 then ((agoraref27_digits.f k bt258.1).bind fun t261=>(some (decide (a1≤t261)))) else (some false))) else ((agoraref27_after.f a0 (⟨#[62,61]⟩:ByteArray)).bind fun bt262=>(if bt262.2=true then ((agoraref27_digits.f k bt262.1).bind fun t264=>(if t264≥0 then ((agoraref27_digits.f k bt262.1).bind fun t265=>(some (decide (a1≥t265)))) else (some false))) else ((agoraref27_after.f a0 (⟨#[60]⟩:ByteArray)).bind fun bt266=>(if bt266.2=true then ((agoraref27_digits.f k bt266.1).bind fun t268=>(if t268≥0 then ((agoraref27_digits.f k bt266.1).bind fun t269=>(some (decide (a1 < t269)))) else (some false))) else ((agoraref27_after.f a0 (⟨#[62]⟩:ByteArray)).bind fun bt270=>(if bt270.2=true then ((agoraref27_digits.f k bt270.1).bind fun t272=>(if t272≥0 then ((agoraref27_digits.f k bt270.1).bind fun t273=>(some (decide (a1 > t273)))) else (some false))) else ((agoraref27_digits.f k a0).bind fun t274=>(if t274≥0 then ((agoraref27_digits.f k a0).bind fun t275=>(some (a1==t275))) else (some false))))))))))))=some r:=H
 have A3:=Aside0.mk A30
 clear A30
 by_cases c4:t255=true
 · subst c4
   have H1:((agoraref27_digits.f k t254).bind fun t256=>(if t256≥0 then ((agoraref27_digits.f k t254).bind fun t257=>(some (a1==t257))) else (some false)))=some r:=by rw [if_pos rfl] at H;exact H
   clear H
   have H:=H1
   clear H1
   replace H:=Option.bind_eq_some_iff.mp H
   obtain ⟨t256,A50,H⟩:=H
   replace H:(if t256≥0 then ((agoraref27_digits.f k t254).bind fun t257=>(some (a1==t257))) else (some false))=some r:=H
   have A5:=Aside0.mk A50
   clear A50
   by_cases c6:t256≥0
   · rw [if_pos c6] at H
     have c6b0:decide (0≤t256)=true:=decide_eq_true c6
     clear c6
     replace H:=Option.bind_eq_some_iff.mp H
     obtain ⟨t257,A70,H⟩:=H
     replace H:(some (a1==t257))=some r:=H
     have A7:=Aside0.mk A70
     clear A70
     obtain rfl:=Option.some.inj H
     go_enter Tryz.func32,Tryz.ntmps32
     go_wp2_with (first|((with_reducible refine gate_callee (f:=66) rfl ?_);refine goesL_ (some 9) rfl rfl Tryz.func66 (by kernel_rfl) rfl #[.string a0,.string (⟨#[61,61]⟩:ByteArray)] rfl (by (try simp only [List.map_toArray,List.map_cons,List.map_nil]);first|done|rfl|(simp only [List.length_drop,List.length_take];rfl)) ?_;(with_reducible refine (agoraref27_after.calls a0 (⟨#[61,61]⟩:ByteArray) t254 true _ A3.out).mono ?_);rintro e w' ⟨rfl,⟨nd,rfl⟩⟩;refine ⟨_,rfl,?_⟩)|((with_reducible refine gate_callee (f:=67) rfl ?_);refine goesL_ (some 14) rfl rfl Tryz.func67 (by kernel_rfl) rfl #[.string t254] rfl (by (try simp only [List.map_toArray,List.map_cons,List.map_nil]);first|done|rfl|(simp only [List.length_drop,List.length_take];rfl)) ?_;(with_reducible refine (agoraref27_digits.calls k t254 t256 _ A5.out).mono ?_);rintro e w' ⟨rfl,⟨nd,rfl⟩⟩;refine ⟨_,rfl,?_⟩)|(go_at_call 67;(with_reducible refine (agoraref27_digits.calls k t254 t257 _ A7.out).mono ?_);rintro e w' ⟨rfl,⟨nd,rfl⟩⟩))
     go_ret
     exact ⟨by first|rfl|(simp;done)|(simp [*];done),by repeat (first|exact Drawn0.refl _|apply Drawn0.step)⟩
   · rw [if_neg c6] at H
     have c6b0:decide (0≤t256)=false:=decide_eq_false c6
     clear c6
     obtain rfl:=Option.some.inj H
     go_enter Tryz.func32,Tryz.ntmps32
     go_wp2_with (first|((with_reducible refine gate_callee (f:=66) rfl ?_);refine goesL_ (some 9) rfl rfl Tryz.func66 (by kernel_rfl) rfl #[.string a0,.string (⟨#[61,61]⟩:ByteArray)] rfl (by (try simp only [List.map_toArray,List.map_cons,List.map_nil]);first|done|rfl|(simp only [List.length_drop,List.length_take];rfl)) ?_;(with_reducible refine (agoraref27_after.calls a0 (⟨#[61,61]⟩:ByteArray) t254 true _ A3.out).mono ?_);rintro e w' ⟨rfl,⟨nd,rfl⟩⟩;refine ⟨_,rfl,?_⟩)|((with_reducible refine gate_callee (f:=67) rfl ?_);refine goesL_ (some 14) rfl rfl Tryz.func67 (by kernel_rfl) rfl #[.string t254] rfl (by (try simp only [List.map_toArray,List.map_cons,List.map_nil]);first|done|rfl|(simp only [List.length_drop,List.length_take];rfl)) ?_;(with_reducible refine (agoraref27_digits.calls k t254 t256 _ A5.out).mono ?_);rintro e w' ⟨rfl,⟨nd,rfl⟩⟩;refine ⟨_,rfl,?_⟩))
     go_ret
     exact ⟨by first|rfl|(simp;done)|(simp [*];done),by repeat (first|exact Drawn0.refl _|apply Drawn0.step)⟩
 · replace c4:=Bool.eq_false_iff.mpr c4
   subst c4
   have H1:((agoraref27_after.f a0 (⟨#[60,61]⟩:ByteArray)).bind fun bt258=>(if bt258.2=true then ((agoraref27_digits.f k bt258.1).bind fun t260=>(if t260≥0 then ((agoraref27_digits.f k bt258.1).bind fun t261=>(some (decide (a1≤t261)))) else (some false))) else ((agoraref27_after.f a0 (⟨#[62,61]⟩:ByteArray)).bind fun bt262=>(if bt262.2=true then ((agoraref27_digits.f k bt262.1).bind fun t264=>(if t264≥0 then ((agoraref27_digits.f k bt262.1).bind fun t265=>(some (decide (a1≥t265)))) else (some false))) else ((agoraref27_after.f a0 (⟨#[60]⟩:ByteArray)).bind fun bt266=>(if bt266.2=true then ((agoraref27_digits.f k bt266.1).bind fun t268=>(if t268≥0 then ((agoraref27_digits.f k bt266.1).bind fun t269=>(some (decide (a1 < t269)))) else (some false))) else ((agoraref27_after.f a0 (⟨#[62]⟩:ByteArray)).bind fun bt270=>(if bt270.2=true then ((agoraref27_digits.f k bt270.1).bind fun t272=>(if t272≥0 then ((agoraref27_digits.f k bt270.1).bind fun t273=>(some (decide (a1 > t273)))) else (some false))) else ((agoraref27_digits.f k a0).bind fun t274=>(if t274≥0 then ((agoraref27_digits.f k a0).bind fun t275=>(some (a1==t275))) else (some false)))))))))))=some r:=by rw [if_neg (show ¬ (false=true) by decide)] at H;exact H
   clear H
   have H:=H1
   clear H1
   replace H:=Option.bind_eq_some_iff.mp H
   obtain ⟨⟨t258,t259⟩,A80,H⟩:=H
   replace H:(if t259=true then ((agoraref27_digits.f k t258).bind fun t260=>(if t260≥0 then ((agoraref27_digits.f k t258).bind fun t261=>(some (decide (a1≤t261)))) else (some false))) else ((agoraref27_after.f a0 (⟨#[62,61]⟩:ByteArray)).bind fun bt262=>(if bt262.2=true then ((agoraref27_digits.f k bt262.1).bind fun t264=>(if t264≥0 then ((agoraref27_digits.f k bt262.1).bind fun t265=>(some (decide (a1≥t265)))) else (some false))) else ((agoraref27_after.f a0 (⟨#[60]⟩:ByteArray)).bind fun bt266=>(if bt266.2=true then ((agoraref27_digits.f k bt266.1).bind fun t268=>(if t268≥0 then ((agoraref27_digits.f k bt266.1).bind fun t269=>(some (decide (a1 < t269)))) else (some false))) else ((agoraref27_after.f a0 (⟨#[62]⟩:ByteArray)).bind fun bt270=>(if bt270.2=true then ((agoraref27_digits.f k bt270.1).bind fun t272=>(if t272≥0 then ((agoraref27_digits.f k bt270.1).bind fun t273=>(some (decide (a1 > t273)))) else (some false))) else ((agoraref27_digits.f k a0).bind fun t274=>(if t274≥0 then ((agoraref27_digits.f k a0).bind fun t275=>(some (a1==t275))) else (some false))))))))))=some r:=H
   have A8:=Aside0.mk A80
   clear A80
   by_cases c9:t259=true
   · subst c9
     have H1:((agoraref27_digits.f k t258).bind fun t260=>(if t260≥0 then ((agoraref27_digits.f k t258).bind fun t261=>(some (decide (a1≤t261)))) else (some false)))=some r:=by rw [if_pos rfl] at H;exact H
     clear H
     have H:=H1
     clear H1
     replace H:=Option.bind_eq_some_iff.mp H
     obtain ⟨t260,A100,H⟩:=H
     replace H:(if t260≥0 then ((agoraref27_digits.f k t258).bind fun t261=>(some (decide (a1≤t261)))) else (some false))=some r:=H
     have A10:=Aside0.mk A100
     clear A100
     by_cases c11:t260≥0
     · rw [if_pos c11] at H
       have c11b0:decide (0≤t260)=true:=decide_eq_true c11
       clear c11
       replace H:=Option.bind_eq_some_iff.mp H
       obtain ⟨t261,A120,H⟩:=H
       replace H:(some (decide (a1≤t261)))=some r:=H
       have A12:=Aside0.mk A120
       clear A120
       obtain rfl:=Option.some.inj H
       go_enter Tryz.func32,Tryz.ntmps32
       go_wp2_with (first|((with_reducible refine gate_callee (f:=66) rfl ?_);refine goesL_ (some 9) rfl rfl Tryz.func66 (by kernel_rfl) rfl #[.string a0,.string (⟨#[61,61]⟩:ByteArray)] rfl (by (try simp only [List.map_toArray,List.map_cons,List.map_nil]);first|done|rfl|(simp only [List.length_drop,List.length_take];rfl)) ?_;(with_reducible refine (agoraref27_after.calls a0 (⟨#[61,61]⟩:ByteArray) t254 false _ A3.out).mono ?_);rintro e w' ⟨rfl,⟨nd,rfl⟩⟩;refine ⟨_,rfl,?_⟩)|((with_reducible refine gate_callee (f:=66) rfl ?_);refine goesL_ (some 24) rfl rfl Tryz.func66 (by kernel_rfl) rfl #[.string a0,.string (⟨#[60,61]⟩:ByteArray)] rfl (by (try simp only [List.map_toArray,List.map_cons,List.map_nil]);first|done|rfl|(simp only [List.length_drop,List.length_take];rfl)) ?_;(with_reducible refine (agoraref27_after.calls a0 (⟨#[60,61]⟩:ByteArray) t258 true _ A8.out).mono ?_);rintro e w' ⟨rfl,⟨nd,rfl⟩⟩;refine ⟨_,rfl,?_⟩)|((with_reducible refine gate_callee (f:=67) rfl ?_);refine goesL_ (some 29) rfl rfl Tryz.func67 (by kernel_rfl) rfl #[.string t258] rfl (by (try simp only [List.map_toArray,List.map_cons,List.map_nil]);first|done|rfl|(simp only [List.length_drop,List.length_take];rfl)) ?_;(with_reducible refine (agoraref27_digits.calls k t258 t260 _ A10.out).mono ?_);rintro e w' ⟨rfl,⟨nd,rfl⟩⟩;refine ⟨_,rfl,?_⟩)|(go_at_call 67;(with_reducible refine (agoraref27_digits.calls k t258 t261 _ A12.out).mono ?_);rintro e w' ⟨rfl,⟨nd,rfl⟩⟩))
       go_ret
       exact ⟨by first|rfl|(simp;done)|(simp [*];done),by repeat (first|exact Drawn0.refl _|apply Drawn0.step)⟩
     · rw [if_neg c11] at H
       have c11b0:decide (0≤t260)=false:=decide_eq_false c11
       clear c11
       obtain rfl:=Option.some.inj H
       go_enter Tryz.func32,Tryz.ntmps32
       go_wp2_with (first|((with_reducible refine gate_callee (f:=66) rfl ?_);refine goesL_ (some 9) rfl rfl Tryz.func66 (by kernel_rfl) rfl #[.string a0,.string (⟨#[61,61]⟩:ByteArray)] rfl (by (try simp only [List.map_toArray,List.map_cons,List.map_nil]);first|done|rfl|(simp only [List.length_drop,List.length_take];rfl)) ?_;(with_reducible refine (agoraref27_after.calls a0 (⟨#[61,61]⟩:ByteArray) t254 false _ A3.out).mono ?_);rintro e w' ⟨rfl,⟨nd,rfl⟩⟩;refine ⟨_,rfl,?_⟩)|((with_reducible refine gate_callee (f:=66) rfl ?_);refine goesL_ (some 24) rfl rfl Tryz.func66 (by kernel_rfl) rfl #[.string a0,.string (⟨#[60,61]⟩:ByteArray)] rfl (by (try simp only [List.map_toArray,List.map_cons,List.map_nil]);first|done|rfl|(simp only [List.length_drop,List.length_take];rfl)) ?_;(with_reducible refine (agoraref27_after.calls a0 (⟨#[60,61]⟩:ByteArray) t258 true _ A8.out).mono ?_);rintro e w' ⟨rfl,⟨nd,rfl⟩⟩;refine ⟨_,rfl,?_⟩)|((with_reducible refine gate_callee (f:=67) rfl ?_);refine goesL_ (some 29) rfl rfl Tryz.func67 (by kernel_rfl) rfl #[.string t258] rfl (by (try simp only [List.map_toArray,List.map_cons,List.map_nil]);first|done|rfl|(simp only [List.length_drop,List.length_take];rfl)) ?_;(with_reducible refine (agoraref27_digits.calls k t258 t260 _ A10.out).mono ?_);rintro e w' ⟨rfl,⟨nd,rfl⟩⟩;refine ⟨_,rfl,?_⟩))
       go_ret
       exact ⟨by first|rfl|(simp;done)|(simp [*];done),by repeat (first|exact Drawn0.refl _|apply Drawn0.step)⟩
   · replace c9:=Bool.eq_false_iff.mpr c9
     subst c9
     have H1:((agoraref27_after.f a0 (⟨#[62,61]⟩:ByteArray)).bind fun bt262=>(if bt262.2=true then ((agoraref27_digits.f k bt262.1).bind fun t264=>(if t264≥0 then ((agoraref27_digits.f k bt262.1).bind fun t265=>(some (decide (a1≥t265)))) else (some false))) else ((agoraref27_after.f a0 (⟨#[60]⟩:ByteArray)).bind fun bt266=>(if bt266.2=true then ((agoraref27_digits.f k bt266.1).bind fun t268=>(if t268≥0 then ((agoraref27_digits.f k bt266.1).bind fun t269=>(some (decide (a1 < t269)))) else (some false))) else ((agoraref27_after.f a0 (⟨#[62]⟩:ByteArray)).bind fun bt270=>(if bt270.2=true then ((agoraref27_digits.f k bt270.1).bind fun t272=>(if t272≥0 then ((agoraref27_digits.f k bt270.1).bind fun t273=>(some (decide (a1 > t273)))) else (some false))) else ((agoraref27_digits.f k a0).bind fun t274=>(if t274≥0 then ((agoraref27_digits.f k a0).bind fun t275=>(some (a1==t275))) else (some false)))))))))=some r:=by rw [if_neg (show ¬ (false=true) by decide)] at H;exact H
     clear H
     have H:=H1
     clear H1
     replace H:=Option.bind_eq_some_iff.mp H
     obtain ⟨⟨t262,t263⟩,A130,H⟩:=H
     replace H:(if t263=true then ((agoraref27_digits.f k t262).bind fun t264=>(if t264≥0 then ((agoraref27_digits.f k t262).bind fun t265=>(some (decide (a1≥t265)))) else (some false))) else ((agoraref27_after.f a0 (⟨#[60]⟩:ByteArray)).bind fun bt266=>(if bt266.2=true then ((agoraref27_digits.f k bt266.1).bind fun t268=>(if t268≥0 then ((agoraref27_digits.f k bt266.1).bind fun t269=>(some (decide (a1 < t269)))) else (some false))) else ((agoraref27_after.f a0 (⟨#[62]⟩:ByteArray)).bind fun bt270=>(if bt270.2=true then ((agoraref27_digits.f k bt270.1).bind fun t272=>(if t272≥0 then ((agoraref27_digits.f k bt270.1).bind fun t273=>(some (decide (a1 > t273)))) else (some false))) else ((agoraref27_digits.f k a0).bind fun t274=>(if t274≥0 then ((agoraref27_digits.f k a0).bind fun t275=>(some (a1==t275))) else (some false))))))))=some r:=H
     have A13:=Aside0.mk A130
     clear A130
     by_cases c14:t263=true
     · subst c14
       have H1:((agoraref27_digits.f k t262).bind fun t264=>(if t264≥0 then ((agoraref27_digits.f k t262).bind fun t265=>(some (decide (a1≥t265)))) else (some false)))=some r:=by rw [if_pos rfl] at H;exact H
       clear H
       have H:=H1
       clear H1
       replace H:=Option.bind_eq_some_iff.mp H
       obtain ⟨t264,A150,H⟩:=H
       replace H:(if t264≥0 then ((agoraref27_digits.f k t262).bind fun t265=>(some (decide (a1≥t265)))) else (some false))=some r:=H
       have A15:=Aside0.mk A150
       clear A150
       by_cases c16:t264≥0
       · rw [if_pos c16] at H
         have c16b0:decide (0≤t264)=true:=decide_eq_true c16
         clear c16
         replace H:=Option.bind_eq_some_iff.mp H
         obtain ⟨t265,A170,H⟩:=H
         replace H:(some (decide (a1≥t265)))=some r:=H
         have A17:=Aside0.mk A170
         clear A170
         obtain rfl:=Option.some.inj H
         go_enter Tryz.func32,Tryz.ntmps32
         go_wp2_with (first|((with_reducible refine gate_callee (f:=66) rfl ?_);refine goesL_ (some 9) rfl rfl Tryz.func66 (by kernel_rfl) rfl #[.string a0,.string (⟨#[61,61]⟩:ByteArray)] rfl (by (try simp only [List.map_toArray,List.map_cons,List.map_nil]);first|done|rfl|(simp only [List.length_drop,List.length_take];rfl)) ?_;(with_reducible refine (agoraref27_after.calls a0 (⟨#[61,61]⟩:ByteArray) t254 false _ A3.out).mono ?_);rintro e w' ⟨rfl,⟨nd,rfl⟩⟩;refine ⟨_,rfl,?_⟩)|((with_reducible refine gate_callee (f:=66) rfl ?_);refine goesL_ (some 24) rfl rfl Tryz.func66 (by kernel_rfl) rfl #[.string a0,.string (⟨#[60,61]⟩:ByteArray)] rfl (by (try simp only [List.map_toArray,List.map_cons,List.map_nil]);first|done|rfl|(simp only [List.length_drop,List.length_take];rfl)) ?_;(with_reducible refine (agoraref27_after.calls a0 (⟨#[60,61]⟩:ByteArray) t258 false _ A8.out).mono ?_);rintro e w' ⟨rfl,⟨nd,rfl⟩⟩;refine ⟨_,rfl,?_⟩)|((with_reducible refine gate_callee (f:=66) rfl ?_);refine goesL_ (some 39) rfl rfl Tryz.func66 (by kernel_rfl) rfl #[.string a0,.string (⟨#[62,61]⟩:ByteArray)] rfl (by (try simp only [List.map_toArray,List.map_cons,List.map_nil]);first|done|rfl|(simp only [List.length_drop,List.length_take];rfl)) ?_;(with_reducible refine (agoraref27_after.calls a0 (⟨#[62,61]⟩:ByteArray) t262 true _ A13.out).mono ?_);rintro e w' ⟨rfl,⟨nd,rfl⟩⟩;refine ⟨_,rfl,?_⟩)|((with_reducible refine gate_callee (f:=67) rfl ?_);refine goesL_ (some 44) rfl rfl Tryz.func67 (by kernel_rfl) rfl #[.string t262] rfl (by (try simp only [List.map_toArray,List.map_cons,List.map_nil]);first|done|rfl|(simp only [List.length_drop,List.length_take];rfl)) ?_;(with_reducible refine (agoraref27_digits.calls k t262 t264 _ A15.out).mono ?_);rintro e w' ⟨rfl,⟨nd,rfl⟩⟩;refine ⟨_,rfl,?_⟩)|(go_at_call 67;(with_reducible refine (agoraref27_digits.calls k t262 t265 _ A17.out).mono ?_);rintro e w' ⟨rfl,⟨nd,rfl⟩⟩))
         go_ret
         exact ⟨by first|rfl|(simp;done)|(simp [*];done),by repeat (first|exact Drawn0.refl _|apply Drawn0.step)⟩
       · rw [if_neg c16] at H
         have c16b0:decide (0≤t264)=false:=decide_eq_false c16
         clear c16
         obtain rfl:=Option.some.inj H
         go_enter Tryz.func32,Tryz.ntmps32
         go_wp2_with (first|((with_reducible refine gate_callee (f:=66) rfl ?_);refine goesL_ (some 9) rfl rfl Tryz.func66 (by kernel_rfl) rfl #[.string a0,.string (⟨#[61,61]⟩:ByteArray)] rfl (by (try simp only [List.map_toArray,List.map_cons,List.map_nil]);first|done|rfl|(simp only [List.length_drop,List.length_take];rfl)) ?_;(with_reducible refine (agoraref27_after.calls a0 (⟨#[61,61]⟩:ByteArray) t254 false _ A3.out).mono ?_);rintro e w' ⟨rfl,⟨nd,rfl⟩⟩;refine ⟨_,rfl,?_⟩)|((with_reducible refine gate_callee (f:=66) rfl ?_);refine goesL_ (some 24) rfl rfl Tryz.func66 (by kernel_rfl) rfl #[.string a0,.string (⟨#[60,61]⟩:ByteArray)] rfl (by (try simp only [List.map_toArray,List.map_cons,List.map_nil]);first|done|rfl|(simp only [List.length_drop,List.length_take];rfl)) ?_;(with_reducible refine (agoraref27_after.calls a0 (⟨#[60,61]⟩:ByteArray) t258 false _ A8.out).mono ?_);rintro e w' ⟨rfl,⟨nd,rfl⟩⟩;refine ⟨_,rfl,?_⟩)|((with_reducible refine gate_callee (f:=66) rfl ?_);refine goesL_ (some 39) rfl rfl Tryz.func66 (by kernel_rfl) rfl #[.string a0,.string (⟨#[62,61]⟩:ByteArray)] rfl (by (try simp only [List.map_toArray,List.map_cons,List.map_nil]);first|done|rfl|(simp only [List.length_drop,List.length_take];rfl)) ?_;(with_reducible refine (agoraref27_after.calls a0 (⟨#[62,61]⟩:ByteArray) t262 true _ A13.out).mono ?_);rintro e w' ⟨rfl,⟨nd,rfl⟩⟩;refine ⟨_,rfl,?_⟩)|((with_reducible refine gate_callee (f:=67) rfl ?_);refine goesL_ (some 44) rfl rfl Tryz.func67 (by kernel_rfl) rfl #[.string t262] rfl (by (try simp only [List.map_toArray,List.map_cons,List.map_nil]);first|done|rfl|(simp only [List.length_drop,List.length_take];rfl)) ?_;(with_reducible refine (agoraref27_digits.calls k t262 t264 _ A15.out).mono ?_);rintro e w' ⟨rfl,⟨nd,rfl⟩⟩;refine ⟨_,rfl,?_⟩))
         go_ret
         exact ⟨by first|rfl|(simp;done)|(simp [*];done),by repeat (first|exact Drawn0.refl _|apply Drawn0.step)⟩
     · replace c14:=Bool.eq_false_iff.mpr c14
       subst c14
       have H1:((agoraref27_after.f a0 (⟨#[60]⟩:ByteArray)).bind fun bt266=>(if bt266.2=true then ((agoraref27_digits.f k bt266.1).bind fun t268=>(if t268≥0 then ((agoraref27_digits.f k bt266.1).bind fun t269=>(some (decide (a1 < t269)))) else (some false))) else ((agoraref27_after.f a0 (⟨#[62]⟩:ByteArray)).bind fun bt270=>(if bt270.2=true then ((agoraref27_digits.f k bt270.1).bind fun t272=>(if t272≥0 then ((agoraref27_digits.f k bt270.1).bind fun t273=>(some (decide (a1 > t273)))) else (some false))) else ((agoraref27_digits.f k a0).bind fun t274=>(if t274≥0 then ((agoraref27_digits.f k a0).bind fun t275=>(some (a1==t275))) else (some false)))))))=some r:=by rw [if_neg (show ¬ (false=true) by decide)] at H;exact H
       clear H
       have H:=H1
       clear H1
       replace H:=Option.bind_eq_some_iff.mp H
       obtain ⟨⟨t266,t267⟩,A180,H⟩:=H
       replace H:(if t267=true then ((agoraref27_digits.f k t266).bind fun t268=>(if t268≥0 then ((agoraref27_digits.f k t266).bind fun t269=>(some (decide (a1 < t269)))) else (some false))) else ((agoraref27_after.f a0 (⟨#[62]⟩:ByteArray)).bind fun bt270=>(if bt270.2=true then ((agoraref27_digits.f k bt270.1).bind fun t272=>(if t272≥0 then ((agoraref27_digits.f k bt270.1).bind fun t273=>(some (decide (a1 > t273)))) else (some false))) else ((agoraref27_digits.f k a0).bind fun t274=>(if t274≥0 then ((agoraref27_digits.f k a0).bind fun t275=>(some (a1==t275))) else (some false))))))=some r:=H
       have A18:=Aside0.mk A180
       clear A180
       by_cases c19:t267=true
       · subst c19
         have H1:((agoraref27_digits.f k t266).bind fun t268=>(if t268≥0 then ((agoraref27_digits.f k t266).bind fun t269=>(some (decide (a1 < t269)))) else (some false)))=some r:=by rw [if_pos rfl] at H;exact H
         clear H
         have H:=H1
         clear H1
         replace H:=Option.bind_eq_some_iff.mp H
         obtain ⟨t268,A200,H⟩:=H
         replace H:(if t268≥0 then ((agoraref27_digits.f k t266).bind fun t269=>(some (decide (a1 < t269)))) else (some false))=some r:=H
         have A20:=Aside0.mk A200
         clear A200
         by_cases c21:t268≥0
         · rw [if_pos c21] at H
           have c21b0:decide (0≤t268)=true:=decide_eq_true c21
           clear c21
           replace H:=Option.bind_eq_some_iff.mp H
           obtain ⟨t269,A220,H⟩:=H
           replace H:(some (decide (a1 < t269)))=some r:=H
           have A22:=Aside0.mk A220
           clear A220
           obtain rfl:=Option.some.inj H
           go_enter Tryz.func32,Tryz.ntmps32
           go_wp2_with (first|((with_reducible refine gate_callee (f:=66) rfl ?_);refine goesL_ (some 9) rfl rfl Tryz.func66 (by kernel_rfl) rfl #[.string a0,.string (⟨#[61,61]⟩:ByteArray)] rfl (by (try simp only [List.map_toArray,List.map_cons,List.map_nil]);first|done|rfl|(simp only [List.length_drop,List.length_take];rfl)) ?_;(with_reducible refine (agoraref27_after.calls a0 (⟨#[61,61]⟩:ByteArray) t254 false _ A3.out).mono ?_);rintro e w' ⟨rfl,⟨nd,rfl⟩⟩;refine ⟨_,rfl,?_⟩)|((with_reducible refine gate_callee (f:=66) rfl ?_);refine goesL_ (some 24) rfl rfl Tryz.func66 (by kernel_rfl) rfl #[.string a0,.string (⟨#[60,61]⟩:ByteArray)] rfl (by (try simp only [List.map_toArray,List.map_cons,List.map_nil]);first|done|rfl|(simp only [List.length_drop,List.length_take];rfl)) ?_;(with_reducible refine (agoraref27_after.calls a0 (⟨#[60,61]⟩:ByteArray) t258 false _ A8.out).mono ?_);rintro e w' ⟨rfl,⟨nd,rfl⟩⟩;refine ⟨_,rfl,?_⟩)|((with_reducible refine gate_callee (f:=66) rfl ?_);refine goesL_ (some 39) rfl rfl Tryz.func66 (by kernel_rfl) rfl #[.string a0,.string (⟨#[62,61]⟩:ByteArray)] rfl (by (try simp only [List.map_toArray,List.map_cons,List.map_nil]);first|done|rfl|(simp only [List.length_drop,List.length_take];rfl)) ?_;(with_reducible refine (agoraref27_after.calls a0 (⟨#[62,61]⟩:ByteArray) t262 false _ A13.out).mono ?_);rintro e w' ⟨rfl,⟨nd,rfl⟩⟩;refine ⟨_,rfl,?_⟩)|((with_reducible refine gate_callee (f:=66) rfl ?_);refine goesL_ (some 54) rfl rfl Tryz.func66 (by kernel_rfl) rfl #[.string a0,.string (⟨#[60]⟩:ByteArray)] rfl (by (try simp only [List.map_toArray,List.map_cons,List.map_nil]);first|done|rfl|(simp only [List.length_drop,List.length_take];rfl)) ?_;(with_reducible refine (agoraref27_after.calls a0 (⟨#[60]⟩:ByteArray) t266 true _ A18.out).mono ?_);rintro e w' ⟨rfl,⟨nd,rfl⟩⟩;refine ⟨_,rfl,?_⟩)|((with_reducible refine gate_callee (f:=67) rfl ?_);refine goesL_ (some 59) rfl rfl Tryz.func67 (by kernel_rfl) rfl #[.string t266] rfl (by (try simp only [List.map_toArray,List.map_cons,List.map_nil]);first|done|rfl|(simp only [List.length_drop,List.length_take];rfl)) ?_;(with_reducible refine (agoraref27_digits.calls k t266 t268 _ A20.out).mono ?_);rintro e w' ⟨rfl,⟨nd,rfl⟩⟩;refine ⟨_,rfl,?_⟩)|(go_at_call 67;(with_reducible refine (agoraref27_digits.calls k t266 t269 _ A22.out).mono ?_);rintro e w' ⟨rfl,⟨nd,rfl⟩⟩))
           go_ret
           exact ⟨by first|rfl|(simp;done)|(simp [*];done),by repeat (first|exact Drawn0.refl _|apply Drawn0.step)⟩
         · rw [if_neg c21] at H
           have c21b0:decide (0≤t268)=false:=decide_eq_false c21
           clear c21
           obtain rfl:=Option.some.inj H
           go_enter Tryz.func32,Tryz.ntmps32
           go_wp2_with (first|((with_reducible refine gate_callee (f:=66) rfl ?_);refine goesL_ (some 9) rfl rfl Tryz.func66 (by kernel_rfl) rfl #[.string a0,.string (⟨#[61,61]⟩:ByteArray)] rfl (by (try simp only [List.map_toArray,List.map_cons,List.map_nil]);first|done|rfl|(simp only [List.length_drop,List.length_take];rfl)) ?_;(with_reducible refine (agoraref27_after.calls a0 (⟨#[61,61]⟩:ByteArray) t254 false _ A3.out).mono ?_);rintro e w' ⟨rfl,⟨nd,rfl⟩⟩;refine ⟨_,rfl,?_⟩)|((with_reducible refine gate_callee (f:=66) rfl ?_);refine goesL_ (some 24) rfl rfl Tryz.func66 (by kernel_rfl) rfl #[.string a0,.string (⟨#[60,61]⟩:ByteArray)] rfl (by (try simp only [List.map_toArray,List.map_cons,List.map_nil]);first|done|rfl|(simp only [List.length_drop,List.length_take];rfl)) ?_;(with_reducible refine (agoraref27_after.calls a0 (⟨#[60,61]⟩:ByteArray) t258 false _ A8.out).mono ?_);rintro e w' ⟨rfl,⟨nd,rfl⟩⟩;refine ⟨_,rfl,?_⟩)|((with_reducible refine gate_callee (f:=66) rfl ?_);refine goesL_ (some 39) rfl rfl Tryz.func66 (by kernel_rfl) rfl #[.string a0,.string (⟨#[62,61]⟩:ByteArray)] rfl (by (try simp only [List.map_toArray,List.map_cons,List.map_nil]);first|done|rfl|(simp only [List.length_drop,List.length_take];rfl)) ?_;(with_reducible refine (agoraref27_after.calls a0 (⟨#[62,61]⟩:ByteArray) t262 false _ A13.out).mono ?_);rintro e w' ⟨rfl,⟨nd,rfl⟩⟩;refine ⟨_,rfl,?_⟩)|((with_reducible refine gate_callee (f:=66) rfl ?_);refine goesL_ (some 54) rfl rfl Tryz.func66 (by kernel_rfl) rfl #[.string a0,.string (⟨#[60]⟩:ByteArray)] rfl (by (try simp only [List.map_toArray,List.map_cons,List.map_nil]);first|done|rfl|(simp only [List.length_drop,List.length_take];rfl)) ?_;(with_reducible refine (agoraref27_after.calls a0 (⟨#[60]⟩:ByteArray) t266 true _ A18.out).mono ?_);rintro e w' ⟨rfl,⟨nd,rfl⟩⟩;refine ⟨_,rfl,?_⟩)|((with_reducible refine gate_callee (f:=67) rfl ?_);refine goesL_ (some 59) rfl rfl Tryz.func67 (by kernel_rfl) rfl #[.string t266] rfl (by (try simp only [List.map_toArray,List.map_cons,List.map_nil]);first|done|rfl|(simp only [List.length_drop,List.length_take];rfl)) ?_;(with_reducible refine (agoraref27_digits.calls k t266 t268 _ A20.out).mono ?_);rintro e w' ⟨rfl,⟨nd,rfl⟩⟩;refine ⟨_,rfl,?_⟩))
           go_ret
           exact ⟨by first|rfl|(simp;done)|(simp [*];done),by repeat (first|exact Drawn0.refl _|apply Drawn0.step)⟩
       · replace c19:=Bool.eq_false_iff.mpr c19
         subst c19
         have H1:((agoraref27_after.f a0 (⟨#[62]⟩:ByteArray)).bind fun bt270=>(if bt270.2=true then ((agoraref27_digits.f k bt270.1).bind fun t272=>(if t272≥0 then ((agoraref27_digits.f k bt270.1).bind fun t273=>(some (decide (a1 > t273)))) else (some false))) else ((agoraref27_digits.f k a0).bind fun t274=>(if t274≥0 then ((agoraref27_digits.f k a0).bind fun t275=>(some (a1==t275))) else (some false)))))=some r:=by rw [if_neg (show ¬ (false=true) by decide)] at H;exact H
         clear H
         have H:=H1
         clear H1
         replace H:=Option.bind_eq_some_iff.mp H
         obtain ⟨⟨t270,t271⟩,A230,H⟩:=H
         replace H:(if t271=true then ((agoraref27_digits.f k t270).bind fun t272=>(if t272≥0 then ((agoraref27_digits.f k t270).bind fun t273=>(some (decide (a1 > t273)))) else (some false))) else ((agoraref27_digits.f k a0).bind fun t274=>(if t274≥0 then ((agoraref27_digits.f k a0).bind fun t275=>(some (a1==t275))) else (some false))))=some r:=H
         have A23:=Aside0.mk A230
         clear A230
         by_cases c24:t271=true
         · subst c24
           have H1:((agoraref27_digits.f k t270).bind fun t272=>(if t272≥0 then ((agoraref27_digits.f k t270).bind fun t273=>(some (decide (a1 > t273)))) else (some false)))=some r:=by rw [if_pos rfl] at H;exact H
           clear H
           have H:=H1
           clear H1
           replace H:=Option.bind_eq_some_iff.mp H
           obtain ⟨t272,A250,H⟩:=H
           replace H:(if t272≥0 then ((agoraref27_digits.f k t270).bind fun t273=>(some (decide (a1 > t273)))) else (some false))=some r:=H
           have A25:=Aside0.mk A250
           clear A250
           by_cases c26:t272≥0
           · rw [if_pos c26] at H
             have c26b0:decide (0≤t272)=true:=decide_eq_true c26
             clear c26
             replace H:=Option.bind_eq_some_iff.mp H
             obtain ⟨t273,A270,H⟩:=H
             replace H:(some (decide (a1 > t273)))=some r:=H
             have A27:=Aside0.mk A270
             clear A270
             obtain rfl:=Option.some.inj H
             go_enter Tryz.func32,Tryz.ntmps32
             go_wp2_with (first|((with_reducible refine gate_callee (f:=66) rfl ?_);refine goesL_ (some 9) rfl rfl Tryz.func66 (by kernel_rfl) rfl #[.string a0,.string (⟨#[61,61]⟩:ByteArray)] rfl (by (try simp only [List.map_toArray,List.map_cons,List.map_nil]);first|done|rfl|(simp only [List.length_drop,List.length_take];rfl)) ?_;(with_reducible refine (agoraref27_after.calls a0 (⟨#[61,61]⟩:ByteArray) t254 false _ A3.out).mono ?_);rintro e w' ⟨rfl,⟨nd,rfl⟩⟩;refine ⟨_,rfl,?_⟩)|((with_reducible refine gate_callee (f:=66) rfl ?_);refine goesL_ (some 24) rfl rfl Tryz.func66 (by kernel_rfl) rfl #[.string a0,.string (⟨#[60,61]⟩:ByteArray)] rfl (by (try simp only [List.map_toArray,List.map_cons,List.map_nil]);first|done|rfl|(simp only [List.length_drop,List.length_take];rfl)) ?_;(with_reducible refine (agoraref27_after.calls a0 (⟨#[60,61]⟩:ByteArray) t258 false _ A8.out).mono ?_);rintro e w' ⟨rfl,⟨nd,rfl⟩⟩;refine ⟨_,rfl,?_⟩)|((with_reducible refine gate_callee (f:=66) rfl ?_);refine goesL_ (some 39) rfl rfl Tryz.func66 (by kernel_rfl) rfl #[.string a0,.string (⟨#[62,61]⟩:ByteArray)] rfl (by (try simp only [List.map_toArray,List.map_cons,List.map_nil]);first|done|rfl|(simp only [List.length_drop,List.length_take];rfl)) ?_;(with_reducible refine (agoraref27_after.calls a0 (⟨#[62,61]⟩:ByteArray) t262 false _ A13.out).mono ?_);rintro e w' ⟨rfl,⟨nd,rfl⟩⟩;refine ⟨_,rfl,?_⟩)|((with_reducible refine gate_callee (f:=66) rfl ?_);refine goesL_ (some 54) rfl rfl Tryz.func66 (by kernel_rfl) rfl #[.string a0,.string (⟨#[60]⟩:ByteArray)] rfl (by (try simp only [List.map_toArray,List.map_cons,List.map_nil]);first|done|rfl|(simp only [List.length_drop,List.length_take];rfl)) ?_;(with_reducible refine (agoraref27_after.calls a0 (⟨#[60]⟩:ByteArray) t266 false _ A18.out).mono ?_);rintro e w' ⟨rfl,⟨nd,rfl⟩⟩;refine ⟨_,rfl,?_⟩)|((with_reducible refine gate_callee (f:=66) rfl ?_);refine goesL_ (some 69) rfl rfl Tryz.func66 (by kernel_rfl) rfl #[.string a0,.string (⟨#[62]⟩:ByteArray)] rfl (by (try simp only [List.map_toArray,List.map_cons,List.map_nil]);first|done|rfl|(simp only [List.length_drop,List.length_take];rfl)) ?_;(with_reducible refine (agoraref27_after.calls a0 (⟨#[62]⟩:ByteArray) t270 true _ A23.out).mono ?_);rintro e w' ⟨rfl,⟨nd,rfl⟩⟩;refine ⟨_,rfl,?_⟩)|((with_reducible refine gate_callee (f:=67) rfl ?_);refine goesL_ (some 74) rfl rfl Tryz.func67 (by kernel_rfl) rfl #[.string t270] rfl (by (try simp only [List.map_toArray,List.map_cons,List.map_nil]);first|done|rfl|(simp only [List.length_drop,List.length_take];rfl)) ?_;(with_reducible refine (agoraref27_digits.calls k t270 t272 _ A25.out).mono ?_);rintro e w' ⟨rfl,⟨nd,rfl⟩⟩;refine ⟨_,rfl,?_⟩)|(go_at_call 67;(with_reducible refine (agoraref27_digits.calls k t270 t273 _ A27.out).mono ?_);rintro e w' ⟨rfl,⟨nd,rfl⟩⟩))
             go_ret
             exact ⟨by first|rfl|(simp;done)|(simp [*];done),by repeat (first|exact Drawn0.refl _|apply Drawn0.step)⟩
           · rw [if_neg c26] at H
             have c26b0:decide (0≤t272)=false:=decide_eq_false c26
             clear c26
             obtain rfl:=Option.some.inj H
             go_enter Tryz.func32,Tryz.ntmps32
             go_wp2_with (first|((with_reducible refine gate_callee (f:=66) rfl ?_);refine goesL_ (some 9) rfl rfl Tryz.func66 (by kernel_rfl) rfl #[.string a0,.string (⟨#[61,61]⟩:ByteArray)] rfl (by (try simp only [List.map_toArray,List.map_cons,List.map_nil]);first|done|rfl|(simp only [List.length_drop,List.length_take];rfl)) ?_;(with_reducible refine (agoraref27_after.calls a0 (⟨#[61,61]⟩:ByteArray) t254 false _ A3.out).mono ?_);rintro e w' ⟨rfl,⟨nd,rfl⟩⟩;refine ⟨_,rfl,?_⟩)|((with_reducible refine gate_callee (f:=66) rfl ?_);refine goesL_ (some 24) rfl rfl Tryz.func66 (by kernel_rfl) rfl #[.string a0,.string (⟨#[60,61]⟩:ByteArray)] rfl (by (try simp only [List.map_toArray,List.map_cons,List.map_nil]);first|done|rfl|(simp only [List.length_drop,List.length_take];rfl)) ?_;(with_reducible refine (agoraref27_after.calls a0 (⟨#[60,61]⟩:ByteArray) t258 false _ A8.out).mono ?_);rintro e w' ⟨rfl,⟨nd,rfl⟩⟩;refine ⟨_,rfl,?_⟩)|((with_reducible refine gate_callee (f:=66) rfl ?_);refine goesL_ (some 39) rfl rfl Tryz.func66 (by kernel_rfl) rfl #[.string a0,.string (⟨#[62,61]⟩:ByteArray)] rfl (by (try simp only [List.map_toArray,List.map_cons,List.map_nil]);first|done|rfl|(simp only [List.length_drop,List.length_take];rfl)) ?_;(with_reducible refine (agoraref27_after.calls a0 (⟨#[62,61]⟩:ByteArray) t262 false _ A13.out).mono ?_);rintro e w' ⟨rfl,⟨nd,rfl⟩⟩;refine ⟨_,rfl,?_⟩)|((with_reducible refine gate_callee (f:=66) rfl ?_);refine goesL_ (some 54) rfl rfl Tryz.func66 (by kernel_rfl) rfl #[.string a0,.string (⟨#[60]⟩:ByteArray)] rfl (by (try simp only [List.map_toArray,List.map_cons,List.map_nil]);first|done|rfl|(simp only [List.length_drop,List.length_take];rfl)) ?_;(with_reducible refine (agoraref27_after.calls a0 (⟨#[60]⟩:ByteArray) t266 false _ A18.out).mono ?_);rintro e w' ⟨rfl,⟨nd,rfl⟩⟩;refine ⟨_,rfl,?_⟩)|((with_reducible refine gate_callee (f:=66) rfl ?_);refine goesL_ (some 69) rfl rfl Tryz.func66 (by kernel_rfl) rfl #[.string a0,.string (⟨#[62]⟩:ByteArray)] rfl (by (try simp only [List.map_toArray,List.map_cons,List.map_nil]);first|done|rfl|(simp only [List.length_drop,List.length_take];rfl)) ?_;(with_reducible refine (agoraref27_after.calls a0 (⟨#[62]⟩:ByteArray) t270 true _ A23.out).mono ?_);rintro e w' ⟨rfl,⟨nd,rfl⟩⟩;refine ⟨_,rfl,?_⟩)|((with_reducible refine gate_callee (f:=67) rfl ?_);refine goesL_ (some 74) rfl rfl Tryz.func67 (by kernel_rfl) rfl #[.string t270] rfl (by (try simp only [List.map_toArray,List.map_cons,List.map_nil]);first|done|rfl|(simp only [List.length_drop,List.length_take];rfl)) ?_;(with_reducible refine (agoraref27_digits.calls k t270 t272 _ A25.out).mono ?_);rintro e w' ⟨rfl,⟨nd,rfl⟩⟩;refine ⟨_,rfl,?_⟩))
             go_ret
             exact ⟨by first|rfl|(simp;done)|(simp [*];done),by repeat (first|exact Drawn0.refl _|apply Drawn0.step)⟩
         · replace c24:=Bool.eq_false_iff.mpr c24
           subst c24
           have H1:((agoraref27_digits.f k a0).bind fun t274=>(if t274≥0 then ((agoraref27_digits.f k a0).bind fun t275=>(some (a1==t275))) else (some false)))=some r:=by rw [if_neg (show ¬ (false=true) by decide)] at H;exact H
           clear H
           have H:=H1
           clear H1
           replace H:=Option.bind_eq_some_iff.mp H
           obtain ⟨t274,A280,H⟩:=H
           replace H:(if t274≥0 then ((agoraref27_digits.f k a0).bind fun t275=>(some (a1==t275))) else (some false))=some r:=H
           have A28:=Aside0.mk A280
           clear A280
           by_cases c29:t274≥0
           · rw [if_pos c29] at H
             have c29b0:decide (0≤t274)=true:=decide_eq_true c29
             clear c29
             replace H:=Option.bind_eq_some_iff.mp H
             obtain ⟨t275,A300,H⟩:=H
             replace H:(some (a1==t275))=some r:=H
             have A30:=Aside0.mk A300
             clear A300
             obtain rfl:=Option.some.inj H
             go_enter Tryz.func32,Tryz.ntmps32
             go_wp2_with (first|((with_reducible refine gate_callee (f:=66) rfl ?_);refine goesL_ (some 9) rfl rfl Tryz.func66 (by kernel_rfl) rfl #[.string a0,.string (⟨#[61,61]⟩:ByteArray)] rfl (by (try simp only [List.map_toArray,List.map_cons,List.map_nil]);first|done|rfl|(simp only [List.length_drop,List.length_take];rfl)) ?_;(with_reducible refine (agoraref27_after.calls a0 (⟨#[61,61]⟩:ByteArray) t254 false _ A3.out).mono ?_);rintro e w' ⟨rfl,⟨nd,rfl⟩⟩;refine ⟨_,rfl,?_⟩)|((with_reducible refine gate_callee (f:=66) rfl ?_);refine goesL_ (some 24) rfl rfl Tryz.func66 (by kernel_rfl) rfl #[.string a0,.string (⟨#[60,61]⟩:ByteArray)] rfl (by (try simp only [List.map_toArray,List.map_cons,List.map_nil]);first|done|rfl|(simp only [List.length_drop,List.length_take];rfl)) ?_;(with_reducible refine (agoraref27_after.calls a0 (⟨#[60,61]⟩:ByteArray) t258 false _ A8.out).mono ?_);rintro e w' ⟨rfl,⟨nd,rfl⟩⟩;refine ⟨_,rfl,?_⟩)|((with_reducible refine gate_callee (f:=66) rfl ?_);refine goesL_ (some 39) rfl rfl Tryz.func66 (by kernel_rfl) rfl #[.string a0,.string (⟨#[62,61]⟩:ByteArray)] rfl (by (try simp only [List.map_toArray,List.map_cons,List.map_nil]);first|done|rfl|(simp only [List.length_drop,List.length_take];rfl)) ?_;(with_reducible refine (agoraref27_after.calls a0 (⟨#[62,61]⟩:ByteArray) t262 false _ A13.out).mono ?_);rintro e w' ⟨rfl,⟨nd,rfl⟩⟩;refine ⟨_,rfl,?_⟩)|((with_reducible refine gate_callee (f:=66) rfl ?_);refine goesL_ (some 54) rfl rfl Tryz.func66 (by kernel_rfl) rfl #[.string a0,.string (⟨#[60]⟩:ByteArray)] rfl (by (try simp only [List.map_toArray,List.map_cons,List.map_nil]);first|done|rfl|(simp only [List.length_drop,List.length_take];rfl)) ?_;(with_reducible refine (agoraref27_after.calls a0 (⟨#[60]⟩:ByteArray) t266 false _ A18.out).mono ?_);rintro e w' ⟨rfl,⟨nd,rfl⟩⟩;refine ⟨_,rfl,?_⟩)|((with_reducible refine gate_callee (f:=66) rfl ?_);refine goesL_ (some 69) rfl rfl Tryz.func66 (by kernel_rfl) rfl #[.string a0,.string (⟨#[62]⟩:ByteArray)] rfl (by (try simp only [List.map_toArray,List.map_cons,List.map_nil]);first|done|rfl|(simp only [List.length_drop,List.length_take];rfl)) ?_;(with_reducible refine (agoraref27_after.calls a0 (⟨#[62]⟩:ByteArray) t270 false _ A23.out).mono ?_);rintro e w' ⟨rfl,⟨nd,rfl⟩⟩;refine ⟨_,rfl,?_⟩)|((with_reducible refine gate_callee (f:=67) rfl ?_);refine goesL_ (some 83) rfl rfl Tryz.func67 (by kernel_rfl) rfl #[.string a0] rfl (by (try simp only [List.map_toArray,List.map_cons,List.map_nil]);first|done|rfl|(simp only [List.length_drop,List.length_take];rfl)) ?_;(with_reducible refine (agoraref27_digits.calls k a0 t274 _ A28.out).mono ?_);rintro e w' ⟨rfl,⟨nd,rfl⟩⟩;refine ⟨_,rfl,?_⟩)|(go_at_call 67;(with_reducible refine (agoraref27_digits.calls k a0 t275 _ A30.out).mono ?_);rintro e w' ⟨rfl,⟨nd,rfl⟩⟩))
             go_ret
             exact ⟨by first|rfl|(simp;done)|(simp [*];done),by repeat (first|exact Drawn0.refl _|apply Drawn0.step)⟩
           · rw [if_neg c29] at H
             have c29b0:decide (0≤t274)=false:=decide_eq_false c29
             clear c29
             obtain rfl:=Option.some.inj H
             go_enter Tryz.func32,Tryz.ntmps32
             go_wp2_with (first|((with_reducible refine gate_callee (f:=66) rfl ?_);refine goesL_ (some 9) rfl rfl Tryz.func66 (by kernel_rfl) rfl #[.string a0,.string (⟨#[61,61]⟩:ByteArray)] rfl (by (try simp only [List.map_toArray,List.map_cons,List.map_nil]);first|done|rfl|(simp only [List.length_drop,List.length_take];rfl)) ?_;(with_reducible refine (agoraref27_after.calls a0 (⟨#[61,61]⟩:ByteArray) t254 false _ A3.out).mono ?_);rintro e w' ⟨rfl,⟨nd,rfl⟩⟩;refine ⟨_,rfl,?_⟩)|((with_reducible refine gate_callee (f:=66) rfl ?_);refine goesL_ (some 24) rfl rfl Tryz.func66 (by kernel_rfl) rfl #[.string a0,.string (⟨#[60,61]⟩:ByteArray)] rfl (by (try simp only [List.map_toArray,List.map_cons,List.map_nil]);first|done|rfl|(simp only [List.length_drop,List.length_take];rfl)) ?_;(with_reducible refine (agoraref27_after.calls a0 (⟨#[60,61]⟩:ByteArray) t258 false _ A8.out).mono ?_);rintro e w' ⟨rfl,⟨nd,rfl⟩⟩;refine ⟨_,rfl,?_⟩)|((with_reducible refine gate_callee (f:=66) rfl ?_);refine goesL_ (some 39) rfl rfl Tryz.func66 (by kernel_rfl) rfl #[.string a0,.string (⟨#[62,61]⟩:ByteArray)] rfl (by (try simp only [List.map_toArray,List.map_cons,List.map_nil]);first|done|rfl|(simp only [List.length_drop,List.length_take];rfl)) ?_;(with_reducible refine (agoraref27_after.calls a0 (⟨#[62,61]⟩:ByteArray) t262 false _ A13.out).mono ?_);rintro e w' ⟨rfl,⟨nd,rfl⟩⟩;refine ⟨_,rfl,?_⟩)|((with_reducible refine gate_callee (f:=66) rfl ?_);refine goesL_ (some 54) rfl rfl Tryz.func66 (by kernel_rfl) rfl #[.string a0,.string (⟨#[60]⟩:ByteArray)] rfl (by (try simp only [List.map_toArray,List.map_cons,List.map_nil]);first|done|rfl|(simp only [List.length_drop,List.length_take];rfl)) ?_;(with_reducible refine (agoraref27_after.calls a0 (⟨#[60]⟩:ByteArray) t266 false _ A18.out).mono ?_);rintro e w' ⟨rfl,⟨nd,rfl⟩⟩;refine ⟨_,rfl,?_⟩)|((with_reducible refine gate_callee (f:=66) rfl ?_);refine goesL_ (some 69) rfl rfl Tryz.func66 (by kernel_rfl) rfl #[.string a0,.string (⟨#[62]⟩:ByteArray)] rfl (by (try simp only [List.map_toArray,List.map_cons,List.map_nil]);first|done|rfl|(simp only [List.length_drop,List.length_take];rfl)) ?_;(with_reducible refine (agoraref27_after.calls a0 (⟨#[62]⟩:ByteArray) t270 false _ A23.out).mono ?_);rintro e w' ⟨rfl,⟨nd,rfl⟩⟩;refine ⟨_,rfl,?_⟩)|((with_reducible refine gate_callee (f:=67) rfl ?_);refine goesL_ (some 83) rfl rfl Tryz.func67 (by kernel_rfl) rfl #[.string a0] rfl (by (try simp only [List.map_toArray,List.map_cons,List.map_nil]);first|done|rfl|(simp only [List.length_drop,List.length_take];rfl)) ?_;(with_reducible refine (agoraref27_digits.calls k a0 t274 _ A28.out).mono ?_);rintro e w' ⟨rfl,⟨nd,rfl⟩⟩;refine ⟨_,rfl,?_⟩))
             go_ret
             exact ⟨by first|rfl|(simp;done)|(simp [*];done),by repeat (first|exact Drawn0.refl _|apply Drawn0.step)⟩
end Go.Proofs.YtodhmbnfliajiaaGreatDoor.Q
