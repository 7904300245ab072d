/- Qx10: a text of this claim's proof,as printed or written,without what the claim does not use. -/
import Derived.Test.YtodhmbnfliajiaaGreatDoorQx0
namespace Go.Proofs.YtodhmbnfliajiaaGreatDoor.Q
open Go.RowKit Go.Proofs.YtodhmbnfliajiaaGreatDoorW.PrintWords Go.Proofs.YtodhmbnfliajiaaGreatDoorW.PrintLast Go.Proofs.YtodhmbnfliajiaaGreatDoorW.PrintMore
attribute [local go_sem] max2_int min2_int max_two min_two max_three min_three max_four min_four
set_option linter.unusedVariables false
set_option linter.unusedSimpArgs false
def agoraref23_word.f (a0:ByteArray):Option (Bool):=if 0 < (a0.size:Int) then (if (a0.size:Int) > 1 then (some true) else (if (bt a0 0)≥97 then (if (bt a0 0)≤122 then (some true) else (if (bt a0 0)≥65 then (if (bt a0 0)≤90 then (some true) else (if (bt a0 0)≥48 then (if (bt a0 0)≤57 then (some true) else (some ((bt a0 0)==95))) else (some ((bt a0 0)==95)))) else (if (bt a0 0)≥48 then (if (bt a0 0)≤57 then (some true) else (some ((bt a0 0)==95))) else (some ((bt a0 0)==95))))) else (if (bt a0 0)≥65 then (if (bt a0 0)≤90 then (some true) else (if (bt a0 0)≥48 then (if (bt a0 0)≤57 then (some true) else (some ((bt a0 0)==95))) else (some ((bt a0 0)==95)))) else (if (bt a0 0)≥48 then (if (bt a0 0)≤57 then (some true) else (some ((bt a0 0)==95))) else (some ((bt a0 0)==95)))))) else (none)
set_option maxHeartbeats 8000000 in
set_option maxRecDepth 100000 in
theorem agoraref23_word.calls (a0:ByteArray) (r:Bool) (w:World) (h:agoraref23_word.f a0=some r) :
 Calls Tryz.prog 63 #[.string a0] w fun e w'=>e=.returned (.bool r)∧Drawn0 w w':=by
 have H:(if 0 < (a0.size:Int) then (if (a0.size:Int) > 1 then (some true) else (if (bt a0 0)≥97 then (if (bt a0 0)≤122 then (some true) else (if (bt a0 0)≥65 then (if (bt a0 0)≤90 then (some true) else (if (bt a0 0)≥48 then (if (bt a0 0)≤57 then (some true) else (some ((bt a0 0)==95))) else (some ((bt a0 0)==95)))) else (if (bt a0 0)≥48 then (if (bt a0 0)≤57 then (some true) else (some ((bt a0 0)==95))) else (some ((bt a0 0)==95))))) else (if (bt a0 0)≥65 then (if (bt a0 0)≤90 then (some true) else (if (bt a0 0)≥48 then (if (bt a0 0)≤57 then (some true) else (some ((bt a0 0)==95))) else (some ((bt a0 0)==95)))) else (if (bt a0 0)≥48 then (if (bt a0 0)≤57 then (some true) else (some ((bt a0 0)==95))) else (some ((bt a0 0)==95)))))) else (none))=some r:=h
 clear h
 by_cases c2:0 < (a0.size:Int)
 · rw [if_pos c2] at H
   have c2b0:decide (0 < (a0.size:Int))=true:=decide_eq_true c2
   have c2b1:decide (0 < a0.size)=true:=decide_eq_true (by omega)
   clear c2
   by_cases c4:(a0.size:Int) > 1
   · rw [if_pos c4] at H
     have c4b0:decide (1 < (a0.size:Int))=true:=decide_eq_true c4
     have c4b1:decide (1 < a0.size)=true:=decide_eq_true (by omega)
     clear c4
     obtain rfl:=Option.some.inj H
     have p3:0≤(0:Int):=(by omega)
     have q3:0 < a0.size:=(by have:(0:Int) < (a0.size:Int):=of_decide_eq_true (by first|(with_reducible assumption)|assumption);omega)
     have hx3 : ∀ h:0 < a0.size,((a0[0]'h).toNat:Int)=bt a0 0:=bt_at a0 0
     clear p3
     have qi3:(0 < (a0.size:Int))=True:=eq_true (of_decide_eq_true (by first|(with_reducible assumption)|assumption))
     replace q3:=eq_true q3
     go_enter Tryz.func63,Tryz.ntmps63
     go_wp2
     go_ret
     exact ⟨by first|rfl|(simp;done)|(simp [*];done),by repeat (first|exact Drawn0.refl _|apply Drawn0.step)⟩
   · rw [if_neg c4] at H
     have c4b0:decide (1 < (a0.size:Int))=false:=decide_eq_false c4
     have c4b1:decide (1 < a0.size)=false:=decide_eq_false (by omega)
     clear c4
     by_cases c5:(bt a0 0)≥97
     · rw [if_pos c5] at H
       have c5b0:decide (97≤(bt a0 0))=true:=decide_eq_true c5
       clear c5
       by_cases c6:(bt a0 0)≤122
       · rw [if_pos c6] at H
         have c6b0:decide ((bt a0 0)≤122)=true:=decide_eq_true c6
         clear c6
         obtain rfl:=Option.some.inj H
         have p3:0≤(0:Int):=(by omega)
         have q3:0 < a0.size:=(by have:(0:Int) < (a0.size:Int):=of_decide_eq_true (by first|(with_reducible assumption)|assumption);omega)
         have hx3 : ∀ h:0 < a0.size,((a0[0]'h).toNat:Int)=bt a0 0:=bt_at a0 0
         clear p3
         have qi3:(0 < (a0.size:Int))=True:=eq_true (of_decide_eq_true (by first|(with_reducible assumption)|assumption))
         replace q3:=eq_true q3
         go_enter Tryz.func63,Tryz.ntmps63
         go_wp2
         go_ret
         exact ⟨by first|rfl|(simp;done)|(simp [*];done),by repeat (first|exact Drawn0.refl _|apply Drawn0.step)⟩
       · rw [if_neg c6] at H
         have c6b0:decide ((bt a0 0)≤122)=false:=decide_eq_false c6
         clear c6
         by_cases c7:(bt a0 0)≥65
         · rw [if_pos c7] at H
           have c7b0:decide (65≤(bt a0 0))=true:=decide_eq_true c7
           clear c7
           by_cases c8:(bt a0 0)≤90
           · rw [if_pos c8] at H
             have c8b0:decide ((bt a0 0)≤90)=true:=decide_eq_true c8
             clear c8
             obtain rfl:=Option.some.inj H
             have p3:0≤(0:Int):=(by omega)
             have q3:0 < a0.size:=(by have:(0:Int) < (a0.size:Int):=of_decide_eq_true (by first|(with_reducible assumption)|assumption);omega)
             have hx3 : ∀ h:0 < a0.size,((a0[0]'h).toNat:Int)=bt a0 0:=bt_at a0 0
             clear p3
             have qi3:(0 < (a0.size:Int))=True:=eq_true (of_decide_eq_true (by first|(with_reducible assumption)|assumption))
             replace q3:=eq_true q3
             go_enter Tryz.func63,Tryz.ntmps63
             go_wp2
             go_ret
             exact ⟨by first|rfl|(simp;done)|(simp [*];done),by repeat (first|exact Drawn0.refl _|apply Drawn0.step)⟩
           · rw [if_neg c8] at H
             have c8b0:decide ((bt a0 0)≤90)=false:=decide_eq_false c8
             clear c8
             by_cases c9:(bt a0 0)≥48
             · rw [if_pos c9] at H
               have c9b0:decide (48≤(bt a0 0))=true:=decide_eq_true c9
               clear c9
               by_cases c10:(bt a0 0)≤57
               · rw [if_pos c10] at H
                 have c10b0:decide ((bt a0 0)≤57)=true:=decide_eq_true c10
                 clear c10
                 obtain rfl:=Option.some.inj H
                 have p3:0≤(0:Int):=(by omega)
                 have q3:0 < a0.size:=(by have:(0:Int) < (a0.size:Int):=of_decide_eq_true (by first|(with_reducible assumption)|assumption);omega)
                 have hx3 : ∀ h:0 < a0.size,((a0[0]'h).toNat:Int)=bt a0 0:=bt_at a0 0
                 clear p3
                 have qi3:(0 < (a0.size:Int))=True:=eq_true (of_decide_eq_true (by first|(with_reducible assumption)|assumption))
                 replace q3:=eq_true q3
                 go_enter Tryz.func63,Tryz.ntmps63
                 go_wp2
                 go_ret
                 exact ⟨by first|rfl|(simp;done)|(simp [*];done),by repeat (first|exact Drawn0.refl _|apply Drawn0.step)⟩
               · rw [if_neg c10] at H
                 have c10b0:decide ((bt a0 0)≤57)=false:=decide_eq_false c10
                 clear c10
                 obtain rfl:=Option.some.inj H
                 have p3:0≤(0:Int):=(by omega)
                 have q3:0 < a0.size:=(by have:(0:Int) < (a0.size:Int):=of_decide_eq_true (by first|(with_reducible assumption)|assumption);omega)
                 have hx3 : ∀ h:0 < a0.size,((a0[0]'h).toNat:Int)=bt a0 0:=bt_at a0 0
                 clear p3
                 have qi3:(0 < (a0.size:Int))=True:=eq_true (of_decide_eq_true (by first|(with_reducible assumption)|assumption))
                 replace q3:=eq_true q3
                 go_enter Tryz.func63,Tryz.ntmps63
                 go_wp2
                 go_ret
                 exact ⟨by first|rfl|(simp;done)|(simp [*];done),by repeat (first|exact Drawn0.refl _|apply Drawn0.step)⟩
             · rw [if_neg c9] at H
               have c9b0:decide (48≤(bt a0 0))=false:=decide_eq_false c9
               clear c9
               obtain rfl:=Option.some.inj H
               have p3:0≤(0:Int):=(by omega)
               have q3:0 < a0.size:=(by have:(0:Int) < (a0.size:Int):=of_decide_eq_true (by first|(with_reducible assumption)|assumption);omega)
               have hx3 : ∀ h:0 < a0.size,((a0[0]'h).toNat:Int)=bt a0 0:=bt_at a0 0
               clear p3
               have qi3:(0 < (a0.size:Int))=True:=eq_true (of_decide_eq_true (by first|(with_reducible assumption)|assumption))
               replace q3:=eq_true q3
               go_enter Tryz.func63,Tryz.ntmps63
               go_wp2
               go_ret
               exact ⟨by first|rfl|(simp;done)|(simp [*];done),by repeat (first|exact Drawn0.refl _|apply Drawn0.step)⟩
         · rw [if_neg c7] at H
           have c7b0:decide (65≤(bt a0 0))=false:=decide_eq_false c7
           clear c7
           by_cases c11:(bt a0 0)≥48
           · rw [if_pos c11] at H
             have c11b0:decide (48≤(bt a0 0))=true:=decide_eq_true c11
             clear c11
             by_cases c12:(bt a0 0)≤57
             · rw [if_pos c12] at H
               have c12b0:decide ((bt a0 0)≤57)=true:=decide_eq_true c12
               clear c12
               obtain rfl:=Option.some.inj H
               have p3:0≤(0:Int):=(by omega)
               have q3:0 < a0.size:=(by have:(0:Int) < (a0.size:Int):=of_decide_eq_true (by first|(with_reducible assumption)|assumption);omega)
               have hx3 : ∀ h:0 < a0.size,((a0[0]'h).toNat:Int)=bt a0 0:=bt_at a0 0
               clear p3
               have qi3:(0 < (a0.size:Int))=True:=eq_true (of_decide_eq_true (by first|(with_reducible assumption)|assumption))
               replace q3:=eq_true q3
               go_enter Tryz.func63,Tryz.ntmps63
               go_wp2
               go_ret
               exact ⟨by first|rfl|(simp;done)|(simp [*];done),by repeat (first|exact Drawn0.refl _|apply Drawn0.step)⟩
             · rw [if_neg c12] at H
               have c12b0:decide ((bt a0 0)≤57)=false:=decide_eq_false c12
               clear c12
               obtain rfl:=Option.some.inj H
               have p3:0≤(0:Int):=(by omega)
               have q3:0 < a0.size:=(by have:(0:Int) < (a0.size:Int):=of_decide_eq_true (by first|(with_reducible assumption)|assumption);omega)
               have hx3 : ∀ h:0 < a0.size,((a0[0]'h).toNat:Int)=bt a0 0:=bt_at a0 0
               clear p3
               have qi3:(0 < (a0.size:Int))=True:=eq_true (of_decide_eq_true (by first|(with_reducible assumption)|assumption))
               replace q3:=eq_true q3
               go_enter Tryz.func63,Tryz.ntmps63
               go_wp2
               go_ret
               exact ⟨by first|rfl|(simp;done)|(simp [*];done),by repeat (first|exact Drawn0.refl _|apply Drawn0.step)⟩
           · rw [if_neg c11] at H
             have c11b0:decide (48≤(bt a0 0))=false:=decide_eq_false c11
             clear c11
             obtain rfl:=Option.some.inj H
             have p3:0≤(0:Int):=(by omega)
             have q3:0 < a0.size:=(by have:(0:Int) < (a0.size:Int):=of_decide_eq_true (by first|(with_reducible assumption)|assumption);omega)
             have hx3 : ∀ h:0 < a0.size,((a0[0]'h).toNat:Int)=bt a0 0:=bt_at a0 0
             clear p3
             have qi3:(0 < (a0.size:Int))=True:=eq_true (of_decide_eq_true (by first|(with_reducible assumption)|assumption))
             replace q3:=eq_true q3
             go_enter Tryz.func63,Tryz.ntmps63
             go_wp2
             go_ret
             exact ⟨by first|rfl|(simp;done)|(simp [*];done),by repeat (first|exact Drawn0.refl _|apply Drawn0.step)⟩
     · rw [if_neg c5] at H
       have c5b0:decide (97≤(bt a0 0))=false:=decide_eq_false c5
       clear c5
       by_cases c13:(bt a0 0)≥65
       · rw [if_pos c13] at H
         have c13b0:decide (65≤(bt a0 0))=true:=decide_eq_true c13
         clear c13
         by_cases c14:(bt a0 0)≤90
         · rw [if_pos c14] at H
           have c14b0:decide ((bt a0 0)≤90)=true:=decide_eq_true c14
           clear c14
           obtain rfl:=Option.some.inj H
           have p3:0≤(0:Int):=(by omega)
           have q3:0 < a0.size:=(by have:(0:Int) < (a0.size:Int):=of_decide_eq_true (by first|(with_reducible assumption)|assumption);omega)
           have hx3 : ∀ h:0 < a0.size,((a0[0]'h).toNat:Int)=bt a0 0:=bt_at a0 0
           clear p3
           have qi3:(0 < (a0.size:Int))=True:=eq_true (of_decide_eq_true (by first|(with_reducible assumption)|assumption))
           replace q3:=eq_true q3
           go_enter Tryz.func63,Tryz.ntmps63
           go_wp2
           go_ret
           exact ⟨by first|rfl|(simp;done)|(simp [*];done),by repeat (first|exact Drawn0.refl _|apply Drawn0.step)⟩
         · rw [if_neg c14] at H
           have c14b0:decide ((bt a0 0)≤90)=false:=decide_eq_false c14
           clear c14
           by_cases c15:(bt a0 0)≥48
           · rw [if_pos c15] at H
             have c15b0:decide (48≤(bt a0 0))=true:=decide_eq_true c15
             clear c15
             by_cases c16:(bt a0 0)≤57
             · rw [if_pos c16] at H
               have c16b0:decide ((bt a0 0)≤57)=true:=decide_eq_true c16
               clear c16
               obtain rfl:=Option.some.inj H
               have p3:0≤(0:Int):=(by omega)
               have q3:0 < a0.size:=(by have:(0:Int) < (a0.size:Int):=of_decide_eq_true (by first|(with_reducible assumption)|assumption);omega)
               have hx3 : ∀ h:0 < a0.size,((a0[0]'h).toNat:Int)=bt a0 0:=bt_at a0 0
               clear p3
               have qi3:(0 < (a0.size:Int))=True:=eq_true (of_decide_eq_true (by first|(with_reducible assumption)|assumption))
               replace q3:=eq_true q3
               go_enter Tryz.func63,Tryz.ntmps63
               go_wp2
               go_ret
               exact ⟨by first|rfl|(simp;done)|(simp [*];done),by repeat (first|exact Drawn0.refl _|apply Drawn0.step)⟩
             · rw [if_neg c16] at H
               have c16b0:decide ((bt a0 0)≤57)=false:=decide_eq_false c16
               clear c16
               obtain rfl:=Option.some.inj H
               have p3:0≤(0:Int):=(by omega)
               have q3:0 < a0.size:=(by have:(0:Int) < (a0.size:Int):=of_decide_eq_true (by first|(with_reducible assumption)|assumption);omega)
               have hx3 : ∀ h:0 < a0.size,((a0[0]'h).toNat:Int)=bt a0 0:=bt_at a0 0
               clear p3
               have qi3:(0 < (a0.size:Int))=True:=eq_true (of_decide_eq_true (by first|(with_reducible assumption)|assumption))
               replace q3:=eq_true q3
               go_enter Tryz.func63,Tryz.ntmps63
               go_wp2
               go_ret
               exact ⟨by first|rfl|(simp;done)|(simp [*];done),by repeat (first|exact Drawn0.refl _|apply Drawn0.step)⟩
           · rw [if_neg c15] at H
             have c15b0:decide (48≤(bt a0 0))=false:=decide_eq_false c15
             clear c15
             obtain rfl:=Option.some.inj H
             have p3:0≤(0:Int):=(by omega)
             have q3:0 < a0.size:=(by have:(0:Int) < (a0.size:Int):=of_decide_eq_true (by first|(with_reducible assumption)|assumption);omega)
             have hx3 : ∀ h:0 < a0.size,((a0[0]'h).toNat:Int)=bt a0 0:=bt_at a0 0
             clear p3
             have qi3:(0 < (a0.size:Int))=True:=eq_true (of_decide_eq_true (by first|(with_reducible assumption)|assumption))
             replace q3:=eq_true q3
             go_enter Tryz.func63,Tryz.ntmps63
             go_wp2
             go_ret
             exact ⟨by first|rfl|(simp;done)|(simp [*];done),by repeat (first|exact Drawn0.refl _|apply Drawn0.step)⟩
       · rw [if_neg c13] at H
         have c13b0:decide (65≤(bt a0 0))=false:=decide_eq_false c13
         clear c13
         by_cases c17:(bt a0 0)≥48
         · rw [if_pos c17] at H
           have c17b0:decide (48≤(bt a0 0))=true:=decide_eq_true c17
           clear c17
           by_cases c18:(bt a0 0)≤57
           · rw [if_pos c18] at H
             have c18b0:decide ((bt a0 0)≤57)=true:=decide_eq_true c18
             clear c18
             obtain rfl:=Option.some.inj H
             have p3:0≤(0:Int):=(by omega)
             have q3:0 < a0.size:=(by have:(0:Int) < (a0.size:Int):=of_decide_eq_true (by first|(with_reducible assumption)|assumption);omega)
             have hx3 : ∀ h:0 < a0.size,((a0[0]'h).toNat:Int)=bt a0 0:=bt_at a0 0
             clear p3
             have qi3:(0 < (a0.size:Int))=True:=eq_true (of_decide_eq_true (by first|(with_reducible assumption)|assumption))
             replace q3:=eq_true q3
             go_enter Tryz.func63,Tryz.ntmps63
             go_wp2
             go_ret
             exact ⟨by first|rfl|(simp;done)|(simp [*];done),by repeat (first|exact Drawn0.refl _|apply Drawn0.step)⟩
           · rw [if_neg c18] at H
             have c18b0:decide ((bt a0 0)≤57)=false:=decide_eq_false c18
             clear c18
             obtain rfl:=Option.some.inj H
             have p3:0≤(0:Int):=(by omega)
             have q3:0 < a0.size:=(by have:(0:Int) < (a0.size:Int):=of_decide_eq_true (by first|(with_reducible assumption)|assumption);omega)
             have hx3 : ∀ h:0 < a0.size,((a0[0]'h).toNat:Int)=bt a0 0:=bt_at a0 0
             clear p3
             have qi3:(0 < (a0.size:Int))=True:=eq_true (of_decide_eq_true (by first|(with_reducible assumption)|assumption))
             replace q3:=eq_true q3
             go_enter Tryz.func63,Tryz.ntmps63
             go_wp2
             go_ret
             exact ⟨by first|rfl|(simp;done)|(simp [*];done),by repeat (first|exact Drawn0.refl _|apply Drawn0.step)⟩
         · rw [if_neg c17] at H
           have c17b0:decide (48≤(bt a0 0))=false:=decide_eq_false c17
           clear c17
           obtain rfl:=Option.some.inj H
           have p3:0≤(0:Int):=(by omega)
           have q3:0 < a0.size:=(by have:(0:Int) < (a0.size:Int):=of_decide_eq_true (by first|(with_reducible assumption)|assumption);omega)
           have hx3 : ∀ h:0 < a0.size,((a0[0]'h).toNat:Int)=bt a0 0:=bt_at a0 0
           clear p3
           have qi3:(0 < (a0.size:Int))=True:=eq_true (of_decide_eq_true (by first|(with_reducible assumption)|assumption))
           replace q3:=eq_true q3
           go_enter Tryz.func63,Tryz.ntmps63
           go_wp2
           go_ret
           exact ⟨by first|rfl|(simp;done)|(simp [*];done),by repeat (first|exact Drawn0.refl _|apply Drawn0.step)⟩
 · rw [if_neg c2] at H
   exact absurd H (by simp)
end Go.Proofs.YtodhmbnfliajiaaGreatDoor.Q
