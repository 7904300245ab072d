/- HandRField: a text of this claim's proof,as printed or written,without what the claim does not use. -/
import Derived.WalkKit
import Derived.WalkSpells
import Derived.Deep.LoopGhost
import Derived.Lib.Hide
import Derived.BigQuiet
import Derived.Deep.QuietTactic
import Derived.Test.YtodhmbnfliajiaaGreatDoorJ7
import Derived.Test.YtodhmbnfliajiaaGreatDoorJ6
import Derived.Test.YtodhmbnfliajiaaGreatDoorPureRegion
import Derived.Laws.CopyOwn
import Derived.Test.YtodhmbnfliajiaaGreatDoorQx0
import Derived.Test.YtodhmbnfliajiaaGreatDoorQx3
import Derived.Test.YtodhmbnfliajiaaGreatDoorQx8
namespace Go.Proofs.YtodhmbnfliajiaaGreatDoor.Q
open Go.RowKit Go.Proofs.YtodhmbnfliajiaaGreatDoorW.PrintWords Go.Proofs.YtodhmbnfliajiaaGreatDoorW.PrintLast Go.Proofs.YtodhmbnfliajiaaGreatDoorW.PrintMore
set_option linter.unusedVariables false
set_option linter.unusedSimpArgs false
theorem ev_of' {a:Act} {t:Nat} {v:Value} (h:a.eval (.tmp t)=v):a.tmps[t]?.getD undef=v:=by
 rw [← Array.getD_eq_getD_getElem?];exact h
def FieldIs (x:EvV) (k:ByteArray) (b:Bool) (r1 r2:Int) (r3:ByteArray):Prop:=(b=true→fieldB x k=(r1,r2,r3))∧(b=false→fieldB x k=(0,0,⟨#[]⟩))
theorem rtext_c (s:ByteArray) (w:World):Calls Tryz.prog 60 #[.string s] w fun e w'=>∃ A a c B b d,e=.returned (.tuple #[.agg #[.int .i64 3,.int .i64 0,.string s,.slice A a c,.slice B b d],.bool true])∧Below w.heap.size w w':=by
 refine (agoraref27_text.calls s 3 0 s [] [] true w rfl).mono ?_
 rintro e w' ⟨v3,v4,rfl,q3,q4,hb⟩
 obtain ⟨A,c,rfl⟩:=Kd.R_slice q3
 obtain ⟨B,d,rfl⟩:=Kd.R_slice q4
 exact ⟨A,_,c,B,_,d,rfl,hb⟩
def rfD:List (Option Nat):=[some 46,some 47,some 48,some 49,some 50,some 51,some 52,none,some 5]
def rfS (x:EvV) (k:ByteArray) (g2 g4:Nat) (r1 r2:Int) (r3:ByteArray) (r6:Bool):List Spec:=[.val (.pointer (some ⟨g2,5,none⟩)),.val (.agg #[.int .i64 x.kind,.int .i64 x.n,.string x.text,.slice x.A8 x.keys.length x.c8,.slice x.A9 x.list.length x.c9]),.val (.string k),.val (.string (k.extract 8 k.size)),.by_ (fun _ v=>∃ A a c B b d,v=.tuple #[.agg #[.int .i64 r1,.int .i64 r2,.string r3,.slice A a c,.slice B b d],.bool r6]),.by_ (fun _ v=>∃ A a c B b d,v=.agg #[.int .i64 r1,.int .i64 r2,.string r3,.slice A a c,.slice B b d]),.val (.bool r6),.by_ (fun W _=>∃ A a c B b d,W.heap[g4]?=some (.cells #[.int .i64 r1,.int .i64 r2,.string r3,.slice A a c,.slice B b d] 27 (0,0))),.val (.bool r6)]
def rfR (g4:Nat) (i:Nat) (w w':World):Prop:=if i=7 then ∃ cs:Array Value,cs.size=5∧w'=w.setRow g4 cs else Below w.heap.size w w'
def rfInv (x:EvV) (w:World) (g2 g4:Nat) (W:World):Prop:=Below w.heap.size w W∧EB g2 x W∧∃ cs:Array Value,cs.size=5∧W.heap[g4]?=some (.cells cs 27 (0,0))
theorem rf_keep (x:EvV) (k:ByteArray) (g2 g4:Nat) (r1 r2:Int) (r3:ByteArray) (r6:Bool) (j:Nat) (hj:j≠7) (w w':World) (v:Value) (h:(specAt (rfS x k g2 g4 r1 r2 r3 r6) j).V w v):(specAt (rfS x k g2 g4 r1 r2 r3 r6) j).V w' v:=by
 match j,hj,h with
 | 0,_,h=>exact h
 | 1,_,h=>exact h
 | 2,_,h=>exact h
 | 3,_,h=>exact h
 | 4,_,h=>exact h
 | 5,_,h=>exact h
 | 6,_,h=>exact h
 | 7,hj,_=>exact absurd rfl hj
 | 8,_,h=>exact h
 | j+9,_,h=>exact h
set_option maxRecDepth 100000 in
set_option maxHeartbeats 8000000 in
theorem rfield_c (x:EvV) (k:ByteArray) (hk:x.keys.length≤1000000000) : ∃ b r1 r2 r3,FieldIs x k b r1 r2 r3∧∀ w,x.OkR w→Calls Tryz.prog 28 #[.agg (evC x),.string k] w fun e w'=>∃ A a c B b' d,e=.returned (.tuple #[.agg #[.int .i64 r1,.int .i64 r2,.string r3,.slice A a c,.slice B b' d],.bool b])∧Below w.heap.size w w':=by
 have hu2:=Tryz.underlying27
 have hue:=Tryz.underlying30
 by_cases c0':k.toList=[116,121,112,101]
 · refine ⟨true,3,0,x.type,⟨(fun _=>by unfold fieldB;rw [if_pos c0']),(fun h=>by cases h)⟩,fun w hx=>?_⟩
   have z0:(k.toList==[116,121,112,101])=true:=by simp [c0']
   clear c0'
   go_enter Tryz.func28,Tryz.ntmps28
   go_wp2_with (first|((with_reducible refine gate_dst (N:=2) rfl ?_);refine box_event ?hg (N:=2) ?hd (cs:=evC x) (t:=30) ?hr ?_;(case hd=>rfl);(case hg=>rfl);(case hr=>first|(go_simp;done)|(go_simp;rfl));intro g2 hg2 w2 hk2 hb2;have HK2:=Lib.hid hk2;have HW2:=Lib.hid hb2;clear hk2 hb2 hg2)|((with_reducible refine gate_dst (N:=4) rfl ?_);refine box_event ?hg (N:=4) ?hd (cs:=#[.int .i64 0,.int .i64 0,.string (⟨#[]⟩:ByteArray),.slice none 0 0,.slice none 0 0]) (t:=27) ?hr ?_;(case hd=>rfl);(case hg=>rfl);(case hr=>first|(go_simp;done)|(go_simp;rfl));intro g4 hg4 w4 hk4 hb4;(have hne:g2≠g4:=by (rw [hg4];exact Nat.ne_of_lt (blk_lt HK2.out)));(have hn4:w.heap.size≤g4:=by (rw [hg4];exact HW2.out.size));have HNE:=Lib.hid hne;have HN4:=Lib.hid hn4;have HJ4:=Lib.hid hk4;have HB4:=Lib.hid (below_step HW2.out hb4);have HK4:=Lib.hid (blk_below HK2.out hb4);clear hk4 hb4 hg4 hne hn4;have c1:w4.cell? ⟨g2,1,none⟩=some (.string x.type):=(blk_cell HK4.out 1).trans rfl)|(go_at_call 60;refine (rtext_c x.type _).mono ?_;rintro e w5 ⟨A5,n5,c5',B5,m5,d5,rfl,hb5⟩;have HB5:=Lib.hid (below_step HB4.out hb5);have HJ5:=Lib.hid (blk_below HJ4.out hb5);clear hb5)|((with_reducible refine gate_store (t:=27) (p:=4) rfl ?_);refine wpList_store_row rfl 27 (.tmp 4) (.tmp 12) rfl g4 #[.int .i64 3,.int .i64 0,.string x.type,.slice A5 n5 c5',.slice B5 m5 d5] rfl rfl 27 _ HJ5.out (by kernel_rfl) rfl (by simp [Value.oneCell']) ?_;(have hj7:=setRow_heap w5 g4 _ #[.int .i64 3,.int .i64 0,.string x.type,.slice A5 n5 c5',.slice B5 m5 d5] _ _ HJ5.out);have HB7:=Lib.hid (below_setRow HB5.out HN4.out #[.int .i64 3,.int .i64 0,.string x.type,.slice A5 n5 c5',.slice B5 m5 d5]);generalize w5.setRow g4 #[.int .i64 3,.int .i64 0,.string x.type,.slice A5 n5 c5',.slice B5 m5 d5]=w7 at hj7 HB7 ⊢;have HJ7:=Lib.hid hj7;clear hj7))
   refine bodyPost_ret (results_ct rfl _ _ g4 27 #[.int .i64 3,.int .i64 0,.string x.type,.slice A5 n5 c5',.slice B5 m5 d5] (0,0) _ rfl HJ7.out hu2 rfl (by kernel_rfl)) rfl ?_
   exact ⟨_,_,_,_,_,_,rfl,HB7.out⟩
 have z0:(k.toList==[116,121,112,101])=false:=by simp [c0']
 by_cases c1':k.toList=[115,101,110,100,101,114]
 · refine ⟨true,3,0,x.sender,⟨(fun _=>by unfold fieldB;rw [if_neg c0'];rw [if_pos c1']),(fun h=>by cases h)⟩,fun w hx=>?_⟩
   have z1:(k.toList==[115,101,110,100,101,114])=true:=by simp [c1']
   clear c0' c1'
   go_enter Tryz.func28,Tryz.ntmps28
   go_wp2_with (first|((with_reducible refine gate_dst (N:=2) rfl ?_);refine box_event ?hg (N:=2) ?hd (cs:=evC x) (t:=30) ?hr ?_;(case hd=>rfl);(case hg=>rfl);(case hr=>first|(go_simp;done)|(go_simp;rfl));intro g2 hg2 w2 hk2 hb2;have HK2:=Lib.hid hk2;have HW2:=Lib.hid hb2;clear hk2 hb2 hg2)|((with_reducible refine gate_dst (N:=4) rfl ?_);refine box_event ?hg (N:=4) ?hd (cs:=#[.int .i64 0,.int .i64 0,.string (⟨#[]⟩:ByteArray),.slice none 0 0,.slice none 0 0]) (t:=27) ?hr ?_;(case hd=>rfl);(case hg=>rfl);(case hr=>first|(go_simp;done)|(go_simp;rfl));intro g4 hg4 w4 hk4 hb4;(have hne:g2≠g4:=by (rw [hg4];exact Nat.ne_of_lt (blk_lt HK2.out)));(have hn4:w.heap.size≤g4:=by (rw [hg4];exact HW2.out.size));have HNE:=Lib.hid hne;have HN4:=Lib.hid hn4;have HJ4:=Lib.hid hk4;have HB4:=Lib.hid (below_step HW2.out hb4);have HK4:=Lib.hid (blk_below HK2.out hb4);clear hk4 hb4 hg4 hne hn4;have c2:w4.cell? ⟨g2,2,none⟩=some (.string x.sender):=(blk_cell HK4.out 2).trans rfl)|(go_at_call 60;refine (rtext_c x.sender _).mono ?_;rintro e w5 ⟨A5,n5,c5',B5,m5,d5,rfl,hb5⟩;have HB5:=Lib.hid (below_step HB4.out hb5);have HJ5:=Lib.hid (blk_below HJ4.out hb5);clear hb5)|((with_reducible refine gate_store (t:=27) (p:=4) rfl ?_);refine wpList_store_row rfl 27 (.tmp 4) (.tmp 19) rfl g4 #[.int .i64 3,.int .i64 0,.string x.sender,.slice A5 n5 c5',.slice B5 m5 d5] rfl rfl 27 _ HJ5.out (by kernel_rfl) rfl (by simp [Value.oneCell']) ?_;(have hj7:=setRow_heap w5 g4 _ #[.int .i64 3,.int .i64 0,.string x.sender,.slice A5 n5 c5',.slice B5 m5 d5] _ _ HJ5.out);have HB7:=Lib.hid (below_setRow HB5.out HN4.out #[.int .i64 3,.int .i64 0,.string x.sender,.slice A5 n5 c5',.slice B5 m5 d5]);generalize w5.setRow g4 #[.int .i64 3,.int .i64 0,.string x.sender,.slice A5 n5 c5',.slice B5 m5 d5]=w7 at hj7 HB7 ⊢;have HJ7:=Lib.hid hj7;clear hj7))
   refine bodyPost_ret (results_ct rfl _ _ g4 27 #[.int .i64 3,.int .i64 0,.string x.sender,.slice A5 n5 c5',.slice B5 m5 d5] (0,0) _ rfl HJ7.out hu2 rfl (by kernel_rfl)) rfl ?_
   exact ⟨_,_,_,_,_,_,rfl,HB7.out⟩
 have z1:(k.toList==[115,101,110,100,101,114])=false:=by simp [c1']
 by_cases c2':k.toList=[114,111,111,109,95,105,100]
 · refine ⟨true,3,0,x.room,⟨(fun _=>by unfold fieldB;rw [if_neg c0'];rw [if_neg c1'];rw [if_pos c2']),(fun h=>by cases h)⟩,fun w hx=>?_⟩
   have z2:(k.toList==[114,111,111,109,95,105,100])=true:=by simp [c2']
   clear c0' c1' c2'
   go_enter Tryz.func28,Tryz.ntmps28
   go_wp2_with (first|((with_reducible refine gate_dst (N:=2) rfl ?_);refine box_event ?hg (N:=2) ?hd (cs:=evC x) (t:=30) ?hr ?_;(case hd=>rfl);(case hg=>rfl);(case hr=>first|(go_simp;done)|(go_simp;rfl));intro g2 hg2 w2 hk2 hb2;have HK2:=Lib.hid hk2;have HW2:=Lib.hid hb2;clear hk2 hb2 hg2)|((with_reducible refine gate_dst (N:=4) rfl ?_);refine box_event ?hg (N:=4) ?hd (cs:=#[.int .i64 0,.int .i64 0,.string (⟨#[]⟩:ByteArray),.slice none 0 0,.slice none 0 0]) (t:=27) ?hr ?_;(case hd=>rfl);(case hg=>rfl);(case hr=>first|(go_simp;done)|(go_simp;rfl));intro g4 hg4 w4 hk4 hb4;(have hne:g2≠g4:=by (rw [hg4];exact Nat.ne_of_lt (blk_lt HK2.out)));(have hn4:w.heap.size≤g4:=by (rw [hg4];exact HW2.out.size));have HNE:=Lib.hid hne;have HN4:=Lib.hid hn4;have HJ4:=Lib.hid hk4;have HB4:=Lib.hid (below_step HW2.out hb4);have HK4:=Lib.hid (blk_below HK2.out hb4);clear hk4 hb4 hg4 hne hn4;have c0:w4.cell? ⟨g2,0,none⟩=some (.string x.room):=(blk_cell HK4.out 0).trans rfl)|(go_at_call 60;refine (rtext_c x.room _).mono ?_;rintro e w5 ⟨A5,n5,c5',B5,m5,d5,rfl,hb5⟩;have HB5:=Lib.hid (below_step HB4.out hb5);have HJ5:=Lib.hid (blk_below HJ4.out hb5);clear hb5)|((with_reducible refine gate_store (t:=27) (p:=4) rfl ?_);refine wpList_store_row rfl 27 (.tmp 4) (.tmp 26) rfl g4 #[.int .i64 3,.int .i64 0,.string x.room,.slice A5 n5 c5',.slice B5 m5 d5] rfl rfl 27 _ HJ5.out (by kernel_rfl) rfl (by simp [Value.oneCell']) ?_;(have hj7:=setRow_heap w5 g4 _ #[.int .i64 3,.int .i64 0,.string x.room,.slice A5 n5 c5',.slice B5 m5 d5] _ _ HJ5.out);have HB7:=Lib.hid (below_setRow HB5.out HN4.out #[.int .i64 3,.int .i64 0,.string x.room,.slice A5 n5 c5',.slice B5 m5 d5]);generalize w5.setRow g4 #[.int .i64 3,.int .i64 0,.string x.room,.slice A5 n5 c5',.slice B5 m5 d5]=w7 at hj7 HB7 ⊢;have HJ7:=Lib.hid hj7;clear hj7))
   refine bodyPost_ret (results_ct rfl _ _ g4 27 #[.int .i64 3,.int .i64 0,.string x.room,.slice A5 n5 c5',.slice B5 m5 d5] (0,0) _ rfl HJ7.out hu2 rfl (by kernel_rfl)) rfl ?_
   exact ⟨_,_,_,_,_,_,rfl,HB7.out⟩
 have z2:(k.toList==[114,111,111,109,95,105,100])=false:=by simp [c2']
 by_cases c3':k.toList=[115,116,97,116,101,95,107,101,121]
 · cases hs:x.isS with
   | true=>
    refine ⟨true,3,0,x.key,⟨(fun _=>by unfold fieldB;rw [if_neg c0'];rw [if_neg c1'];rw [if_neg c2'];rw [if_pos c3'];rw [hs];rfl),(fun h=>by cases h)⟩,fun w hx=>?_⟩
    have z3:(k.toList==[115,116,97,116,101,95,107,101,121])=true:=by simp [c3']
    clear c0' c1' c2' c3'
    go_enter Tryz.func28,Tryz.ntmps28
    go_wp2_with (first|((with_reducible refine gate_dst (N:=2) rfl ?_);refine box_event ?hg (N:=2) ?hd (cs:=evC x) (t:=30) ?hr ?_;(case hd=>rfl);(case hg=>rfl);(case hr=>first|(go_simp;done)|(go_simp;rfl));intro g2 hg2 w2 hk2 hb2;have HK2:=Lib.hid hk2;have HW2:=Lib.hid hb2;clear hk2 hb2 hg2)|((with_reducible refine gate_dst (N:=4) rfl ?_);refine box_event ?hg (N:=4) ?hd (cs:=#[.int .i64 0,.int .i64 0,.string (⟨#[]⟩:ByteArray),.slice none 0 0,.slice none 0 0]) (t:=27) ?hr ?_;(case hd=>rfl);(case hg=>rfl);(case hr=>first|(go_simp;done)|(go_simp;rfl));intro g4 hg4 w4 hk4 hb4;(have hne:g2≠g4:=by (rw [hg4];exact Nat.ne_of_lt (blk_lt HK2.out)));(have hn4:w.heap.size≤g4:=by (rw [hg4];exact HW2.out.size));have HNE:=Lib.hid hne;have HN4:=Lib.hid hn4;have HJ4:=Lib.hid hk4;have HB4:=Lib.hid (below_step HW2.out hb4);have HK4:=Lib.hid (blk_below HK2.out hb4);clear hk4 hb4 hg4 hne hn4;have c3:w4.cell? ⟨g2,3,none⟩=some (.bool true):=(blk_cell HK4.out 3).trans (by rw [← hs];rfl);have c4:w4.cell? ⟨g2,4,none⟩=some (.string x.key):=(blk_cell HK4.out 4).trans rfl)|(go_at_call 60;refine (rtext_c x.key _).mono ?_;rintro e w5 ⟨A5,n5,c5',B5,m5,d5,rfl,hb5⟩;have HB5:=Lib.hid (below_step HB4.out hb5);have HJ5:=Lib.hid (blk_below HJ4.out hb5);clear hb5)|((with_reducible refine gate_store (t:=27) (p:=4) rfl ?_);refine wpList_store_row rfl 27 (.tmp 4) (.tmp 35) rfl g4 #[.int .i64 3,.int .i64 0,.string x.key,.slice A5 n5 c5',.slice B5 m5 d5] rfl rfl 27 _ HJ5.out (by kernel_rfl) rfl (by simp [Value.oneCell']) ?_;(have hj7:=setRow_heap w5 g4 _ #[.int .i64 3,.int .i64 0,.string x.key,.slice A5 n5 c5',.slice B5 m5 d5] _ _ HJ5.out);have HB7:=Lib.hid (below_setRow HB5.out HN4.out #[.int .i64 3,.int .i64 0,.string x.key,.slice A5 n5 c5',.slice B5 m5 d5]);generalize w5.setRow g4 #[.int .i64 3,.int .i64 0,.string x.key,.slice A5 n5 c5',.slice B5 m5 d5]=w7 at hj7 HB7 ⊢;have HJ7:=Lib.hid hj7;clear hj7))
    refine bodyPost_ret (results_ct rfl _ _ g4 27 #[.int .i64 3,.int .i64 0,.string x.key,.slice A5 n5 c5',.slice B5 m5 d5] (0,0) _ rfl HJ7.out hu2 rfl (by kernel_rfl)) rfl ?_
    exact ⟨_,_,_,_,_,_,rfl,HB7.out⟩
   | false=>
    refine ⟨false,0,0,⟨#[]⟩,⟨(fun h=>by cases h),(fun _=>by unfold fieldB;rw [if_neg c0'];rw [if_neg c1'];rw [if_neg c2'];rw [if_pos c3'];rw [hs];rfl)⟩,fun w hx=>?_⟩
    have z3:(k.toList==[115,116,97,116,101,95,107,101,121])=true:=by simp [c3']
    clear c0' c1' c2' c3'
    go_enter Tryz.func28,Tryz.ntmps28
    go_wp2_with (first|((with_reducible refine gate_dst (N:=2) rfl ?_);refine box_event ?hg (N:=2) ?hd (cs:=evC x) (t:=30) ?hr ?_;(case hd=>rfl);(case hg=>rfl);(case hr=>first|(go_simp;done)|(go_simp;rfl));intro g2 hg2 w2 hk2 hb2;have HK2:=Lib.hid hk2;have HW2:=Lib.hid hb2;clear hk2 hb2 hg2)|((with_reducible refine gate_dst (N:=4) rfl ?_);refine box_event ?hg (N:=4) ?hd (cs:=#[.int .i64 0,.int .i64 0,.string (⟨#[]⟩:ByteArray),.slice none 0 0,.slice none 0 0]) (t:=27) ?hr ?_;(case hd=>rfl);(case hg=>rfl);(case hr=>first|(go_simp;done)|(go_simp;rfl));intro g4 hg4 w4 hk4 hb4;(have hne:g2≠g4:=by (rw [hg4];exact Nat.ne_of_lt (blk_lt HK2.out)));(have hn4:w.heap.size≤g4:=by (rw [hg4];exact HW2.out.size));have HNE:=Lib.hid hne;have HN4:=Lib.hid hn4;have HJ4:=Lib.hid hk4;have HB4:=Lib.hid (below_step HW2.out hb4);have HK4:=Lib.hid (blk_below HK2.out hb4);clear hk4 hb4 hg4 hne hn4;have c3:w4.cell? ⟨g2,3,none⟩=some (.bool false):=(blk_cell HK4.out 3).trans (by rw [← hs];rfl))|((with_reducible refine gate_store (t:=27) (p:=4) rfl ?_);refine wpList_store_row rfl 27 (.tmp 4) (.tmp 37) rfl g4 #[.int .i64 0,.int .i64 0,.string (⟨#[]⟩:ByteArray),.slice none 0 0,.slice none 0 0] rfl rfl 27 _ HJ4.out (by kernel_rfl) rfl (by simp [Value.oneCell']) ?_;(have hj7:=setRow_heap w4 g4 _ #[.int .i64 0,.int .i64 0,.string (⟨#[]⟩:ByteArray),.slice none 0 0,.slice none 0 0] _ _ HJ4.out);have HB7:=Lib.hid (below_setRow HB4.out HN4.out #[.int .i64 0,.int .i64 0,.string (⟨#[]⟩:ByteArray),.slice none 0 0,.slice none 0 0]);generalize w4.setRow g4 #[.int .i64 0,.int .i64 0,.string (⟨#[]⟩:ByteArray),.slice none 0 0,.slice none 0 0]=w7 at hj7 HB7 ⊢;have HJ7:=Lib.hid hj7;clear hj7))
    refine bodyPost_ret (results_ct rfl _ _ g4 27 #[.int .i64 0,.int .i64 0,.string (⟨#[]⟩:ByteArray),.slice none 0 0,.slice none 0 0] (0,0) _ rfl HJ7.out hu2 rfl (by kernel_rfl)) rfl ?_
    exact ⟨_,_,_,_,_,_,rfl,HB7.out⟩
 have z3:(k.toList==[115,116,97,116,101,95,107,101,121])=false:=by simp [c3']
 by_cases c4':8 < k.size
 rotate_left
 · refine ⟨false,0,0,⟨#[]⟩,⟨(fun h=>by cases h),(fun _=>by unfold fieldB;rw [if_neg c0'];rw [if_neg c1'];rw [if_neg c2'];rw [if_neg c3'];rw [if_neg (fun h=>c4' h.2)])⟩,fun w hx=>?_⟩
   have z4:decide ((8:Int) < (k.size:Int))=false:=decide_eq_false (by omega)
   clear c0' c1' c2' c3' c4'
   go_enter Tryz.func28,Tryz.ntmps28
   go_wp2_with (first|((with_reducible refine gate_dst (N:=2) rfl ?_);refine box_event ?hg (N:=2) ?hd (cs:=evC x) (t:=30) ?hr ?_;(case hd=>rfl);(case hg=>rfl);(case hr=>first|(go_simp;done)|(go_simp;rfl));intro g2 hg2 w2 hk2 hb2;have HK2:=Lib.hid hk2;have HW2:=Lib.hid hb2;clear hk2 hb2 hg2)|((with_reducible refine gate_dst (N:=4) rfl ?_);refine box_event ?hg (N:=4) ?hd (cs:=#[.int .i64 0,.int .i64 0,.string (⟨#[]⟩:ByteArray),.slice none 0 0,.slice none 0 0]) (t:=27) ?hr ?_;(case hd=>rfl);(case hg=>rfl);(case hr=>first|(go_simp;done)|(go_simp;rfl));intro g4 hg4 w4 hk4 hb4;(have hne:g2≠g4:=by (rw [hg4];exact Nat.ne_of_lt (blk_lt HK2.out)));(have hn4:w.heap.size≤g4:=by (rw [hg4];exact HW2.out.size));have HNE:=Lib.hid hne;have HN4:=Lib.hid hn4;have HJ4:=Lib.hid hk4;have HB4:=Lib.hid (below_step HW2.out hb4);have HK4:=Lib.hid (blk_below HK2.out hb4);clear hk4 hb4 hg4 hne hn4)|((with_reducible refine gate_store (t:=27) (p:=4) rfl ?_);refine wpList_store_row rfl 27 (.tmp 4) (.tmp 53) rfl g4 #[.int .i64 0,.int .i64 0,.string (⟨#[]⟩:ByteArray),.slice none 0 0,.slice none 0 0] rfl rfl 27 _ HJ4.out (by kernel_rfl) rfl (by simp [Value.oneCell']) ?_;(have hj7:=setRow_heap w4 g4 _ #[.int .i64 0,.int .i64 0,.string (⟨#[]⟩:ByteArray),.slice none 0 0,.slice none 0 0] _ _ HJ4.out);have HB7:=Lib.hid (below_setRow HB4.out HN4.out #[.int .i64 0,.int .i64 0,.string (⟨#[]⟩:ByteArray),.slice none 0 0,.slice none 0 0]);generalize w4.setRow g4 #[.int .i64 0,.int .i64 0,.string (⟨#[]⟩:ByteArray),.slice none 0 0,.slice none 0 0]=w7 at hj7 HB7 ⊢;have HJ7:=Lib.hid hj7;clear hj7))
   refine bodyPost_ret (results_ct rfl _ _ g4 27 #[.int .i64 0,.int .i64 0,.string (⟨#[]⟩:ByteArray),.slice none 0 0,.slice none 0 0] (0,0) _ rfl HJ7.out hu2 rfl (by kernel_rfl)) rfl ?_
   exact ⟨_,_,_,_,_,_,rfl,HB7.out⟩
 have z4:decide ((8:Int) < (k.size:Int))=true:=decide_eq_true (by omega)
 by_cases c5':(k.extract 0 8).toList=[99,111,110,116,101,110,116,46]
 rotate_left
 · refine ⟨false,0,0,⟨#[]⟩,⟨(fun h=>by cases h),(fun _=>by unfold fieldB;rw [if_neg c0'];rw [if_neg c1'];rw [if_neg c2'];rw [if_neg c3'];rw [if_neg (fun h=>c5' h.1)])⟩,fun w hx=>?_⟩
   have z5:((k.extract 0 8).toList==[99,111,110,116,101,110,116,46])=false:=by simp [c5']
   have i8:(8:Int)≤(k.size:Int):=by omega
   clear c0' c1' c2' c3' c5'
   go_enter Tryz.func28,Tryz.ntmps28
   go_wp2_with (first|((with_reducible refine gate_dst (N:=2) rfl ?_);refine box_event ?hg (N:=2) ?hd (cs:=evC x) (t:=30) ?hr ?_;(case hd=>rfl);(case hg=>rfl);(case hr=>first|(go_simp;done)|(go_simp;rfl));intro g2 hg2 w2 hk2 hb2;have HK2:=Lib.hid hk2;have HW2:=Lib.hid hb2;clear hk2 hb2 hg2)|((with_reducible refine gate_dst (N:=4) rfl ?_);refine box_event ?hg (N:=4) ?hd (cs:=#[.int .i64 0,.int .i64 0,.string (⟨#[]⟩:ByteArray),.slice none 0 0,.slice none 0 0]) (t:=27) ?hr ?_;(case hd=>rfl);(case hg=>rfl);(case hr=>first|(go_simp;done)|(go_simp;rfl));intro g4 hg4 w4 hk4 hb4;(have hne:g2≠g4:=by (rw [hg4];exact Nat.ne_of_lt (blk_lt HK2.out)));(have hn4:w.heap.size≤g4:=by (rw [hg4];exact HW2.out.size));have HNE:=Lib.hid hne;have HN4:=Lib.hid hn4;have HJ4:=Lib.hid hk4;have HB4:=Lib.hid (below_step HW2.out hb4);have HK4:=Lib.hid (blk_below HK2.out hb4);clear hk4 hb4 hg4 hne hn4)|((with_reducible refine gate_store (t:=27) (p:=4) rfl ?_);refine wpList_store_row rfl 27 (.tmp 4) (.tmp 53) rfl g4 #[.int .i64 0,.int .i64 0,.string (⟨#[]⟩:ByteArray),.slice none 0 0,.slice none 0 0] rfl rfl 27 _ HJ4.out (by kernel_rfl) rfl (by simp [Value.oneCell']) ?_;(have hj7:=setRow_heap w4 g4 _ #[.int .i64 0,.int .i64 0,.string (⟨#[]⟩:ByteArray),.slice none 0 0,.slice none 0 0] _ _ HJ4.out);have HB7:=Lib.hid (below_setRow HB4.out HN4.out #[.int .i64 0,.int .i64 0,.string (⟨#[]⟩:ByteArray),.slice none 0 0,.slice none 0 0]);generalize w4.setRow g4 #[.int .i64 0,.int .i64 0,.string (⟨#[]⟩:ByteArray),.slice none 0 0,.slice none 0 0]=w7 at hj7 HB7 ⊢;have HJ7:=Lib.hid hj7;clear hj7))
   refine bodyPost_ret (results_ct rfl _ _ g4 27 #[.int .i64 0,.int .i64 0,.string (⟨#[]⟩:ByteArray),.slice none 0 0,.slice none 0 0] (0,0) _ rfl HJ7.out hu2 rfl (by kernel_rfl)) rfl ?_
   exact ⟨_,_,_,_,_,_,rfl,HB7.out⟩
 have z5:((k.extract 0 8).toList==[99,111,110,116,101,110,116,46])=true:=by simp [c5']
 have i8:(8:Int)≤(k.size:Int):=by omega
 have hget:=get_f x.kind x.n x.text x.keys hk x.list (k.extract 8 k.size) (2 * x.keys.length+2) (by omega)
 have hfi:fieldB x k=match aclValue x.kind x.keys x.list (k.extract 8 k.size) with|none=>(0,0,⟨#[]⟩)|some v=>(v.f0,v.f1,v.f2):=by unfold fieldB;rw [if_neg c0'];rw [if_neg c1'];rw [if_neg c2'];rw [if_neg c3'];rw [if_pos ⟨c5',c4'⟩];rfl
 have hFI:FieldIs x k (getOf (aclValue x.kind x.keys x.list (k.extract 8 k.size))).2.2.2.2.2 (getOf (aclValue x.kind x.keys x.list (k.extract 8 k.size))).1 (getOf (aclValue x.kind x.keys x.list (k.extract 8 k.size))).2.1 (getOf (aclValue x.kind x.keys x.list (k.extract 8 k.size))).2.2.1:=by
  unfold FieldIs
  rw [hfi]
  cases aclValue x.kind x.keys x.list (k.extract 8 k.size) with
  | none=>exact ⟨(fun h=>by cases h),(fun _=>rfl)⟩
  | some v=>exact ⟨(fun _=>rfl),(fun h=>by cases h)⟩
 generalize getOf (aclValue x.kind x.keys x.list (k.extract 8 k.size))=t at hget hFI
 obtain ⟨r1,r2,r3,r4,r5,r6⟩:=t
 refine ⟨r6,r1,r2,r3,hFI,fun w hx=>?_⟩
 clear hFI hfi c0' c1' c2' c3' c5'
 have HGe:=Lib.hid (fun W (hb:Below w.heap.size w W)=>(agoraref01_Get.calls (2 * x.keys.length+2) x.kind x.n x.text x.A8 x.c8 x.keys (fun k=>k < W.heap.size) x.A9 x.c9 x.list (k.extract 8 k.size) r1 r2 r3 r4 r5 r6 W (hx.below hb).ok.k8 (hx.below hb).ok.l8 ⟨_,_,rfl,(hx.below hb).ok.l9,Kd.C_F k27_heap (hx.below hb).ok.k9⟩ hget))
 clear hget
 go_enter Tryz.func28,Tryz.ntmps28
 go_wp2_with (first|((with_reducible refine gate_dst (N:=2) rfl ?_);refine box_event ?hg (N:=2) ?hd (cs:=evC x) (t:=30) ?hr ?_;(case hd=>rfl);(case hg=>rfl);(case hr=>first|(go_simp;done)|(go_simp;rfl));intro g2 hg2 w2 hk2 hb2;have HK2:=Lib.hid hk2;have HW2:=Lib.hid hb2;clear hk2 hb2 hg2)|((with_reducible refine gate_dst (N:=4) rfl ?_);refine box_event ?hg (N:=4) ?hd (cs:=#[.int .i64 0,.int .i64 0,.string (⟨#[]⟩:ByteArray),.slice none 0 0,.slice none 0 0]) (t:=27) ?hr ?_;(case hd=>rfl);(case hg=>rfl);(case hr=>first|(go_simp;done)|(go_simp;rfl));intro g4 hg4 w4 hk4 hb4;(have hne:g2≠g4:=by (rw [hg4];exact Nat.ne_of_lt (blk_lt HK2.out)));(have hn4:w.heap.size≤g4:=by (rw [hg4];exact HW2.out.size));have HNE:=Lib.hid hne;have HN4:=Lib.hid hn4;have HJ4:=Lib.hid hk4;have HB4:=Lib.hid (below_step HW2.out hb4);have HK4:=Lib.hid (blk_below HK2.out hb4);clear hk4 hb4 hg4 hne hn4))
 refine wp_region_some _ rfD (rfS x k g2 g4 r1 r2 r3 r6) (rfInv x w g2 g4) (rfR g4) (by kernel_rfl) (by kernel_rfl) (by kernel_rfl) (by kernel_rfl) rfl ⟨below_drew1 HB4.out,HK4.out,_,rfl,HJ4.out⟩ ?_ ?_ ?_ ?_ ?_
 · rintro i w1 w1' ⟨h1,h2,cs,h3,h4⟩ hR
   unfold rfR at hR
   by_cases hi:i=7
   · rw [if_pos hi] at hR
     obtain ⟨cs',h5,rfl⟩:=hR
     exact ⟨below_setRow h1 HN4.out cs',(setRow_other _ _ _ _ HNE.out).trans h2,cs',h5,setRow_heap _ _ _ _ _ _ h4⟩
   · rw [if_neg hi] at hR
     exact ⟨below_step h1 hR,blk_below h2 hR,cs,h3,blk_below h4 hR⟩
 · intro i j hij hr w1 w1' v hinv hR hv
   by_cases hj:j=7
   · subst hj
     unfold rfR at hR
     rw [if_neg hij] at hR
     obtain ⟨A,a,c,B,b,d,h⟩:=hv
     exact ⟨A,a,c,B,b,d,blk_below h hR⟩
   · exact rf_keep x k g2 g4 r1 r2 r3 r6 j hj w1 w1' v hv
 · intro i hi hn w1 v v' hv
   have hi9:i < 9:=hi
   have h7:i=7:=by
    rcases (by omega:i=0∨i=1∨i=2∨i=3∨i=4∨i=5∨i=6∨i=7∨i=8) with h|h|h|h|h|h|h|h|h <;> first|exact h|(subst h;exact absurd hn (by decide))
   subst h7
   exact hv
 · refine ⟨?p0,?p1,?p2,?p3,?p4,?p5,?p6,?p7,?p8,trivial⟩
   case p0=>
    intro _ a w2' hinv hk hd hkp K hK
    have h2:a.tmps[2]?.getD undef=.pointer (some ⟨g2,0,none⟩):=ev_of' ((hk 2 (show ∀ i,i < 9→oslot rfD i≠some 2 by decide)).trans rfl)
    unfold Oper.wp
    go_simp
    exact hK _ _ rfl (Below.refl _ _)
   case p1=>
    intro _ a w2' hinv hk hd hkp K hK
    have e46:a.eval (.tmp 46)=.pointer (some ⟨g2,5,none⟩):=hd 0 (by decide) (by kernel_rfl)
    exact wp_load_part 27 (.tmp 46) rfl g2 5 e46 30 (evC x) #[.int .i64 x.kind,.int .i64 x.n,.string x.text,.slice x.A8 x.keys.length x.c8,.slice x.A9 x.list.length x.c9] (0,0) _ hinv.2.1 rfl hu2 rfl (by kernel_rfl) (hK _ _ rfl (Below.refl _ _))
   case p2=>
    intro _ a w2' hinv hk hd hkp K hK
    have h1:a.tmps[1]?.getD undef=.string k:=ev_of' ((hk 1 (show ∀ i,i < 9→oslot rfD i≠some 1 by decide)).trans rfl)
    unfold Oper.wp
    go_simp
    exact hK _ _ rfl (Below.refl _ _)
   case p3=>
    intro _ a w2' hinv hk hd hkp K hK
    have h48:a.tmps[48]?.getD undef=.string k:=ev_of' (hd 2 (by decide) (by kernel_rfl))
    have i8':=i8
    unfold Oper.wp
    go_simp
    exact hK _ _ rfl (Below.refl _ _)
   case p4=>
    intro _ a w2' hinv hk hd hkp K hK
    have h47:a.tmps[47]?.getD undef=.agg #[.int .i64 x.kind,.int .i64 x.n,.string x.text,.slice x.A8 x.keys.length x.c8,.slice x.A9 x.list.length x.c9]:=ev_of' (hd 1 (by decide) (by kernel_rfl))
    have h49:a.tmps[49]?.getD undef=.string (k.extract 8 k.size):=ev_of' (hd 3 (by decide) (by kernel_rfl))
    unfold Oper.wp
    go_simp
    refine (HGe.out _ hinv.1).mono ?_
    rintro e w5 ⟨v3,v4,rfl,⟨A5,c5',rfl,_,_⟩,⟨B5,d5,rfl,_,_⟩,hb5⟩
    exact hK _ _ ⟨_,_,_,_,_,_,rfl⟩ hb5
   case p5=>
    intro _ a w2' hinv hk hd hkp K hK
    obtain ⟨A,a',c,B,b,d,h⟩:=hd 4 (by decide) (by kernel_rfl)
    have h50:a.tmps[50]?.getD undef=.tuple #[.agg #[.int .i64 r1,.int .i64 r2,.string r3,.slice A a' c,.slice B b d],.bool r6]:=ev_of' h
    clear h
    unfold Oper.wp
    go_simp
    exact hK _ _ ⟨_,_,_,_,_,_,rfl⟩ (Below.refl _ _)
   case p6=>
    intro _ a w2' hinv hk hd hkp K hK
    obtain ⟨A,a',c,B,b,d,h⟩:=hd 4 (by decide) (by kernel_rfl)
    have h50:a.tmps[50]?.getD undef=.tuple #[.agg #[.int .i64 r1,.int .i64 r2,.string r3,.slice A a' c,.slice B b d],.bool r6]:=ev_of' h
    clear h
    unfold Oper.wp
    go_simp
    exact hK _ _ rfl (Below.refl _ _)
   case p7=>
    intro _ a w2' hinv hk hd hkp K hK
    obtain ⟨A,a',c,B,b,d,h⟩:=hd 5 (by decide) (by kernel_rfl)
    have h':a.eval (.tmp 51)=.agg #[.int .i64 r1,.int .i64 r2,.string r3,.slice A a' c,.slice B b d]:=h
    have e4:a.eval (.tmp 4)=.pointer (some ⟨g4,0,none⟩):=(hk 4 (show ∀ i,i < 9→oslot rfD i≠some 4 by decide)).trans rfl
    obtain ⟨-,-,cs,h3,h4⟩:=hinv
    exact wp_store_row 27 (.tmp 4) (.tmp 51) rfl g4 #[.int .i64 r1,.int .i64 r2,.string r3,.slice A a' c,.slice B b d] e4 h' 27 cs h4 (by kernel_rfl) h3 (by simp [Value.oneCell']) (hK _ _ ⟨A,a',c,B,b,d,setRow_heap _ _ _ _ _ _ h4⟩ (show rfR g4 7 _ _ from by unfold rfR;rw [if_pos rfl];exact ⟨_,rfl,rfl⟩))
   case p8=>
    intro _ a w2' hinv hk hd hkp K hK
    have h52:a.tmps[52]?.getD undef=.bool r6:=ev_of' (hd 6 (by decide) (by kernel_rfl))
    unfold Oper.wp
    go_simp
    exact hK _ _ rfl (Below.refl _ _)
 · intro w7 f hinv hf
   obtain ⟨A,a,c,B,b,d,hj7⟩:=hf 7 (by decide)
   have HJ7:=Lib.hid hj7
   have HB7:=Lib.hid hinv.1
   clear hinv hf hj7
   dsimp only [putsO,conc,rfD,rfS,Spec.value]
   simp only [Act.put,List.setIfInBounds_toArray,List.set_cons_succ,List.set_cons_zero]
   go_wp2
   refine bodyPost_ret (results_ct rfl _ _ g4 27 #[.int .i64 r1,.int .i64 r2,.string r3,.slice A a c,.slice B b d] (0,0) _ rfl HJ7.out hu2 rfl (by kernel_rfl)) rfl ?_
   exact ⟨_,_,_,_,_,_,rfl,HB7.out⟩
end Go.Proofs.YtodhmbnfliajiaaGreatDoor.Q
