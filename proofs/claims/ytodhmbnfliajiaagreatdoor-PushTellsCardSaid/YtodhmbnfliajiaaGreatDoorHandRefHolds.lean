/- HandRefHolds: a text of this claim's proof,as printed or written,without what the claim does not use. -/
import Derived.WalkKit
import Derived.WalkSpells
import Derived.WalkSmall
import Derived.Deep.LoopGhost
import Derived.Lib.Hide
import Derived.BigQuiet
import Derived.Deep.QuietTactic
import Derived.Test.YtodhmbnfliajiaaGreatDoorShelf
import Derived.Test.YtodhmbnfliajiaaGreatDoorHandHolds
import Derived.Test.YtodhmbnfliajiaaGreatDoorPureWord
import Derived.Test.YtodhmbnfliajiaaGreatDoorJ12
import Derived.Test.YtodhmbnfliajiaaGreatDoorHandRField
import Derived.Test.YtodhmbnfliajiaaGreatDoorQx0
import Derived.Test.YtodhmbnfliajiaaGreatDoorQx12
import Derived.Test.YtodhmbnfliajiaaGreatDoorQx13
namespace Go.Proofs.YtodhmbnfliajiaaGreatDoor.Q
open Go.RowKit Go.Shelf Go.Proofs.YtodhmbnfliajiaaGreatDoorW.PrintWords Go.Proofs.YtodhmbnfliajiaaGreatDoorW.PrintLast Go.Proofs.YtodhmbnfliajiaaGreatDoorW.PrintMore
set_option linter.unusedVariables false
theorem rfield_calls (x:EvV) (k:ByteArray) (hk:x.keys.length≤1000000000) : ∃ b r1 r2 r3,FieldIs x k b r1 r2 r3∧∀ w,x.OkR w→Calls Tryz.prog 28 #[.agg #[.string x.room,.string x.type,.string x.sender,.bool x.isS,.string x.key,.int .i64 x.kind,.int .i64 x.n,.string x.text,.slice x.A8 x.keys.length x.c8,.slice x.A9 x.list.length x.c9,.slice x.A10 x.prev.length x.c10,.slice x.A11 x.auth.length x.c11,.int .i64 x.depth,.int .i64 x.ts,.string x.hash,.slice x.A15 x.sigs.length x.c15],.string k] w fun e w'=>∃ A a c B b' d,e=.returned (.tuple #[.agg #[.int .i64 r1,.int .i64 r2,.string r3,.slice A a c,.slice B b' d],.bool b])∧Below w.heap.size w w':=rfield_c x k hk
theorem rword_calls (p s:ByteArray) (hp:p.size≤1000000000) (hs:s.size≤1000000000) (w:World):Calls Tryz.prog 29 #[.string p,.string s] w fun e w'=>e=.returned (.bool (wordB p s))∧Below w.heap.size w w':=by
 obtain ⟨K,h⟩:=ref_Word_f p s hp hs
 exact agoraref23_Word.calls K p s _ w h
theorem rfold_calls (p s:ByteArray) (hp:p.size≤1000000000) (hs:s.size≤1000000000) (w:World):Calls Tryz.prog 30 #[.string p,.string s] w fun e w'=>e=.returned (.bool (foldB p s))∧Below w.heap.size w w':=by
 obtain ⟨K,h⟩:=ref_Fold_f p s hp hs
 exact agoraref23_Fold.calls K p s _ w h
theorem rplain_calls (p:ByteArray) (hp:p.size≤1000000000) (w:World):Calls Tryz.prog 31 #[.string p] w fun e w'=>e=.returned (.bool (plainB p))∧Below w.heap.size w w' :=
 (agoraref23_Plain.calls (p.size+1) p _ w (ref_Plain_f p hp _ (by omega))).mono fun e w' h=>⟨h.1,h.2.below⟩
theorem rmembers_calls (p:ByteArray) (n:Int) (hp:p.size≤1000000000) (w:World):Calls Tryz.prog 32 #[.string p,.int .i64 n] w fun e w'=>e=.returned (.bool (standsB p n))∧Below w.heap.size w w' :=
 (agoraref27_members.calls (p.size+2) p n _ w (members_f p n hp _ (by omega))).mono fun e w' h=>⟨h.1,h.2.below⟩
set_option maxRecDepth 100000 in
set_option maxHeartbeats 8000000 in
theorem rholds_named (ck ckey cpat:ByteArray) (cn:Int) (x:EvV) (user name:ByteArray) (mem lev:Int) (w:World) (hp:cpat.size≤1000000000) (hn:name.size≤1000000000) (hf : ∀ k,(fieldB x k).2.2.size≤1000000000) (hk:x.keys.length≤1000000000) (hx:x.OkR w) (c0:ck.toList=([99,111,110,116,97,105,110,115,95,100,105,115,112,108,97,121,95,110,97,109,101]:List UInt8)) :
 Calls Tryz.prog 12 #[.agg #[.string ck,.string ckey,.string cpat,.int .i64 cn],.agg #[.string x.room,.string x.type,.string x.sender,.bool x.isS,.string x.key,.int .i64 x.kind,.int .i64 x.n,.string x.text,.slice x.A8 x.keys.length x.c8,.slice x.A9 x.list.length x.c9,.slice x.A10 x.prev.length x.c10,.slice x.A11 x.auth.length x.c11,.int .i64 x.depth,.int .i64 x.ts,.string x.hash,.slice x.A15 x.sigs.length x.c15,.string user,.string name,.int .i64 mem,.int .i64 lev]] w fun e w'=>e=.returned (.bool (holdsB ck ckey cpat cn x name mem lev))∧Below w.heap.size w w':=by
 have hv:=holdsB.eq_1 ck ckey cpat cn x name mem lev
 have HB:=Lib.hid (((Below.refl w.heap.size w).alloc (Nat.le_refl _) (.cells #[.string ck,.string ckey,.string cpat,.int .i64 cn] 23)).alloc (by simp) (.cells #[.string x.room,.string x.type,.string x.sender,.bool x.isS,.string x.key,.int .i64 x.kind,.int .i64 x.n,.string x.text,.slice x.A8 x.keys.length x.c8,.slice x.A9 x.list.length x.c9,.slice x.A10 x.prev.length x.c10,.slice x.A11 x.auth.length x.c11,.int .i64 x.depth,.int .i64 x.ts,.string x.hash,.slice x.A15 x.sigs.length x.c15,.string user,.string name,.int .i64 mem,.int .i64 lev] 32))
 have HKc:=Lib.hid (blk_alloc (blk_new w (.cells #[.string ck,.string ckey,.string cpat,.int .i64 cn] 23)) (.cells #[.string x.room,.string x.type,.string x.sender,.bool x.isS,.string x.key,.int .i64 x.kind,.int .i64 x.n,.string x.text,.slice x.A8 x.keys.length x.c8,.slice x.A9 x.list.length x.c9,.slice x.A10 x.prev.length x.c10,.slice x.A11 x.auth.length x.c11,.int .i64 x.depth,.int .i64 x.ts,.string x.hash,.slice x.A15 x.sigs.length x.c15,.string user,.string name,.int .i64 mem,.int .i64 lev] 32))
 have hks:=blk_new (w.alloc (.cells #[.string ck,.string ckey,.string cpat,.int .i64 cn] 23)) (.cells #[.string x.room,.string x.type,.string x.sender,.bool x.isS,.string x.key,.int .i64 x.kind,.int .i64 x.n,.string x.text,.slice x.A8 x.keys.length x.c8,.slice x.A9 x.list.length x.c9,.slice x.A10 x.prev.length x.c10,.slice x.A11 x.auth.length x.c11,.int .i64 x.depth,.int .i64 x.ts,.string x.hash,.slice x.A15 x.sigs.length x.c15,.string user,.string name,.int .i64 mem,.int .i64 lev] 32)
 rw [show (w.alloc (.cells #[.string ck,.string ckey,.string cpat,.int .i64 cn] 23)).heap.size=w.heap.size+1 by simp] at hks
 have HKs:=Lib.hid hks
 have HFS:=Lib.hid hf
 have HX:=Lib.hid (fun W (hb:Below w.heap.size w W)=>hx.below hb)
 clear hx hf hks
 rw [if_pos c0] at hv
 have b0:(ck.toList==([99,111,110,116,97,105,110,115,95,100,105,115,112,108,97,121,95,110,97,109,101]:List UInt8))=true:=by rw [c0];decide
 have b1:(ck.toList==([101,118,101,110,116,95,109,97,116,99,104]:List UInt8))=false:=by rw [c0];decide
 have b2:(ck.toList==([101,118,101,110,116,95,112,114,111,112,101,114,116,121,95,105,115]:List UInt8))=false:=by rw [c0];decide
 have b3:(ck.toList==([114,111,111,109,95,109,101,109,98,101,114,95,99,111,117,110,116]:List UInt8))=false:=by rw [c0];decide
 have b4:(ck.toList==([115,101,110,100,101,114,95,110,111,116,105,102,105,99,97,116,105,111,110,95,112,101,114,109,105,115,115,105,111,110]:List UInt8))=false:=by rw [c0];decide
 clear c0
 obtain ⟨b,v1,v2,v3,hF,hC⟩:=rfield_calls x bodyK hk
 have HF2:=Lib.hid hC
 clear hC hk
 have hfs:=HFS.out bodyK
 clear HFS
 have hbk:bodyK=(⟨#[99,111,110,116,101,110,116,46,98,111,100,121]⟩:ByteArray):=rfl
 rw [hbk] at HF2 hv hfs hF
 clear hbk
 have HPl:=Lib.hid (fun W=>rplain_calls name hn W)
 cases b with
 | false=>
  rw [hF.2 rfl] at hv
  have HV2:=Lib.hid (show holdsB ck ckey cpat cn x name mem lev=false by rw [hv];simp)
  clear hv hF hfs
  as_aux_lemma=>
   go_enter Tryz.func12,Tryz.ntmps12
   go_wp2_with (go_at_call 28;refine (HF2.out _ (HX.out _ HB.out)).mono ?_;rintro e w4 ⟨A,a,c,B,b',d,rfl,hb4⟩;have cK:w4.cell? ⟨w.heap.size,1,none⟩=some (.string ckey):=(blk_cell (blk_below HKc.out hb4) 1).trans rfl;have cP:w4.cell? ⟨w.heap.size,2,none⟩=some (.string cpat):=(blk_cell (blk_below HKc.out hb4) 2).trans rfl;have cN:w4.cell? ⟨w.heap.size,3,none⟩=some (.int .i64 cn):=(blk_cell (blk_below HKc.out hb4) 3).trans rfl;have cM:w4.cell? ⟨w.heap.size+1,17,none⟩=some (.string name):=(blk_cell (blk_below HKs.out hb4) 17).trans rfl;have hlt4:w.heap.size < w4.heap.size:=blk_lt (blk_below HKc.out hb4);have hlt5:w.heap.size+1 < w4.heap.size:=blk_lt (blk_below HKs.out hb4);have HB4:=Lib.hid (below_step HB.out hb4);clear hb4)
   go_ret
   exact ⟨by rw [HV2.out];rfl,HB4.out.alloc HB4.out.size _⟩
 | true=>
  rw [hF.1 rfl] at hv hfs
  simp only at hv hfs
  clear hF
  by_cases h3:v1=3
  · subst h3
    have hv':holdsB ck ckey cpat cn x name mem lev=(plainB name && wordB name v3):=by rw [hv];simp
    clear hv
    by_cases hn0:name.toList=[]
    · have n1:(name.toList==([]:List UInt8))=true:=by simp [hn0]
      have n2:(name.toList != ([]:List UInt8))=false:=by simp [hn0]
      have n3:name.toList.isEmpty=true:=by simp [hn0]
      have HV2:=Lib.hid (show holdsB ck ckey cpat cn x name mem lev=false by rw [hv'];unfold wordB;rw [n3];simp)
      clear hv' hn0
      as_aux_lemma=>
       go_enter Tryz.func12,Tryz.ntmps12
       go_wp2_with (go_at_call 28;refine (HF2.out _ (HX.out _ HB.out)).mono ?_;rintro e w4 ⟨A,a,c,B,b',d,rfl,hb4⟩;have cK:w4.cell? ⟨w.heap.size,1,none⟩=some (.string ckey):=(blk_cell (blk_below HKc.out hb4) 1).trans rfl;have cP:w4.cell? ⟨w.heap.size,2,none⟩=some (.string cpat):=(blk_cell (blk_below HKc.out hb4) 2).trans rfl;have cN:w4.cell? ⟨w.heap.size,3,none⟩=some (.int .i64 cn):=(blk_cell (blk_below HKc.out hb4) 3).trans rfl;have cM:w4.cell? ⟨w.heap.size+1,17,none⟩=some (.string name):=(blk_cell (blk_below HKs.out hb4) 17).trans rfl;have hlt4:w.heap.size < w4.heap.size:=blk_lt (blk_below HKc.out hb4);have hlt5:w.heap.size+1 < w4.heap.size:=blk_lt (blk_below HKs.out hb4);have HB4:=Lib.hid (below_step HB.out hb4);clear hb4)
       go_ret
       exact ⟨by rw [HV2.out];rfl,HB4.out.alloc HB4.out.size _⟩
    · have n1:(name.toList==([]:List UInt8))=false:=by simp [hn0]
      have n2:(name.toList != ([]:List UInt8))=true:=by simp [hn0]
      have n3:name.toList.isEmpty=false:=by cases hh:name.toList with
       | nil=>exact absurd hh hn0
       | cons a l=>rfl
      cases hpl:plainB name with
      | false=>
       rw [hpl] at hv' HPl
       have HV2:=Lib.hid (show holdsB ck ckey cpat cn x name mem lev=false by rw [hv'];rfl)
       clear hv' hn0 hpl
       as_aux_lemma=>
        go_enter Tryz.func12,Tryz.ntmps12
        go_wp2_with (first|(go_at_call 28;refine (HF2.out _ (HX.out _ HB.out)).mono ?_;rintro e w4 ⟨A,a,c,B,b',d,rfl,hb4⟩;have cK:w4.cell? ⟨w.heap.size,1,none⟩=some (.string ckey):=(blk_cell (blk_below HKc.out hb4) 1).trans rfl;have cP:w4.cell? ⟨w.heap.size,2,none⟩=some (.string cpat):=(blk_cell (blk_below HKc.out hb4) 2).trans rfl;have cN:w4.cell? ⟨w.heap.size,3,none⟩=some (.int .i64 cn):=(blk_cell (blk_below HKc.out hb4) 3).trans rfl;have cM:w4.cell? ⟨w.heap.size+1,17,none⟩=some (.string name):=(blk_cell (blk_below HKs.out hb4) 17).trans rfl;have hlt4:w.heap.size < w4.heap.size:=blk_lt (blk_below HKc.out hb4);have hlt5:w.heap.size+1 < w4.heap.size:=blk_lt (blk_below HKs.out hb4);have HB4:=Lib.hid (below_step HB.out hb4);clear hb4)|(go_at_call 31;refine (HPl.out _).mono ?_;rintro e w5 ⟨rfl,hb5⟩;have HB5:=Lib.hid (below_step (HB4.out.alloc HB4.out.size _) hb5);clear hb5))
        go_ret
        exact ⟨by rw [HV2.out];rfl,HB5.out⟩
      | true=>
       rw [hpl] at hv' HPl
       have HW:=Lib.hid (fun W=>rword_calls name v3 hn hfs W)
       have HV2:=Lib.hid (show holdsB ck ckey cpat cn x name mem lev=wordB name v3 by rw [hv'];rfl)
       clear hv' hn0 hpl
       as_aux_lemma=>
        go_enter Tryz.func12,Tryz.ntmps12
        go_wp2_with (first|(go_at_call 28;refine (HF2.out _ (HX.out _ HB.out)).mono ?_;rintro e w4 ⟨A,a,c,B,b',d,rfl,hb4⟩;have cK:w4.cell? ⟨w.heap.size,1,none⟩=some (.string ckey):=(blk_cell (blk_below HKc.out hb4) 1).trans rfl;have cP:w4.cell? ⟨w.heap.size,2,none⟩=some (.string cpat):=(blk_cell (blk_below HKc.out hb4) 2).trans rfl;have cN:w4.cell? ⟨w.heap.size,3,none⟩=some (.int .i64 cn):=(blk_cell (blk_below HKc.out hb4) 3).trans rfl;have cM:w4.cell? ⟨w.heap.size+1,17,none⟩=some (.string name):=(blk_cell (blk_below HKs.out hb4) 17).trans rfl;have hlt4:w.heap.size < w4.heap.size:=blk_lt (blk_below HKc.out hb4);have hlt5:w.heap.size+1 < w4.heap.size:=blk_lt (blk_below HKs.out hb4);have HB4:=Lib.hid (below_step HB.out hb4);clear hb4)|(go_at_call 31;refine (HPl.out _).mono ?_;rintro e w5 ⟨rfl,hb5⟩;have HB5:=Lib.hid (below_step (HB4.out.alloc HB4.out.size _) hb5);have cM5:w5.cell? ⟨w.heap.size+1,17,none⟩=some (.string name):=pw_cell_below (below_step ((Below.refl w4.heap.size w4).alloc (Nat.le_refl _) _) hb5) cM;have cT5:w5.cell? ⟨w4.heap.size,2,none⟩=some (.string v3):=pw_cell_below hb5 ((blk_cell (blk_new w4 (.cells #[.int .i64 3,.int .i64 v2,.string v3,.slice A a c,.slice B b' d] 27)) 2).trans rfl);clear hb5)|(go_at_call 29;refine (HW.out _).mono ?_;rintro e w6 ⟨rfl,hb6⟩;have HB6:=Lib.hid (HB5.out.trans (hb6.mono HB5.out.size));clear hb6))
        go_ret
        exact ⟨by rw [HV2.out];rfl,HB6.out⟩
  · have b3:(v1==3)=false:=by simp [h3]
    have HV2:=Lib.hid (show holdsB ck ckey cpat cn x name mem lev=false by rw [hv];simp [h3])
    clear hv h3
    as_aux_lemma=>
     go_enter Tryz.func12,Tryz.ntmps12
     go_wp2_with (go_at_call 28;refine (HF2.out _ (HX.out _ HB.out)).mono ?_;rintro e w4 ⟨A,a,c,B,b',d,rfl,hb4⟩;have cK:w4.cell? ⟨w.heap.size,1,none⟩=some (.string ckey):=(blk_cell (blk_below HKc.out hb4) 1).trans rfl;have cP:w4.cell? ⟨w.heap.size,2,none⟩=some (.string cpat):=(blk_cell (blk_below HKc.out hb4) 2).trans rfl;have cN:w4.cell? ⟨w.heap.size,3,none⟩=some (.int .i64 cn):=(blk_cell (blk_below HKc.out hb4) 3).trans rfl;have cM:w4.cell? ⟨w.heap.size+1,17,none⟩=some (.string name):=(blk_cell (blk_below HKs.out hb4) 17).trans rfl;have hlt4:w.heap.size < w4.heap.size:=blk_lt (blk_below HKc.out hb4);have hlt5:w.heap.size+1 < w4.heap.size:=blk_lt (blk_below HKs.out hb4);have HB4:=Lib.hid (below_step HB.out hb4);clear hb4)
     go_ret
     exact ⟨by rw [HV2.out];rfl,HB4.out.alloc HB4.out.size _⟩
set_option maxRecDepth 100000 in
set_option maxHeartbeats 8000000 in
theorem rholds_match (ck ckey cpat:ByteArray) (cn:Int) (x:EvV) (user name:ByteArray) (mem lev:Int) (w:World) (hp:cpat.size≤1000000000) (hn:name.size≤1000000000) (hf : ∀ k,(fieldB x k).2.2.size≤1000000000) (hk:x.keys.length≤1000000000) (hx:x.OkR w) (c0:ck.toList≠([99,111,110,116,97,105,110,115,95,100,105,115,112,108,97,121,95,110,97,109,101]:List UInt8)) (c1:ck.toList=([101,118,101,110,116,95,109,97,116,99,104]:List UInt8)) :
 Calls Tryz.prog 12 #[.agg #[.string ck,.string ckey,.string cpat,.int .i64 cn],.agg #[.string x.room,.string x.type,.string x.sender,.bool x.isS,.string x.key,.int .i64 x.kind,.int .i64 x.n,.string x.text,.slice x.A8 x.keys.length x.c8,.slice x.A9 x.list.length x.c9,.slice x.A10 x.prev.length x.c10,.slice x.A11 x.auth.length x.c11,.int .i64 x.depth,.int .i64 x.ts,.string x.hash,.slice x.A15 x.sigs.length x.c15,.string user,.string name,.int .i64 mem,.int .i64 lev]] w fun e w'=>e=.returned (.bool (holdsB ck ckey cpat cn x name mem lev))∧Below w.heap.size w w':=by
 have hv:=holdsB.eq_1 ck ckey cpat cn x name mem lev
 have HB:=Lib.hid (((Below.refl w.heap.size w).alloc (Nat.le_refl _) (.cells #[.string ck,.string ckey,.string cpat,.int .i64 cn] 23)).alloc (by simp) (.cells #[.string x.room,.string x.type,.string x.sender,.bool x.isS,.string x.key,.int .i64 x.kind,.int .i64 x.n,.string x.text,.slice x.A8 x.keys.length x.c8,.slice x.A9 x.list.length x.c9,.slice x.A10 x.prev.length x.c10,.slice x.A11 x.auth.length x.c11,.int .i64 x.depth,.int .i64 x.ts,.string x.hash,.slice x.A15 x.sigs.length x.c15,.string user,.string name,.int .i64 mem,.int .i64 lev] 32))
 have HKc:=Lib.hid (blk_alloc (blk_new w (.cells #[.string ck,.string ckey,.string cpat,.int .i64 cn] 23)) (.cells #[.string x.room,.string x.type,.string x.sender,.bool x.isS,.string x.key,.int .i64 x.kind,.int .i64 x.n,.string x.text,.slice x.A8 x.keys.length x.c8,.slice x.A9 x.list.length x.c9,.slice x.A10 x.prev.length x.c10,.slice x.A11 x.auth.length x.c11,.int .i64 x.depth,.int .i64 x.ts,.string x.hash,.slice x.A15 x.sigs.length x.c15,.string user,.string name,.int .i64 mem,.int .i64 lev] 32))
 have hks:=blk_new (w.alloc (.cells #[.string ck,.string ckey,.string cpat,.int .i64 cn] 23)) (.cells #[.string x.room,.string x.type,.string x.sender,.bool x.isS,.string x.key,.int .i64 x.kind,.int .i64 x.n,.string x.text,.slice x.A8 x.keys.length x.c8,.slice x.A9 x.list.length x.c9,.slice x.A10 x.prev.length x.c10,.slice x.A11 x.auth.length x.c11,.int .i64 x.depth,.int .i64 x.ts,.string x.hash,.slice x.A15 x.sigs.length x.c15,.string user,.string name,.int .i64 mem,.int .i64 lev] 32)
 rw [show (w.alloc (.cells #[.string ck,.string ckey,.string cpat,.int .i64 cn] 23)).heap.size=w.heap.size+1 by simp] at hks
 have HKs:=Lib.hid hks
 have HFS:=Lib.hid hf
 have HX:=Lib.hid (fun W (hb:Below w.heap.size w W)=>hx.below hb)
 clear hx hf hks
 rw [if_neg c0] at hv
 rw [if_pos c1] at hv
 have b0:(ck.toList==([99,111,110,116,97,105,110,115,95,100,105,115,112,108,97,121,95,110,97,109,101]:List UInt8))=false:=by rw [c1];decide
 have b1:(ck.toList==([101,118,101,110,116,95,109,97,116,99,104]:List UInt8))=true:=by rw [c1];decide
 have b2:(ck.toList==([101,118,101,110,116,95,112,114,111,112,101,114,116,121,95,105,115]:List UInt8))=false:=by rw [c1];decide
 have b3:(ck.toList==([114,111,111,109,95,109,101,109,98,101,114,95,99,111,117,110,116]:List UInt8))=false:=by rw [c1];decide
 have b4:(ck.toList==([115,101,110,100,101,114,95,110,111,116,105,102,105,99,97,116,105,111,110,95,112,101,114,109,105,115,115,105,111,110]:List UInt8))=false:=by rw [c1];decide
 clear c0 c1
 obtain ⟨b,v1,v2,v3,hF,hC⟩:=rfield_calls x ckey hk
 have HF2:=Lib.hid hC
 clear hC hk
 have hfs:=HFS.out ckey
 clear HFS
 cases b with
 | false=>
  rw [hF.2 rfl] at hv
  have HV2:=Lib.hid (show holdsB ck ckey cpat cn x name mem lev=false by rw [hv];rfl)
  clear hv hF hfs
  as_aux_lemma=>
   go_enter Tryz.func12,Tryz.ntmps12
   go_wp2_with (go_at_call 28;refine (HF2.out _ (HX.out _ HB.out)).mono ?_;rintro e w4 ⟨A,a,c,B,b',d,rfl,hb4⟩;have cK:w4.cell? ⟨w.heap.size,1,none⟩=some (.string ckey):=(blk_cell (blk_below HKc.out hb4) 1).trans rfl;have cP:w4.cell? ⟨w.heap.size,2,none⟩=some (.string cpat):=(blk_cell (blk_below HKc.out hb4) 2).trans rfl;have cN:w4.cell? ⟨w.heap.size,3,none⟩=some (.int .i64 cn):=(blk_cell (blk_below HKc.out hb4) 3).trans rfl;have cM:w4.cell? ⟨w.heap.size+1,17,none⟩=some (.string name):=(blk_cell (blk_below HKs.out hb4) 17).trans rfl;have hlt4:w.heap.size < w4.heap.size:=blk_lt (blk_below HKc.out hb4);have hlt5:w.heap.size+1 < w4.heap.size:=blk_lt (blk_below HKs.out hb4);have HB4:=Lib.hid (below_step HB.out hb4);clear hb4)
   go_ret
   exact ⟨by rw [HV2.out];rfl,HB4.out.alloc HB4.out.size _⟩
 | true=>
  rw [hF.1 rfl] at hv hfs
  simp only at hv hfs
  clear hF
  by_cases h3:v1=3
  · subst h3
    have hv':holdsB ck ckey cpat cn x name mem lev=(if ckey.toList=([99,111,110,116,101,110,116,46,98,111,100,121]:List UInt8) then wordB cpat v3 else foldB cpat v3):=by rw [hv];simp
    clear hv
    by_cases hb:ckey.toList=([99,111,110,116,101,110,116,46,98,111,100,121]:List UInt8)
    · rw [if_pos hb] at hv'
      have HW:=Lib.hid (fun W=>rword_calls cpat v3 hp hfs W)
      have k1:(ckey.toList==([99,111,110,116,101,110,116,46,98,111,100,121]:List UInt8))=true:=by rw [hb];decide
      have HV2:=Lib.hid hv'
      clear hv' hb
      as_aux_lemma=>
       go_enter Tryz.func12,Tryz.ntmps12
       go_wp2_with (first|(go_at_call 28;refine (HF2.out _ (HX.out _ HB.out)).mono ?_;rintro e w4 ⟨A,a,c,B,b',d,rfl,hb4⟩;have cK:w4.cell? ⟨w.heap.size,1,none⟩=some (.string ckey):=(blk_cell (blk_below HKc.out hb4) 1).trans rfl;have cP:w4.cell? ⟨w.heap.size,2,none⟩=some (.string cpat):=(blk_cell (blk_below HKc.out hb4) 2).trans rfl;have cN:w4.cell? ⟨w.heap.size,3,none⟩=some (.int .i64 cn):=(blk_cell (blk_below HKc.out hb4) 3).trans rfl;have cM:w4.cell? ⟨w.heap.size+1,17,none⟩=some (.string name):=(blk_cell (blk_below HKs.out hb4) 17).trans rfl;have hlt4:w.heap.size < w4.heap.size:=blk_lt (blk_below HKc.out hb4);have hlt5:w.heap.size+1 < w4.heap.size:=blk_lt (blk_below HKs.out hb4);have HB4:=Lib.hid (below_step HB.out hb4);clear hb4)|(go_at_call 29;refine (HW.out _).mono ?_;rintro e w5 ⟨rfl,hb5⟩;have HB5:=Lib.hid (below_step (HB4.out.alloc HB4.out.size _) hb5);clear hb5))
       go_ret
       exact ⟨by rw [HV2.out];rfl,HB5.out⟩
    · rw [if_neg hb] at hv'
      have HW:=Lib.hid (fun W=>rfold_calls cpat v3 hp hfs W)
      have k1:(ckey.toList==([99,111,110,116,101,110,116,46,98,111,100,121]:List UInt8))=false:=by simpa using hb
      have HV2:=Lib.hid hv'
      clear hv' hb
      as_aux_lemma=>
       go_enter Tryz.func12,Tryz.ntmps12
       go_wp2_with (first|(go_at_call 28;refine (HF2.out _ (HX.out _ HB.out)).mono ?_;rintro e w4 ⟨A,a,c,B,b',d,rfl,hb4⟩;have cK:w4.cell? ⟨w.heap.size,1,none⟩=some (.string ckey):=(blk_cell (blk_below HKc.out hb4) 1).trans rfl;have cP:w4.cell? ⟨w.heap.size,2,none⟩=some (.string cpat):=(blk_cell (blk_below HKc.out hb4) 2).trans rfl;have cN:w4.cell? ⟨w.heap.size,3,none⟩=some (.int .i64 cn):=(blk_cell (blk_below HKc.out hb4) 3).trans rfl;have cM:w4.cell? ⟨w.heap.size+1,17,none⟩=some (.string name):=(blk_cell (blk_below HKs.out hb4) 17).trans rfl;have hlt4:w.heap.size < w4.heap.size:=blk_lt (blk_below HKc.out hb4);have hlt5:w.heap.size+1 < w4.heap.size:=blk_lt (blk_below HKs.out hb4);have HB4:=Lib.hid (below_step HB.out hb4);clear hb4)|(go_at_call 30;refine (HW.out _).mono ?_;rintro e w5 ⟨rfl,hb5⟩;have HB5:=Lib.hid (below_step (HB4.out.alloc HB4.out.size _) hb5);clear hb5))
       go_ret
       exact ⟨by rw [HV2.out];rfl,HB5.out⟩
  · have b3:(v1 != 3)=true:=by simp [h3]
    have HV2:=Lib.hid (show holdsB ck ckey cpat cn x name mem lev=false by rw [hv];simp [h3])
    clear hv h3
    as_aux_lemma=>
     go_enter Tryz.func12,Tryz.ntmps12
     go_wp2_with (go_at_call 28;refine (HF2.out _ (HX.out _ HB.out)).mono ?_;rintro e w4 ⟨A,a,c,B,b',d,rfl,hb4⟩;have cK:w4.cell? ⟨w.heap.size,1,none⟩=some (.string ckey):=(blk_cell (blk_below HKc.out hb4) 1).trans rfl;have cP:w4.cell? ⟨w.heap.size,2,none⟩=some (.string cpat):=(blk_cell (blk_below HKc.out hb4) 2).trans rfl;have cN:w4.cell? ⟨w.heap.size,3,none⟩=some (.int .i64 cn):=(blk_cell (blk_below HKc.out hb4) 3).trans rfl;have cM:w4.cell? ⟨w.heap.size+1,17,none⟩=some (.string name):=(blk_cell (blk_below HKs.out hb4) 17).trans rfl;have hlt4:w.heap.size < w4.heap.size:=blk_lt (blk_below HKc.out hb4);have hlt5:w.heap.size+1 < w4.heap.size:=blk_lt (blk_below HKs.out hb4);have HB4:=Lib.hid (below_step HB.out hb4);clear hb4)
     go_ret
     exact ⟨by rw [HV2.out];rfl,HB4.out.alloc HB4.out.size _⟩
set_option maxRecDepth 100000 in
set_option maxHeartbeats 8000000 in
theorem rholds_prop (ck ckey cpat:ByteArray) (cn:Int) (x:EvV) (user name:ByteArray) (mem lev:Int) (w:World) (hp:cpat.size≤1000000000) (hn:name.size≤1000000000) (hf : ∀ k,(fieldB x k).2.2.size≤1000000000) (hk:x.keys.length≤1000000000) (hx:x.OkR w) (c0:ck.toList≠([99,111,110,116,97,105,110,115,95,100,105,115,112,108,97,121,95,110,97,109,101]:List UInt8)) (c1:ck.toList≠([101,118,101,110,116,95,109,97,116,99,104]:List UInt8)) (c2:ck.toList=([101,118,101,110,116,95,112,114,111,112,101,114,116,121,95,105,115]:List UInt8)) :
 Calls Tryz.prog 12 #[.agg #[.string ck,.string ckey,.string cpat,.int .i64 cn],.agg #[.string x.room,.string x.type,.string x.sender,.bool x.isS,.string x.key,.int .i64 x.kind,.int .i64 x.n,.string x.text,.slice x.A8 x.keys.length x.c8,.slice x.A9 x.list.length x.c9,.slice x.A10 x.prev.length x.c10,.slice x.A11 x.auth.length x.c11,.int .i64 x.depth,.int .i64 x.ts,.string x.hash,.slice x.A15 x.sigs.length x.c15,.string user,.string name,.int .i64 mem,.int .i64 lev]] w fun e w'=>e=.returned (.bool (holdsB ck ckey cpat cn x name mem lev))∧Below w.heap.size w w':=by
 have hv:=holdsB.eq_1 ck ckey cpat cn x name mem lev
 have HB:=Lib.hid (((Below.refl w.heap.size w).alloc (Nat.le_refl _) (.cells #[.string ck,.string ckey,.string cpat,.int .i64 cn] 23)).alloc (by simp) (.cells #[.string x.room,.string x.type,.string x.sender,.bool x.isS,.string x.key,.int .i64 x.kind,.int .i64 x.n,.string x.text,.slice x.A8 x.keys.length x.c8,.slice x.A9 x.list.length x.c9,.slice x.A10 x.prev.length x.c10,.slice x.A11 x.auth.length x.c11,.int .i64 x.depth,.int .i64 x.ts,.string x.hash,.slice x.A15 x.sigs.length x.c15,.string user,.string name,.int .i64 mem,.int .i64 lev] 32))
 have HKc:=Lib.hid (blk_alloc (blk_new w (.cells #[.string ck,.string ckey,.string cpat,.int .i64 cn] 23)) (.cells #[.string x.room,.string x.type,.string x.sender,.bool x.isS,.string x.key,.int .i64 x.kind,.int .i64 x.n,.string x.text,.slice x.A8 x.keys.length x.c8,.slice x.A9 x.list.length x.c9,.slice x.A10 x.prev.length x.c10,.slice x.A11 x.auth.length x.c11,.int .i64 x.depth,.int .i64 x.ts,.string x.hash,.slice x.A15 x.sigs.length x.c15,.string user,.string name,.int .i64 mem,.int .i64 lev] 32))
 have hks:=blk_new (w.alloc (.cells #[.string ck,.string ckey,.string cpat,.int .i64 cn] 23)) (.cells #[.string x.room,.string x.type,.string x.sender,.bool x.isS,.string x.key,.int .i64 x.kind,.int .i64 x.n,.string x.text,.slice x.A8 x.keys.length x.c8,.slice x.A9 x.list.length x.c9,.slice x.A10 x.prev.length x.c10,.slice x.A11 x.auth.length x.c11,.int .i64 x.depth,.int .i64 x.ts,.string x.hash,.slice x.A15 x.sigs.length x.c15,.string user,.string name,.int .i64 mem,.int .i64 lev] 32)
 rw [show (w.alloc (.cells #[.string ck,.string ckey,.string cpat,.int .i64 cn] 23)).heap.size=w.heap.size+1 by simp] at hks
 have HKs:=Lib.hid hks
 have HFS:=Lib.hid hf
 have HX:=Lib.hid (fun W (hb:Below w.heap.size w W)=>hx.below hb)
 clear hx hf hks
 rw [if_neg c0] at hv
 rw [if_neg c1] at hv
 rw [if_pos c2] at hv
 have b0:(ck.toList==([99,111,110,116,97,105,110,115,95,100,105,115,112,108,97,121,95,110,97,109,101]:List UInt8))=false:=by rw [c2];decide
 have b1:(ck.toList==([101,118,101,110,116,95,109,97,116,99,104]:List UInt8))=false:=by rw [c2];decide
 have b2:(ck.toList==([101,118,101,110,116,95,112,114,111,112,101,114,116,121,95,105,115]:List UInt8))=true:=by rw [c2];decide
 have b3:(ck.toList==([114,111,111,109,95,109,101,109,98,101,114,95,99,111,117,110,116]:List UInt8))=false:=by rw [c2];decide
 have b4:(ck.toList==([115,101,110,100,101,114,95,110,111,116,105,102,105,99,97,116,105,111,110,95,112,101,114,109,105,115,115,105,111,110]:List UInt8))=false:=by rw [c2];decide
 clear c0 c1 c2
 obtain ⟨b,v1,v2,v3,hF,hC⟩:=rfield_calls x ckey hk
 have HF2:=Lib.hid hC
 clear hC hk
 have hfs:=HFS.out ckey
 clear HFS
 cases b with
 | false=>
  rw [hF.2 rfl] at hv
  have HV2:=Lib.hid (show holdsB ck ckey cpat cn x name mem lev=false by rw [hv];simp)
  clear hv hF hfs
  as_aux_lemma=>
   go_enter Tryz.func12,Tryz.ntmps12
   go_wp2_with (go_at_call 28;refine (HF2.out _ (HX.out _ HB.out)).mono ?_;rintro e w4 ⟨A,a,c,B,b',d,rfl,hb4⟩;have cK:w4.cell? ⟨w.heap.size,1,none⟩=some (.string ckey):=(blk_cell (blk_below HKc.out hb4) 1).trans rfl;have cP:w4.cell? ⟨w.heap.size,2,none⟩=some (.string cpat):=(blk_cell (blk_below HKc.out hb4) 2).trans rfl;have cN:w4.cell? ⟨w.heap.size,3,none⟩=some (.int .i64 cn):=(blk_cell (blk_below HKc.out hb4) 3).trans rfl;have cM:w4.cell? ⟨w.heap.size+1,17,none⟩=some (.string name):=(blk_cell (blk_below HKs.out hb4) 17).trans rfl;have hlt4:w.heap.size < w4.heap.size:=blk_lt (blk_below HKc.out hb4);have hlt5:w.heap.size+1 < w4.heap.size:=blk_lt (blk_below HKs.out hb4);have HB4:=Lib.hid (below_step HB.out hb4);clear hb4)
   go_ret
   exact ⟨by rw [HV2.out];rfl,HB4.out.alloc HB4.out.size _⟩
 | true=>
  rw [hF.1 rfl] at hv
  simp only at hv
  clear hF hfs
  by_cases h3:v1=3
  · subst h3
    by_cases q2:v3.toList=cpat.toList
    · have e2:(v3.toList==cpat.toList)=true:=by simp [q2]
      have HV2:=Lib.hid (show holdsB ck ckey cpat cn x name mem lev=true by rw [hv];simp [q2])
      clear hv q2
      as_aux_lemma=>
       go_enter Tryz.func12,Tryz.ntmps12
       go_wp2_with (go_at_call 28;refine (HF2.out _ (HX.out _ HB.out)).mono ?_;rintro e w4 ⟨A,a,c,B,b',d,rfl,hb4⟩;have cK:w4.cell? ⟨w.heap.size,1,none⟩=some (.string ckey):=(blk_cell (blk_below HKc.out hb4) 1).trans rfl;have cP:w4.cell? ⟨w.heap.size,2,none⟩=some (.string cpat):=(blk_cell (blk_below HKc.out hb4) 2).trans rfl;have cN:w4.cell? ⟨w.heap.size,3,none⟩=some (.int .i64 cn):=(blk_cell (blk_below HKc.out hb4) 3).trans rfl;have cM:w4.cell? ⟨w.heap.size+1,17,none⟩=some (.string name):=(blk_cell (blk_below HKs.out hb4) 17).trans rfl;have hlt4:w.heap.size < w4.heap.size:=blk_lt (blk_below HKc.out hb4);have hlt5:w.heap.size+1 < w4.heap.size:=blk_lt (blk_below HKs.out hb4);have HB4:=Lib.hid (below_step HB.out hb4);clear hb4)
       go_ret
       exact ⟨by rw [HV2.out];rfl,HB4.out.alloc HB4.out.size _⟩
    · have e2:(v3.toList==cpat.toList)=false:=by simp [q2]
      have HV2:=Lib.hid (show holdsB ck ckey cpat cn x name mem lev=false by rw [hv];simp [q2])
      clear hv q2
      as_aux_lemma=>
       go_enter Tryz.func12,Tryz.ntmps12
       go_wp2_with (go_at_call 28;refine (HF2.out _ (HX.out _ HB.out)).mono ?_;rintro e w4 ⟨A,a,c,B,b',d,rfl,hb4⟩;have cK:w4.cell? ⟨w.heap.size,1,none⟩=some (.string ckey):=(blk_cell (blk_below HKc.out hb4) 1).trans rfl;have cP:w4.cell? ⟨w.heap.size,2,none⟩=some (.string cpat):=(blk_cell (blk_below HKc.out hb4) 2).trans rfl;have cN:w4.cell? ⟨w.heap.size,3,none⟩=some (.int .i64 cn):=(blk_cell (blk_below HKc.out hb4) 3).trans rfl;have cM:w4.cell? ⟨w.heap.size+1,17,none⟩=some (.string name):=(blk_cell (blk_below HKs.out hb4) 17).trans rfl;have hlt4:w.heap.size < w4.heap.size:=blk_lt (blk_below HKc.out hb4);have hlt5:w.heap.size+1 < w4.heap.size:=blk_lt (blk_below HKs.out hb4);have HB4:=Lib.hid (below_step HB.out hb4);clear hb4)
       go_ret
       exact ⟨by rw [HV2.out];rfl,HB4.out.alloc HB4.out.size _⟩
  have e3:(v1==3)=false:=by simp [h3]
  by_cases h2:v1=2∨v1=1
  · by_cases q6:v2=cn
    · have e6:(v2==cn)=true:=by simp [q6]
      have HV2:=Lib.hid (show holdsB ck ckey cpat cn x name mem lev=(cpat.toList==([]:List UInt8)) by rw [hv,Bool.eq_iff_iff];simp [q6,h3,h2])
      clear hv h3 q6
      rcases h2 with rfl|rfl
      · cases q7:(cpat.toList==([]:List UInt8))
        all_goals
         rw [q7] at HV2
         as_aux_lemma=>
          go_enter Tryz.func12,Tryz.ntmps12
          go_wp2_with (go_at_call 28;refine (HF2.out _ (HX.out _ HB.out)).mono ?_;rintro e w4 ⟨A,a,c,B,b',d,rfl,hb4⟩;have cK:w4.cell? ⟨w.heap.size,1,none⟩=some (.string ckey):=(blk_cell (blk_below HKc.out hb4) 1).trans rfl;have cP:w4.cell? ⟨w.heap.size,2,none⟩=some (.string cpat):=(blk_cell (blk_below HKc.out hb4) 2).trans rfl;have cN:w4.cell? ⟨w.heap.size,3,none⟩=some (.int .i64 cn):=(blk_cell (blk_below HKc.out hb4) 3).trans rfl;have cM:w4.cell? ⟨w.heap.size+1,17,none⟩=some (.string name):=(blk_cell (blk_below HKs.out hb4) 17).trans rfl;have hlt4:w.heap.size < w4.heap.size:=blk_lt (blk_below HKc.out hb4);have hlt5:w.heap.size+1 < w4.heap.size:=blk_lt (blk_below HKs.out hb4);have HB4:=Lib.hid (below_step HB.out hb4);clear hb4)
          go_ret
          exact ⟨by rw [HV2.out];rfl,HB4.out.alloc HB4.out.size _⟩
      · cases q7:(cpat.toList==([]:List UInt8))
        all_goals
         rw [q7] at HV2
         as_aux_lemma=>
          go_enter Tryz.func12,Tryz.ntmps12
          go_wp2_with (go_at_call 28;refine (HF2.out _ (HX.out _ HB.out)).mono ?_;rintro e w4 ⟨A,a,c,B,b',d,rfl,hb4⟩;have cK:w4.cell? ⟨w.heap.size,1,none⟩=some (.string ckey):=(blk_cell (blk_below HKc.out hb4) 1).trans rfl;have cP:w4.cell? ⟨w.heap.size,2,none⟩=some (.string cpat):=(blk_cell (blk_below HKc.out hb4) 2).trans rfl;have cN:w4.cell? ⟨w.heap.size,3,none⟩=some (.int .i64 cn):=(blk_cell (blk_below HKc.out hb4) 3).trans rfl;have cM:w4.cell? ⟨w.heap.size+1,17,none⟩=some (.string name):=(blk_cell (blk_below HKs.out hb4) 17).trans rfl;have hlt4:w.heap.size < w4.heap.size:=blk_lt (blk_below HKc.out hb4);have hlt5:w.heap.size+1 < w4.heap.size:=blk_lt (blk_below HKs.out hb4);have HB4:=Lib.hid (below_step HB.out hb4);clear hb4)
          go_ret
          exact ⟨by rw [HV2.out];rfl,HB4.out.alloc HB4.out.size _⟩
    · have e6:(v2==cn)=false:=by simp [q6]
      have HV2:=Lib.hid (show holdsB ck ckey cpat cn x name mem lev=false by rw [hv];simp [q6,h3])
      clear hv q6 h3
      rcases h2 with rfl|rfl
      all_goals
       as_aux_lemma=>
        go_enter Tryz.func12,Tryz.ntmps12
        go_wp2_with (go_at_call 28;refine (HF2.out _ (HX.out _ HB.out)).mono ?_;rintro e w4 ⟨A,a,c,B,b',d,rfl,hb4⟩;have cK:w4.cell? ⟨w.heap.size,1,none⟩=some (.string ckey):=(blk_cell (blk_below HKc.out hb4) 1).trans rfl;have cP:w4.cell? ⟨w.heap.size,2,none⟩=some (.string cpat):=(blk_cell (blk_below HKc.out hb4) 2).trans rfl;have cN:w4.cell? ⟨w.heap.size,3,none⟩=some (.int .i64 cn):=(blk_cell (blk_below HKc.out hb4) 3).trans rfl;have cM:w4.cell? ⟨w.heap.size+1,17,none⟩=some (.string name):=(blk_cell (blk_below HKs.out hb4) 17).trans rfl;have hlt4:w.heap.size < w4.heap.size:=blk_lt (blk_below HKc.out hb4);have hlt5:w.heap.size+1 < w4.heap.size:=blk_lt (blk_below HKs.out hb4);have HB4:=Lib.hid (below_step HB.out hb4);clear hb4)
        go_ret
        exact ⟨by rw [HV2.out];rfl,HB4.out.alloc HB4.out.size _⟩
  have e2:(v1==2)=false:=by simp;exact fun h=>h2 (.inl h)
  have e1:(v1==1)=false:=by simp;exact fun h=>h2 (.inr h)
  have HV2:=Lib.hid (show holdsB ck ckey cpat cn x name mem lev=false by rw [hv];simp [h3];exact fun h=>absurd h h2)
  clear hv h3 h2
  as_aux_lemma=>
   go_enter Tryz.func12,Tryz.ntmps12
   go_wp2_with (go_at_call 28;refine (HF2.out _ (HX.out _ HB.out)).mono ?_;rintro e w4 ⟨A,a,c,B,b',d,rfl,hb4⟩;have cK:w4.cell? ⟨w.heap.size,1,none⟩=some (.string ckey):=(blk_cell (blk_below HKc.out hb4) 1).trans rfl;have cP:w4.cell? ⟨w.heap.size,2,none⟩=some (.string cpat):=(blk_cell (blk_below HKc.out hb4) 2).trans rfl;have cN:w4.cell? ⟨w.heap.size,3,none⟩=some (.int .i64 cn):=(blk_cell (blk_below HKc.out hb4) 3).trans rfl;have cM:w4.cell? ⟨w.heap.size+1,17,none⟩=some (.string name):=(blk_cell (blk_below HKs.out hb4) 17).trans rfl;have hlt4:w.heap.size < w4.heap.size:=blk_lt (blk_below HKc.out hb4);have hlt5:w.heap.size+1 < w4.heap.size:=blk_lt (blk_below HKs.out hb4);have HB4:=Lib.hid (below_step HB.out hb4);clear hb4)
   go_ret
   exact ⟨by rw [HV2.out];rfl,HB4.out.alloc HB4.out.size _⟩
set_option maxRecDepth 100000 in
set_option maxHeartbeats 8000000 in
theorem rholds_mem (ck ckey cpat:ByteArray) (cn:Int) (x:EvV) (user name:ByteArray) (mem lev:Int) (w:World) (hp:cpat.size≤1000000000) (hn:name.size≤1000000000) (hf : ∀ k,(fieldB x k).2.2.size≤1000000000) (hk:x.keys.length≤1000000000) (hx:x.OkR w) (c0:ck.toList≠([99,111,110,116,97,105,110,115,95,100,105,115,112,108,97,121,95,110,97,109,101]:List UInt8)) (c1:ck.toList≠([101,118,101,110,116,95,109,97,116,99,104]:List UInt8)) (c2:ck.toList≠([101,118,101,110,116,95,112,114,111,112,101,114,116,121,95,105,115]:List UInt8)) (c3:ck.toList=([114,111,111,109,95,109,101,109,98,101,114,95,99,111,117,110,116]:List UInt8)) :
 Calls Tryz.prog 12 #[.agg #[.string ck,.string ckey,.string cpat,.int .i64 cn],.agg #[.string x.room,.string x.type,.string x.sender,.bool x.isS,.string x.key,.int .i64 x.kind,.int .i64 x.n,.string x.text,.slice x.A8 x.keys.length x.c8,.slice x.A9 x.list.length x.c9,.slice x.A10 x.prev.length x.c10,.slice x.A11 x.auth.length x.c11,.int .i64 x.depth,.int .i64 x.ts,.string x.hash,.slice x.A15 x.sigs.length x.c15,.string user,.string name,.int .i64 mem,.int .i64 lev]] w fun e w'=>e=.returned (.bool (holdsB ck ckey cpat cn x name mem lev))∧Below w.heap.size w w':=by
 have hv:=holdsB.eq_1 ck ckey cpat cn x name mem lev
 have HB:=Lib.hid (((Below.refl w.heap.size w).alloc (Nat.le_refl _) (.cells #[.string ck,.string ckey,.string cpat,.int .i64 cn] 23)).alloc (by simp) (.cells #[.string x.room,.string x.type,.string x.sender,.bool x.isS,.string x.key,.int .i64 x.kind,.int .i64 x.n,.string x.text,.slice x.A8 x.keys.length x.c8,.slice x.A9 x.list.length x.c9,.slice x.A10 x.prev.length x.c10,.slice x.A11 x.auth.length x.c11,.int .i64 x.depth,.int .i64 x.ts,.string x.hash,.slice x.A15 x.sigs.length x.c15,.string user,.string name,.int .i64 mem,.int .i64 lev] 32))
 have HKc:=Lib.hid (blk_alloc (blk_new w (.cells #[.string ck,.string ckey,.string cpat,.int .i64 cn] 23)) (.cells #[.string x.room,.string x.type,.string x.sender,.bool x.isS,.string x.key,.int .i64 x.kind,.int .i64 x.n,.string x.text,.slice x.A8 x.keys.length x.c8,.slice x.A9 x.list.length x.c9,.slice x.A10 x.prev.length x.c10,.slice x.A11 x.auth.length x.c11,.int .i64 x.depth,.int .i64 x.ts,.string x.hash,.slice x.A15 x.sigs.length x.c15,.string user,.string name,.int .i64 mem,.int .i64 lev] 32))
 have hks:=blk_new (w.alloc (.cells #[.string ck,.string ckey,.string cpat,.int .i64 cn] 23)) (.cells #[.string x.room,.string x.type,.string x.sender,.bool x.isS,.string x.key,.int .i64 x.kind,.int .i64 x.n,.string x.text,.slice x.A8 x.keys.length x.c8,.slice x.A9 x.list.length x.c9,.slice x.A10 x.prev.length x.c10,.slice x.A11 x.auth.length x.c11,.int .i64 x.depth,.int .i64 x.ts,.string x.hash,.slice x.A15 x.sigs.length x.c15,.string user,.string name,.int .i64 mem,.int .i64 lev] 32)
 rw [show (w.alloc (.cells #[.string ck,.string ckey,.string cpat,.int .i64 cn] 23)).heap.size=w.heap.size+1 by simp] at hks
 have HKs:=Lib.hid hks
 have HFS:=Lib.hid hf
 have HX:=Lib.hid (fun W (hb:Below w.heap.size w W)=>hx.below hb)
 clear hx hf hks
 rw [if_neg c0] at hv
 rw [if_neg c1] at hv
 rw [if_neg c2] at hv
 rw [if_pos c3] at hv
 have b0:(ck.toList==([99,111,110,116,97,105,110,115,95,100,105,115,112,108,97,121,95,110,97,109,101]:List UInt8))=false:=by rw [c3];decide
 have b1:(ck.toList==([101,118,101,110,116,95,109,97,116,99,104]:List UInt8))=false:=by rw [c3];decide
 have b2:(ck.toList==([101,118,101,110,116,95,112,114,111,112,101,114,116,121,95,105,115]:List UInt8))=false:=by rw [c3];decide
 have b3:(ck.toList==([114,111,111,109,95,109,101,109,98,101,114,95,99,111,117,110,116]:List UInt8))=true:=by rw [c3];decide
 have b4:(ck.toList==([115,101,110,100,101,114,95,110,111,116,105,102,105,99,97,116,105,111,110,95,112,101,114,109,105,115,115,105,111,110]:List UInt8))=false:=by rw [c3];decide
 clear c0 c1 c2 c3
 have HS:=Lib.hid (fun W=>rmembers_calls cpat mem hp W)
 have HV:=Lib.hid hv
 clear hv
 go_enter Tryz.func12,Tryz.ntmps12
 go_wp2_with (go_at_call 32;refine (HS.out _).mono ?_;rintro e w3 ⟨rfl,hb3⟩)
 go_ret
 exact ⟨by rw [HV.out];rfl,below_step HB.out hb3⟩
set_option maxRecDepth 100000 in
set_option maxHeartbeats 8000000 in
theorem rholds_allow (ck ckey cpat:ByteArray) (cn:Int) (x:EvV) (user name:ByteArray) (mem lev:Int) (w:World) (hp:cpat.size≤1000000000) (hn:name.size≤1000000000) (hf : ∀ k,(fieldB x k).2.2.size≤1000000000) (hk:x.keys.length≤1000000000) (hx:x.OkR w) (c0:ck.toList≠([99,111,110,116,97,105,110,115,95,100,105,115,112,108,97,121,95,110,97,109,101]:List UInt8)) (c1:ck.toList≠([101,118,101,110,116,95,109,97,116,99,104]:List UInt8)) (c2:ck.toList≠([101,118,101,110,116,95,112,114,111,112,101,114,116,121,95,105,115]:List UInt8)) (c3:ck.toList≠([114,111,111,109,95,109,101,109,98,101,114,95,99,111,117,110,116]:List UInt8)) (c4:ck.toList=([115,101,110,100,101,114,95,110,111,116,105,102,105,99,97,116,105,111,110,95,112,101,114,109,105,115,115,105,111,110]:List UInt8)) :
 Calls Tryz.prog 12 #[.agg #[.string ck,.string ckey,.string cpat,.int .i64 cn],.agg #[.string x.room,.string x.type,.string x.sender,.bool x.isS,.string x.key,.int .i64 x.kind,.int .i64 x.n,.string x.text,.slice x.A8 x.keys.length x.c8,.slice x.A9 x.list.length x.c9,.slice x.A10 x.prev.length x.c10,.slice x.A11 x.auth.length x.c11,.int .i64 x.depth,.int .i64 x.ts,.string x.hash,.slice x.A15 x.sigs.length x.c15,.string user,.string name,.int .i64 mem,.int .i64 lev]] w fun e w'=>e=.returned (.bool (holdsB ck ckey cpat cn x name mem lev))∧Below w.heap.size w w':=by
 have hv:=holdsB.eq_1 ck ckey cpat cn x name mem lev
 have HB:=Lib.hid (((Below.refl w.heap.size w).alloc (Nat.le_refl _) (.cells #[.string ck,.string ckey,.string cpat,.int .i64 cn] 23)).alloc (by simp) (.cells #[.string x.room,.string x.type,.string x.sender,.bool x.isS,.string x.key,.int .i64 x.kind,.int .i64 x.n,.string x.text,.slice x.A8 x.keys.length x.c8,.slice x.A9 x.list.length x.c9,.slice x.A10 x.prev.length x.c10,.slice x.A11 x.auth.length x.c11,.int .i64 x.depth,.int .i64 x.ts,.string x.hash,.slice x.A15 x.sigs.length x.c15,.string user,.string name,.int .i64 mem,.int .i64 lev] 32))
 have HKc:=Lib.hid (blk_alloc (blk_new w (.cells #[.string ck,.string ckey,.string cpat,.int .i64 cn] 23)) (.cells #[.string x.room,.string x.type,.string x.sender,.bool x.isS,.string x.key,.int .i64 x.kind,.int .i64 x.n,.string x.text,.slice x.A8 x.keys.length x.c8,.slice x.A9 x.list.length x.c9,.slice x.A10 x.prev.length x.c10,.slice x.A11 x.auth.length x.c11,.int .i64 x.depth,.int .i64 x.ts,.string x.hash,.slice x.A15 x.sigs.length x.c15,.string user,.string name,.int .i64 mem,.int .i64 lev] 32))
 have hks:=blk_new (w.alloc (.cells #[.string ck,.string ckey,.string cpat,.int .i64 cn] 23)) (.cells #[.string x.room,.string x.type,.string x.sender,.bool x.isS,.string x.key,.int .i64 x.kind,.int .i64 x.n,.string x.text,.slice x.A8 x.keys.length x.c8,.slice x.A9 x.list.length x.c9,.slice x.A10 x.prev.length x.c10,.slice x.A11 x.auth.length x.c11,.int .i64 x.depth,.int .i64 x.ts,.string x.hash,.slice x.A15 x.sigs.length x.c15,.string user,.string name,.int .i64 mem,.int .i64 lev] 32)
 rw [show (w.alloc (.cells #[.string ck,.string ckey,.string cpat,.int .i64 cn] 23)).heap.size=w.heap.size+1 by simp] at hks
 have HKs:=Lib.hid hks
 have HFS:=Lib.hid hf
 have HX:=Lib.hid (fun W (hb:Below w.heap.size w W)=>hx.below hb)
 clear hx hf hks
 rw [if_neg c0] at hv
 rw [if_neg c1] at hv
 rw [if_neg c2] at hv
 rw [if_neg c3] at hv
 rw [if_pos c4] at hv
 have b0:(ck.toList==([99,111,110,116,97,105,110,115,95,100,105,115,112,108,97,121,95,110,97,109,101]:List UInt8))=false:=by rw [c4];decide
 have b1:(ck.toList==([101,118,101,110,116,95,109,97,116,99,104]:List UInt8))=false:=by rw [c4];decide
 have b2:(ck.toList==([101,118,101,110,116,95,112,114,111,112,101,114,116,121,95,105,115]:List UInt8))=false:=by rw [c4];decide
 have b3:(ck.toList==([114,111,111,109,95,109,101,109,98,101,114,95,99,111,117,110,116]:List UInt8))=false:=by rw [c4];decide
 have b4:(ck.toList==([115,101,110,100,101,114,95,110,111,116,105,102,105,99,97,116,105,111,110,95,112,101,114,109,105,115,115,105,111,110]:List UInt8))=true:=by rw [c4];decide
 clear c0 c1 c2 c3 c4
 have HV:=Lib.hid hv
 clear hv
 go_enter Tryz.func12,Tryz.ntmps12
 go_wp2
 go_ret
 exact ⟨by rw [HV.out];rfl,HB.out⟩
set_option maxRecDepth 100000 in
set_option maxHeartbeats 8000000 in
theorem rholds_none (ck ckey cpat:ByteArray) (cn:Int) (x:EvV) (user name:ByteArray) (mem lev:Int) (w:World) (hp:cpat.size≤1000000000) (hn:name.size≤1000000000) (hf : ∀ k,(fieldB x k).2.2.size≤1000000000) (hk:x.keys.length≤1000000000) (hx:x.OkR w) (c0:ck.toList≠([99,111,110,116,97,105,110,115,95,100,105,115,112,108,97,121,95,110,97,109,101]:List UInt8)) (c1:ck.toList≠([101,118,101,110,116,95,109,97,116,99,104]:List UInt8)) (c2:ck.toList≠([101,118,101,110,116,95,112,114,111,112,101,114,116,121,95,105,115]:List UInt8)) (c3:ck.toList≠([114,111,111,109,95,109,101,109,98,101,114,95,99,111,117,110,116]:List UInt8)) (c4:ck.toList≠([115,101,110,100,101,114,95,110,111,116,105,102,105,99,97,116,105,111,110,95,112,101,114,109,105,115,115,105,111,110]:List UInt8)) :
 Calls Tryz.prog 12 #[.agg #[.string ck,.string ckey,.string cpat,.int .i64 cn],.agg #[.string x.room,.string x.type,.string x.sender,.bool x.isS,.string x.key,.int .i64 x.kind,.int .i64 x.n,.string x.text,.slice x.A8 x.keys.length x.c8,.slice x.A9 x.list.length x.c9,.slice x.A10 x.prev.length x.c10,.slice x.A11 x.auth.length x.c11,.int .i64 x.depth,.int .i64 x.ts,.string x.hash,.slice x.A15 x.sigs.length x.c15,.string user,.string name,.int .i64 mem,.int .i64 lev]] w fun e w'=>e=.returned (.bool (holdsB ck ckey cpat cn x name mem lev))∧Below w.heap.size w w':=by
 have hv:=holdsB.eq_1 ck ckey cpat cn x name mem lev
 have HB:=Lib.hid (((Below.refl w.heap.size w).alloc (Nat.le_refl _) (.cells #[.string ck,.string ckey,.string cpat,.int .i64 cn] 23)).alloc (by simp) (.cells #[.string x.room,.string x.type,.string x.sender,.bool x.isS,.string x.key,.int .i64 x.kind,.int .i64 x.n,.string x.text,.slice x.A8 x.keys.length x.c8,.slice x.A9 x.list.length x.c9,.slice x.A10 x.prev.length x.c10,.slice x.A11 x.auth.length x.c11,.int .i64 x.depth,.int .i64 x.ts,.string x.hash,.slice x.A15 x.sigs.length x.c15,.string user,.string name,.int .i64 mem,.int .i64 lev] 32))
 have HKc:=Lib.hid (blk_alloc (blk_new w (.cells #[.string ck,.string ckey,.string cpat,.int .i64 cn] 23)) (.cells #[.string x.room,.string x.type,.string x.sender,.bool x.isS,.string x.key,.int .i64 x.kind,.int .i64 x.n,.string x.text,.slice x.A8 x.keys.length x.c8,.slice x.A9 x.list.length x.c9,.slice x.A10 x.prev.length x.c10,.slice x.A11 x.auth.length x.c11,.int .i64 x.depth,.int .i64 x.ts,.string x.hash,.slice x.A15 x.sigs.length x.c15,.string user,.string name,.int .i64 mem,.int .i64 lev] 32))
 have hks:=blk_new (w.alloc (.cells #[.string ck,.string ckey,.string cpat,.int .i64 cn] 23)) (.cells #[.string x.room,.string x.type,.string x.sender,.bool x.isS,.string x.key,.int .i64 x.kind,.int .i64 x.n,.string x.text,.slice x.A8 x.keys.length x.c8,.slice x.A9 x.list.length x.c9,.slice x.A10 x.prev.length x.c10,.slice x.A11 x.auth.length x.c11,.int .i64 x.depth,.int .i64 x.ts,.string x.hash,.slice x.A15 x.sigs.length x.c15,.string user,.string name,.int .i64 mem,.int .i64 lev] 32)
 rw [show (w.alloc (.cells #[.string ck,.string ckey,.string cpat,.int .i64 cn] 23)).heap.size=w.heap.size+1 by simp] at hks
 have HKs:=Lib.hid hks
 have HFS:=Lib.hid hf
 have HX:=Lib.hid (fun W (hb:Below w.heap.size w W)=>hx.below hb)
 clear hx hf hks
 rw [if_neg c0,if_neg c1,if_neg c2,if_neg c3,if_neg c4] at hv
 have b0:(ck.toList==([99,111,110,116,97,105,110,115,95,100,105,115,112,108,97,121,95,110,97,109,101]:List UInt8))=false:=by simpa using c0
 have b1:(ck.toList==([101,118,101,110,116,95,109,97,116,99,104]:List UInt8))=false:=by simpa using c1
 have b2:(ck.toList==([101,118,101,110,116,95,112,114,111,112,101,114,116,121,95,105,115]:List UInt8))=false:=by simpa using c2
 have b3:(ck.toList==([114,111,111,109,95,109,101,109,98,101,114,95,99,111,117,110,116]:List UInt8))=false:=by simpa using c3
 have b4:(ck.toList==([115,101,110,100,101,114,95,110,111,116,105,102,105,99,97,116,105,111,110,95,112,101,114,109,105,115,115,105,111,110]:List UInt8))=false:=by simpa using c4
 have HV:=Lib.hid hv
 clear hv c0 c1 c2 c3 c4
 go_enter Tryz.func12,Tryz.ntmps12
 go_wp2
 go_ret
 exact ⟨by rw [HV.out];rfl,HB.out⟩
set_option maxRecDepth 100000 in
set_option maxHeartbeats 8000000 in
theorem rholds_calls (ck ckey cpat:ByteArray) (cn:Int) (x:EvV) (user name:ByteArray) (mem lev:Int) (w:World) (hp:cpat.size≤1000000000) (hn:name.size≤1000000000) (hf : ∀ k,(fieldB x k).2.2.size≤1000000000) (hk:x.keys.length≤1000000000) (hx:x.OkR w) :
 Calls Tryz.prog 12 #[.agg #[.string ck,.string ckey,.string cpat,.int .i64 cn],.agg #[.string x.room,.string x.type,.string x.sender,.bool x.isS,.string x.key,.int .i64 x.kind,.int .i64 x.n,.string x.text,.slice x.A8 x.keys.length x.c8,.slice x.A9 x.list.length x.c9,.slice x.A10 x.prev.length x.c10,.slice x.A11 x.auth.length x.c11,.int .i64 x.depth,.int .i64 x.ts,.string x.hash,.slice x.A15 x.sigs.length x.c15,.string user,.string name,.int .i64 mem,.int .i64 lev]] w fun e w'=>e=.returned (.bool (holdsB ck ckey cpat cn x name mem lev))∧Below w.heap.size w w':=by
 by_cases c0:ck.toList=([99,111,110,116,97,105,110,115,95,100,105,115,112,108,97,121,95,110,97,109,101]:List UInt8)
 · exact rholds_named ck ckey cpat cn x user name mem lev w hp hn hf hk hx c0
 by_cases c1:ck.toList=([101,118,101,110,116,95,109,97,116,99,104]:List UInt8)
 · exact rholds_match ck ckey cpat cn x user name mem lev w hp hn hf hk hx c0 c1
 by_cases c2:ck.toList=([101,118,101,110,116,95,112,114,111,112,101,114,116,121,95,105,115]:List UInt8)
 · exact rholds_prop ck ckey cpat cn x user name mem lev w hp hn hf hk hx c0 c1 c2
 by_cases c3:ck.toList=([114,111,111,109,95,109,101,109,98,101,114,95,99,111,117,110,116]:List UInt8)
 · exact rholds_mem ck ckey cpat cn x user name mem lev w hp hn hf hk hx c0 c1 c2 c3
 by_cases c4:ck.toList=([115,101,110,100,101,114,95,110,111,116,105,102,105,99,97,116,105,111,110,95,112,101,114,109,105,115,115,105,111,110]:List UInt8)
 · exact rholds_allow ck ckey cpat cn x user name mem lev w hp hn hf hk hx c0 c1 c2 c3 c4
 exact rholds_none ck ckey cpat cn x user name mem lev w hp hn hf hk hx c0 c1 c2 c3 c4
end Go.Proofs.YtodhmbnfliajiaaGreatDoor.Q
