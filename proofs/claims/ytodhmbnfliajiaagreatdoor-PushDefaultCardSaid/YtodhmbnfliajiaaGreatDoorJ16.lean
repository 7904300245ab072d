/- Merged out of: OpensJ, HandAwake, HandScene. -/
import Derived.Test.YtodhmbnfliajiaaGreatDoorHandFew
/- OpensJ: a text of this claim's proof,as printed or written,without what the claim does not use. -/
namespace Go.Proofs.YtodhmbnfliajiaaGreatDoor.OpensJ
open Go.RowKit Go.Proofs.YtodhmbnfliajiaaGreatDoorW.PrintWords Go.Proofs.YtodhmbnfliajiaaGreatDoor.Opens Go.Proofs.YtodhmbnfliajiaaGreatDoor.Q
theorem step (fuel:Nat) (d:Kd S27) (hd:d.sz=5) (h : ∀ m,m≤fuel→At Tryz.prog 27 d (fun _=>True) m):At Tryz.prog 27 (F27 d) (fun _=>True) (fuel+1):=by
 have hs1:At Tryz.prog 24 (Kd.slice 9 Kd.string) (fun _=>True) fuel:=by
  cases fuel with
  | zero=>exact zero
  | succ m=>exact mono_wf (slice Tryz.underlying24 (by kernel_rfl) (string Tryz.underlying9)) (fun _ _=>trivial)
 have hs2:At Tryz.prog 25 (Kd.slice 27 d) (fun _=>True) fuel:=by
  cases fuel with
  | zero=>exact zero
  | succ m=>exact mono_wf (slice Tryz.underlying25 (by rw [hd];kernel_rfl) (h m (by omega))) (fun _ _=>trivial)
 exact mono_wf (struct Tryz.underlying27 (by kernel_rfl) (fields_cons (int Tryz.underlying3) (by kernel_rfl) (fields_cons (int Tryz.underlying2) (by kernel_rfl) (fields_cons (string Tryz.underlying9) (by kernel_rfl) (fields_cons hs1 (by kernel_rfl) (fields_one hs2 (by kernel_rfl)))))) (fun x:S27=>(x.f0,x.f1,x.f2,x.f3,x.f4)) (fun y=>⟨y.1,y.2.1,y.2.2.1,y.2.2.2.1,y.2.2.2.2⟩) (fun _=>rfl)) (fun _ _=>trivial)
theorem upto : ∀ (fuel k:Nat),fuel≤k→At Tryz.prog 27 (Kd.upto F27 5 [9,27] k) (fun _=>True) fuel
 | 0,_,_=>zero
 | fuel+1,k,h=>by
  obtain ⟨k,rfl⟩ : ∃ j,k=j+1:=⟨k - 1,by omega⟩;exact step fuel _ (sz27 k) (fun m hm=>upto m k (by omega))
theorem opens (fuel:Nat):At Tryz.prog 27 k27 (fun _=>True) fuel:=fix_ (fun fuel=>upto fuel fuel (Nat.le_refl _)) fuel
end Go.Proofs.YtodhmbnfliajiaaGreatDoor.OpensJ

/- HandAwake: a text of this claim's proof,as printed or written,without what the claim does not use. -/
namespace Go.Proofs.YtodhmbnfliajiaaGreatDoor.Q
open Go.RowKit Go.Proofs.YtodhmbnfliajiaaGreatDoorW.PrintWords Go.Proofs.YtodhmbnfliajiaaGreatDoorW.PrintLast Go.Proofs.YtodhmbnfliajiaaGreatDoorW.PrintMore
set_option linter.unusedVariables false
set_option linter.unusedSimpArgs false
def annU:ByteArray:=⟨#[64,97,110,110,58,115,49]⟩
def hiAnn:ByteArray:=⟨#[104,105,32,97,110,110]⟩
def hiAll:ByteArray:=⟨#[104,105,32,97,108,108]⟩
def msgEv (s:ByteArray) (A8:Option Addr) (c8:Nat) (A9:Option Addr) (c9:Nat):EvV:=⟨⟨#[]⟩,⟨#[109,46,114,111,111,109,46,109,101,115,115,97,103,101]⟩,⟨#[64,98,58,115,49]⟩,false,⟨#[]⟩,5,0,⟨#[]⟩,A8,c8,[⟨#[98,111,100,121]⟩],A9,c9,[msgBody s],none,0,[],none,0,[],0,0,⟨#[]⟩,none,0,[]⟩
def tellOf (s:ByteArray):Bool×Bool×ByteArray:=tellB (defaultRules annU) (msgEv s none 0 none 0) annU ⟨#[]⟩ 9 0
theorem tell_ann:tellOf hiAnn=(true,true,⟨#[46,109,46,114,117,108,101,46,99,111,110,116,97,105,110,115,95,117,115,101,114,95,110,97,109,101]⟩):=kr_
theorem tell_all:tellOf hiAll=(true,false,⟨#[46,109,46,114,117,108,101,46,109,101,115,115,97,103,101]⟩):=kr_
theorem rules_ann:rulesSmall (defaultRules annU)=true:=kr_
theorem small_ann:evSmall (msgEv hiAnn none 0 none 0)=true:=kr_
theorem small_all:evSmall (msgEv hiAll none 0 none 0)=true:=kr_
set_option maxRecDepth 100000 in
set_option maxHeartbeats 1000000 in
theorem tell_msg (s n:ByteArray) (a b:Bool) (h:tellOf s=(a,b,n)) (hs:evSmall (msgEv s none 0 none 0)=true) (W:World) (hT:Tabs W) (A:Option Addr) (nr c:Nat) (hn:nr=(defaultRules annU).length) (hr:Kd.C k47 W A nr (defaultRules annU)) (hc:nr≤c) (A8 A9:Option Addr) (c8 c9:Nat) (q8:Kd.C Kd.string W A8 1 [⟨#[98,111,100,121]⟩]) (l8:1≤c8) (q9:Kd.C k27 W A9 1 [msgBody s]) (l9:1≤c9) :
 Calls Tryz.prog 16 #[.slice A nr c,.agg #[.string (⟨#[]⟩:ByteArray),.string (⟨#[109,46,114,111,111,109,46,109,101,115,115,97,103,101]⟩:ByteArray),.string (⟨#[64,98,58,115,49]⟩:ByteArray),.bool false,.string (⟨#[]⟩:ByteArray),.int .i64 5,.int .i64 0,.string (⟨#[]⟩:ByteArray),.slice A8 1 c8,.slice A9 1 c9,.slice none 0 0,.slice none 0 0,.int .i64 0,.int .i64 0,.string (⟨#[]⟩:ByteArray),.slice none 0 0,.string annU,.string (⟨#[]⟩:ByteArray),.int .i64 9,.int .i64 0]] W fun e w'=>e=.returned (.tuple #[.bool a,.bool b,.string n])∧Below W.heap.size W w':=by
 subst hn;have hq:=rulesSmall_iff rules_ann;have hh:tellB (defaultRules annU) (msgEv s A8 c8 A9 c9) annU ⟨#[]⟩ 9 0=(a,b,n):=h;have:=tell_x A c (defaultRules annU) (msgEv s A8 c8 A9 c9) annU ⟨#[]⟩ 9 0 W hT hq.1 hr hc hq.2 (by decide) (evSmall_field _ hs) (evSmall_keys _ hs) ⟨q8,l8,q9,l9⟩;rw [hh] at this;exact this
theorem default_ann (w:World) (hT:Tabs w):Calls Tryz.prog 18 #[.string annU] w fun e w'=>∃ A c nr,e=.returned (.slice A nr c)∧nr=(defaultRules annU).length∧nr≤c∧Kd.C k47 w' A nr (defaultRules annU)∧Below w.heap.size w w' :=
 (default_calls annU w hT (by decide)).mono fun e w' ⟨A,c,h1,h2,h3,h4⟩=>⟨A,c,_,h1,rfl,h2,h3,h4⟩
set_option maxRecDepth 100000 in
set_option maxHeartbeats 1000000 in
theorem awake_calls (w:World) (hT:Tabs w):Calls Tryz.prog 13 #[] w fun e w'=>e=.returned (.bool true)∧Below w.heap.size w w':=by
 have HT:=Lib.hid hT;clear hT;go_enter Tryz.func13,Tryz.ntmps13;go_wp2_with (first|(go_at_call 33;have hz:=HB3.out;clear hz;refine (message_calls _ _).mono ?_;rintro e w4 ⟨B8,d8,B9,d9,rfl,q8,l8,q9,l9,hb4⟩;have P8:=Lib.hid q8;have M8:=Lib.hid l8;have P9:=Lib.hid q9;have M9:=Lib.hid l9;have HR4:=Lib.hid (Kd.C_below HR3.out hb4);have HB4:=Lib.hid (below_step HB3.out hb4);clear q8 l8 q9 l9 hb4)|(go_at_call 16;have hz:=HB4.out;clear hz;refine (tell_msg hiAll _ _ _ tell_all small_all w4 (HT.out.below HB4.out) A nr c HN.out HR4.out HC.out B8 B9 d8 d9 P8.out M8.out P9.out M9.out).mono ?_;rintro e w5 ⟨rfl,hb5⟩;have HB5:=Lib.hid (below_step HB4.out hb5);clear hb5)|(go_at_call 18;refine (default_ann w HT.out).mono ?_;rintro e w1 ⟨A,c,nr,rfl,hn,hc,hr,hb⟩;have HN:=Lib.hid hn;have HC:=Lib.hid hc;have HR:=Lib.hid hr;have HB:=Lib.hid hb;clear hn hc hr hb)|(go_at_call 33;refine (message_calls _ _).mono ?_;rintro e w2 ⟨A8,c8,A9,c9,rfl,q8,l8,q9,l9,hb2⟩;have Q8:=Lib.hid q8;have L8:=Lib.hid l8;have Q9:=Lib.hid q9;have L9:=Lib.hid l9;have HR2:=Lib.hid (Kd.C_below HR.out hb2);have HB2:=Lib.hid (below_step HB.out hb2);clear q8 l8 q9 l9 hb2)|(go_at_call 16;refine (tell_msg hiAnn _ _ _ tell_ann small_ann w2 (HT.out.below HB2.out) A nr c HN.out HR2.out HC.out A8 A9 c8 c9 Q8.out L8.out Q9.out L9.out).mono ?_;rintro e w3 ⟨rfl,hb3⟩;have HR3:=Lib.hid (Kd.C_below HR2.out hb3);have HB3:=Lib.hid (below_step HB2.out hb3);clear hb3));go_ret;exact ⟨rfl,HB5.out⟩
end Go.Proofs.YtodhmbnfliajiaaGreatDoor.Q

/- HandScene: a text of this claim's proof,as printed or written,without what the claim does not use. -/
namespace Go.Proofs.YtodhmbnfliajiaaGreatDoor.Q
open Go.RowKit Go.Proofs.YtodhmbnfliajiaaGreatDoorW.PrintWords Go.Proofs.YtodhmbnfliajiaaGreatDoorW.PrintLast Go.Proofs.YtodhmbnfliajiaaGreatDoorW.PrintMore
set_option linter.unusedVariables false
section
variable (x:EvV) (user name:ByteArray) (mem lev:Int)
theorem tell_c (hs:evSmall x=true) (hn:name.size≤60) (l:List RL) (hl:rulesSmall l=true) (A:Option Addr) (c:Nat) (w:World) (h:Giv A c l x w):Calls Tryz.prog 16 #[.slice A l.length c,.agg (scV x user name mem lev)] w fun e w'=>e=.returned (.tuple #[.bool (tellB l x user name mem lev).1,.bool (tellB l x user name mem lev).2.1,.string (tellB l x user name mem lev).2.2])∧Below w.heap.size w w' :=
 tell_x A c l x user name mem lev w h.hT (rulesSmall_iff hl).1 h.hr h.hc (rulesSmall_iff hl).2 (by omega) (evSmall_field x hs) (evSmall_keys x hs) h.hx.ok
end
theorem rholds_c (x:EvV) (user name:ByteArray) (mem lev:Int) (hs:evSmall x=true) (hn:name.size≤60) (q:S23) (hq:q.f2.size≤60) (w:World) (hx:x.OkR w):Calls Tryz.prog 12 #[.agg #[.string q.f0,.string q.f1,.string q.f2,.int .i64 q.f3],.agg (scV x user name mem lev)] w fun e w'=>e=.returned (.bool (holdsB q.f0 q.f1 q.f2 q.f3 x name mem lev))∧Below w.heap.size w w' :=
 rholds_calls q.f0 q.f1 q.f2 q.f3 x user name mem lev w (by omega) (by omega) (evSmall_field x hs) (evSmall_keys x hs) hx
theorem awake_c (w:World) (hT:Tabs w):Calls Tryz.prog 13 #[] w fun e w'=>e=.returned (.bool true)∧Below w.heap.size w w':=awake_calls w hT
end Go.Proofs.YtodhmbnfliajiaaGreatDoor.Q

