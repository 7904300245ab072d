/- Merged out of: HandSortS, HandUser. -/
import Derived.Test.YtodhmbnfliajiaaGreatDoorJ10
import Derived.Test.YtodhmbnfliajiaaGreatDoorJ7
import Derived.Test.YtodhmbnfliajiaaGreatDoorJ5
/- HandSortS: a text of this claim's proof,as printed or written,without what the claim does not use. -/
namespace Go.Proofs.YtodhmbnfliajiaaGreatDoor.Q
open Go.RowKit Go.Shelf Go.Proofs.YtodhmbnfliajiaaGreatDoorW.PrintWords Go.Proofs.YtodhmbnfliajiaaGreatDoorW.PrintLast
set_option linter.unusedVariables false
set_option maxRecDepth 100000 in
set_option maxHeartbeats 2000000 in
theorem less_calls (B:Nat) (A:Option Addr) (n c:Nat) (a b:Nat) (ad:Addr) (ka kb:Int) (W:World) (ha:a < n) (hb:b < n) (hn:n≤1000000) (hA:A=some ad)
 (hc:W.cell? ⟨B,0,none⟩=some (.slice A n c)) (h1:W.cell? (ad.add (a * 6))=some (.int .i64 ka)) (h2:W.cell? (ad.add (b * 6))=some (.int .i64 kb)) :
 Calls Tryz.prog 35 #[.int .i64 (a:Int),.int .i64 (b:Int),.pointer (some ⟨B,0,none⟩)] W fun e w'=>e=.returned (.int .i64 (Lib.compareInt ka kb))∧∃ q,w'=W.drewN q:=by
 subst hA;have i1:(a:Int) < (n:Int):=by omega
 have i2:(b:Int) < (n:Int):=by omega
 have i3:(0:Int)≤(a:Int):=by omega
 have i4:(0:Int)≤(b:Int):=by omega
 have HC:=Lib.hid (fun W=>Tryz.cmp_Compare_int ka kb W);go_enter Tryz.func35,Tryz.ntmps35;go_wp2;go_quiet ((go_at_call 36;exact Calls.quiet_of_same (HC.out _)));go_wp2;go_ret;exact ⟨rfl,_,rfl⟩
theorem below_sortW {α:Type} [Inhabited α] (enc:α→Value) (w:World) (blk off m:Nat) (dk:Array α) (os:Array Obj) (h:blk≤w.heap.size):Below blk w (sortWorld enc w blk off m dk os):=by
 unfold sortWorld;have hz:(Sort.putRow enc (Sort.ahead w m) blk off dk).heap.size=w.heap.size:=by rw [Sort.size_putRow];rfl
 refine ⟨rfl,rfl,rfl,?_,fun k hk=>?_⟩
 · show w.heap.size≤((Sort.putRow enc (Sort.ahead w m) blk off dk).heap++os).size
   rw [Array.size_append,hz];omega
 · show ((Sort.putRow enc (Sort.ahead w m) blk off dk).heap++os)[k]?=w.heap[k]?
   rw [Array.getElem?_append_left (by rw [hz];omega)];show ((Sort.ahead w m).heap.modify blk _)[k]?=_
   rw [Array.getElem?_modify,if_neg (by omega)];rfl
theorem insert_none (g:Nat) (lb:Array Value) (p:Option Addr) (cap:Nat) (w:World):Calls Tryz.prog 85 #[.slice p 0 cap,.int .i64 0,.int .i64 0,.func (.func g) #[] lb] w fun e w'=>e=.returned (.tuple #[])∧w'=w:=by
 go_enter Tryz.func85,Tryz.ntmps85;go_wp2;refine wp_loop_rounds 1 ?_;rw [rounds_succ];go_wp2;go_end0;exact ⟨rfl,rfl⟩
abbrev encP (m:Nat):Fin (m+1)→Value:=fun x=>.int .i64 (x.val:Int)
def sortedBy (key:Nat→Int) (m:Nat):Array (Fin (m+1)):=Sort.insertionSort (fun x y:Fin (m+1)=>decide (key x.val < key y.val)) (idRow m) 0 (m+1)
theorem ltOf_key (key:Nat→Int) (m:Nat):ltOf (fun x y:Fin (m+1)=>Lib.compareInt (key x.val) (key y.val))=fun x y=>decide (key x.val < key y.val):=by
 funext x y
 unfold ltOf;rw [decide_eq_decide];unfold Lib.compareInt;dsimp only;split
 · omega
 · split <;> omega
theorem insert_calls (g:Nat) (lb:Array Value) (eg : ∀ args w,(callFunc g args).run Tryz.prog w=.ok (.enter g args) w) (m:Nat) (hm:m+1≤1000000) (key:Nat→Int) (blk cap:Nat) (w:World) (hH:Sort.Holds (encP m) w blk 0 (idRow m))
 (hcmp:CmpReads Tryz.prog g lb (encP m) (fun x y=>Lib.compareInt (key x.val) (key y.val)) blk 0 (m+1) w) :
 Calls Tryz.prog 85 #[.slice (some ⟨blk,0,none⟩) (m+1) cap,.int .i64 0,.int .i64 ((m+1:Nat):Int),.func (.func g) #[] lb] w fun e w'=>e=.returned (.tuple #[])∧∃ n,w'=(Sort.putRow (encP m) w blk 0 (sortedBy key m)).drewN n:=by
 have hcon:=Any.insertionSortCmpFunc_one Tryz.insL (encP m) (fun _=>rfl) (fun x y=>Lib.compareInt (key x.val) (key y.val)) g lb blk 0 cap 0 (m+1) (idRow m) w eg (by rw [idRow_size];exact hcmp) hH (by omega) (by rw [idRow_size];exact Nat.le_refl _) (by rw [idRow_size];omega);rw [ltOf_key,idRow_size] at hcon;exact hcon
set_option maxRecDepth 100000 in
set_option maxHeartbeats 2000000 in
theorem stable_calls (n cap:Nat) (hn:n≤16) (p:Option Addr) (g:Nat) (lb:Array Value) (w:World) (Q:World→Prop)
 (H:Calls Tryz.prog 85 #[.slice p n cap,.int .i64 0,.int .i64 (n:Int),.func (.func g) #[] lb] w fun e w'=>e=.returned (.tuple #[])∧Q w') :
 Calls Tryz.prog 70 #[.slice p n cap,.int .i64 (n:Int),.func (.func g) #[] lb] w fun e w'=>e=.returned (.tuple #[])∧Q w':=by
 have d1:decide ((20:Int)≤(n:Int))=false:=decide_eq_false (by omega);have d2:decide ((20:Int) < (n:Int))=false:=decide_eq_false (by omega);have HH:=Lib.hid H;clear H;go_enter Tryz.func70,Tryz.ntmps70;go_wp2;refine wp_loop_rounds 1 ?_;rw [rounds_succ];go_wp2_with (go_at_call 85;refine HH.out.mono ?_;rintro e w' ⟨rfl,hq⟩);refine wp_loop_rounds 1 ?_;rw [rounds_succ];go_wp2;go_end0;exact ⟨rfl,hq⟩
set_option maxRecDepth 100000 in
set_option maxHeartbeats 2000000 in
theorem sortStable_calls (n cap:Nat) (hn:n≤16) (p:Option Addr) (g:Nat) (lb:Array Value) (w:World) (Q:World→Prop)
 (H:Calls Tryz.prog 85 #[.slice p n cap,.int .i64 0,.int .i64 (n:Int),.func (.func g) #[] lb] w fun e w'=>e=.returned (.tuple #[])∧Q w') :
 Calls Tryz.prog 34 #[.slice p n cap,.func (.func g) #[] lb] w fun e w'=>e=.returned (.tuple #[])∧Q w':=by
 have HH:=Lib.hid (stable_calls n cap hn p g lb w Q H);clear H;go_enter Tryz.func34,Tryz.ntmps34;go_wp2_with (go_at_call 70;refine HH.out.mono ?_;rintro e w' ⟨rfl,hq⟩);go_end0;exact ⟨rfl,hq⟩
def idxC (p:S23→Bool):List S23→Int→Int
 | [],_=>-1
 | a :: l,i=>if p a then i else idxC p l (i+1)
theorem idxC_any (p:S23→Bool) (l:List S23) : ∀ i,0≤i→decide (0≤idxC p l i)=l.any p:=by
 induction l with
 | nil=>intro i hi;rfl
 | cons a l ih=>
  intro i hi
  cases h:p a with
  | true=>simp [idxC,h];omega
  | false=>simp only [idxC,h,List.any_cons,Bool.false_or];exact ih (i+1) (by omega)
set_option maxRecDepth 100000 in
set_option maxHeartbeats 2000000 in
theorem indexFunc_cond (g:Nat) (lb:Array Value) (eg : ∀ args w,(callFunc g args).run Tryz.prog w=.ok (.enter g args) w) (p:S23→Bool) (l:List S23) (hl:l.length≤9223372036854775806) (A:Option Addr) (c:Nat) (w:World) (hr:Kd.C k23 w A l.length l)
 (hp : ∀ (W:World) (x:S23),x ∈ l→Below w.heap.size w W→Calls Tryz.prog g (#[.agg #[.string x.f0,.string x.f1,.string x.f2,.int .i64 x.f3]]++lb) W fun e w'=>e=.returned (.bool (p x))∧Below W.heap.size W w') :
 Calls Tryz.prog 72 #[.slice A l.length c,.func (.func g) #[] lb] w fun e w'=>e=.returned (.int .i64 (idxC p l 0))∧Below w.heap.size w w':=by
 have HR:=Lib.hid hr;have HP:=Lib.hid hp
 clear hr hp;go_enter Tryz.func72,Tryz.ntmps72;go_wp2;go_loopw [8] (fun i wr=>∃ k:Nat,k≤l.length∧i=.int .i64 k∧Hid (idxC p (l.drop k) k=idxC p l 0)∧Below w.heap.size w wr) (fun i _=>l.length - (intOf i).toNat);case atStart=>exact ⟨0,Nat.zero_le _,rfl,by simp [Hid],Below.refl _ _⟩
 case round=>
  obtain ⟨k,hk,rfl,HI,hB⟩:=hrel;by_cases hlt:k < l.length
  · obtain ⟨ad,rfl,g0,g1,g2,g3⟩:=at_T23 (Kd.C_below HR.out hB) (k:Int) (by omega) (by omega);have hrd:rd_T23 l (k:Int)=l[k]:=by simp [rd_T23,hlt]
    rw [hrd,Int.toNat_natCast] at g0 g1 g2 g3;have hcS:=HP.out wr l[k] (List.getElem_mem hlt) hB
    have hI:idxC p (l.drop k) k=if p l[k] then (k:Int) else idxC p (l.drop (k+1)) ((k+1:Nat):Int):=by
     rw [List.drop_eq_getElem_cons hlt];simp only [idxC];rfl
    rw [HI.out] at hI;clear HI hrd;generalize l[k]=x at *;have HcS:=Lib.hid hcS;clear hcS
    have i1:(k:Int) < (l.length:Int):=by omega
    cases hx:p x with
    | true=>
     rw [hx] at HcS hI;have HI:=Lib.hid hI;clear hI
     go_wp2_with (go_at_fn g;refine HcS.out.mono ?_;rintro e W' ⟨rfl,hbc⟩);go_ret;exact ⟨by rw [HI.out];rfl,hB.trans (hbc.mono hB.size)⟩
    | false=>
     rw [hx] at HcS hI;have HI:=Lib.hid hI;clear hI
     go_wp2_with (go_at_fn g;refine HcS.out.mono ?_;rintro e W' ⟨rfl,hbc⟩);go_roundw;case rel=>exact ⟨k+1,by omega,by simp,by rw [HI.out];rfl,hB.trans (hbc.mono hB.size)⟩
     case measure=>simp [intOf];omega
  · obtain rfl:k=l.length:=by omega
    have hx:idxC p l 0 = -1:=by rw [← HI.out,List.drop_length];rfl
    have HX:=Lib.hid hx;clear hx HI
    go_wp2;go_ret;exact ⟨by rw [HX.out];rfl,hB⟩
set_option maxRecDepth 100000 in
set_option maxHeartbeats 2000000 in
theorem containsFunc_cond (g:Nat) (lb:Array Value) (eg : ∀ args w,(callFunc g args).run Tryz.prog w=.ok (.enter g args) w) (p:S23→Bool) (l:List S23) (hl:l.length≤9223372036854775806) (A:Option Addr) (c:Nat) (w:World) (hr:Kd.C k23 w A l.length l)
 (hp : ∀ (W:World) (x:S23),x ∈ l→Below w.heap.size w W→Calls Tryz.prog g (#[.agg #[.string x.f0,.string x.f1,.string x.f2,.int .i64 x.f3]]++lb) W fun e w'=>e=.returned (.bool (p x))∧Below W.heap.size W w') :
 Calls Tryz.prog 38 #[.slice A l.length c,.func (.func g) #[] lb] w fun e w'=>e=.returned (.bool (l.any p))∧Below w.heap.size w w':=by
 have hI:=indexFunc_cond g lb eg p l hl A c w hr hp;have HI:=Lib.hid hI;have HA:=Lib.hid (idxC_any p l 0 (Int.le_refl _));clear hI hr hp;generalize idxC p l 0=i at *;go_enter Tryz.func38,Tryz.ntmps38;go_wp2_with fail;refine HI.out.mono ?_;rintro e w2 ⟨rfl,hb⟩;go_wp2;go_ret;exact ⟨by rw [← HA.out];rfl,hb⟩
end Go.Proofs.YtodhmbnfliajiaaGreatDoor.Q

/- HandUser: a text of this claim's proof,as printed or written,without what the claim does not use. -/
namespace Go.Proofs.YtodhmbnfliajiaaGreatDoor.Q
open Go.RowKit Go.Shelf Go.Proofs.YtodhmbnfliajiaaGreatDoorW.PrintWords Go.Proofs.YtodhmbnfliajiaaGreatDoorW.PrintLast
def idLocal1 (c:Int):Bool:=idSmall c || decide (c=45) || decide (c=95)
theorem idLocal1_f (c:Int):ident_local_1.f c=some (idLocal1 c):=by
 have h:ident_small.f c=some (idSmall c):=by
  unfold ident_small.f idSmall;by_cases h1:97≤c <;> by_cases h2:c≤122 <;> by_cases h3:48≤c <;> by_cases h4:c≤57 <;> by_cases h5:c=46 <;> simp [h1,h2,h3,h4,h5] <;> omega
 unfold ident_local_1.f;rw [h];unfold idLocal1;by_cases h:c=45 <;> by_cases h2:c=95 <;> cases hs:idSmall c <;> simp [h,h2]
set_option maxRecDepth 100000 in
set_option maxHeartbeats 2000000 in
theorem of_local (s:ByteArray) (hs:s.size≤9223372036854775807) (w:World) :
 Calls Tryz.prog 104 #[.string s,.int .i64 32,.func (.func 105) #[] #[]] w fun e w'=>e=.returned (.bool (decide (1≤s.size∧s.size≤32) && allB idLocal1 s))∧Drawn0 w w':=by
 by_cases h0:s.size=0
 · have h1:s.toList=[]:=by
    apply List.eq_nil_of_length_eq_zero;rw [ba_toList_len];exact h0
   have h2:s.toList.isEmpty=true:=by rw [h1];rfl
   have HF:decide (1≤s.size∧s.size≤32)=false:=by simp;omega
   have HH:=Lib.hid HF;have H0:=Lib.hid h0;clear HF h0
   go_enter Tryz.func104,Tryz.ntmps104;go_wp2;go_ret;exact ⟨by rw [HH.out];rfl,Drawn0.refl _⟩
 · have h1:s.toList≠[]:=by
    intro h;apply h0;rw [← ba_toList_len,h];rfl
   have h2:s.toList.isEmpty=false:=by cases hh:s.toList with|nil=>exact absurd hh h1|cons a l=>rfl
   by_cases hm:32 < s.size
   · have HF:decide (1≤s.size∧s.size≤32)=false:=by simp;omega
     have hd:decide ((32:Int) < (s.size:Int))=true:=by simp;omega
     have HH:=Lib.hid HF;have H0:=Lib.hid h0;have H1:=Lib.hid h1;clear HF h0 h1
     go_enter Tryz.func104,Tryz.ntmps104;go_wp2;go_ret;exact ⟨by rw [HH.out];rfl,Drawn0.refl _⟩
   · have HF:decide (1≤s.size∧s.size≤32)=true:=by simp;omega
     have hd:decide ((32:Int) < (s.size:Int))=false:=by simp;omega
     have HH:=Lib.hid HF;have H0:=Lib.hid h0;have H1:=Lib.hid h1;clear HF h0 h1
     go_enter Tryz.func104,Tryz.ntmps104;go_wp2;go_loopw [18] (fun i wr=>∃ k:Nat,k≤s.size∧i=.int .i64 k∧Hid (∀ j,j < k→idLocal1 (bt s (j:Int))=true)∧Drawn0 w wr) (fun i _=>s.size - (intOf i).toNat);case atStart=>exact ⟨0,Nat.zero_le _,rfl,fun j hj=>by omega,Drawn0.refl _⟩
     case round=>
      obtain ⟨k,hk,rfl,HA,hD⟩:=hrel;by_cases hlt:k < s.size
      · have hb0:(((s[k]'hlt).toNat:Nat):Int)=bt s (k:Int):=by simp [bt,hlt]
        have hC:=fun W=>ident_local_1.calls (bt s (k:Int)) (idLocal1 (bt s (k:Int))) W (idLocal1_f _)
        have HC:=Lib.hid hC;clear hC
        have HDr:=Lib.hid hD;clear hD
        cases hx:idLocal1 (bt s (k:Int)) with
        | true=>
         rw [hx] at HC;have HX:=Lib.hid hx;clear hx
         go_wp2_with fail;refine (HC.out _).mono ?_;rintro e w2 ⟨rfl,⟨nd,rfl⟩⟩;go_wp2;go_roundw;case rel=>exact ⟨k+1,by omega,by simp,fun j hj=>by rcases Nat.lt_succ_iff_lt_or_eq.1 hj with h|rfl;exact HA j h;exact HX.out,HDr.out.step _⟩
         case measure=>simp [intOf];omega
        | false=>
         rw [hx] at HC;have HX:=Lib.hid hx;clear hx
         have HL:allB idLocal1 s=false:=by
          unfold allB;rw [List.all_eq_false];exact ⟨k,by simpa using hlt,by rw [HX.out];decide⟩
         have HL':=Lib.hid HL;clear HL
         go_wp2_with fail;refine (HC.out _).mono ?_;rintro e w2 ⟨rfl,⟨nd,rfl⟩⟩;go_wp2;go_ret;exact ⟨by rw [HL'.out,Bool.and_false];rfl,HDr.out.step _⟩
      · obtain rfl:k=s.size:=by omega
        have HL:allB idLocal1 s=true:=by
         unfold allB;rw [List.all_eq_true];exact fun j hj=>HA j (by simpa using hj)
        have HL':=Lib.hid HL;clear HL
        go_wp2;go_ret;exact ⟨by rw [HL'.out,HH.out];rfl,hD⟩
def isLocal (a0:ByteArray):Bool:=decide (1≤a0.size∧a0.size≤32) && allB idLocal1 a0
def isServerB (a0:ByteArray):Bool:=decide (1≤a0.size∧a0.size≤32) && allB idServer1 a0
set_option maxRecDepth 100000 in
set_option maxHeartbeats 2000000 in
theorem local_calls (a0:ByteArray) (hs:a0.size≤9223372036854775807) (w:World) :
 Calls Tryz.prog 88 #[.string a0] w fun e w'=>e=.returned (.bool (isLocal a0))∧Drawn0 w w':=by
 have HO:=Lib.hid (of_local a0 hs w);have hv:isLocal a0=(decide (1≤a0.size∧a0.size≤32) && allB idLocal1 a0):=rfl;rw [← hv] at HO;clear hv;generalize isLocal a0=r at *;go_enter Tryz.func88,Tryz.ntmps88;go_wp2_with fail;refine (HO.out).mono ?_;rintro e w2 ⟨rfl,hd⟩;go_wp2;go_ret;exact ⟨rfl,hd⟩
theorem server_calls (a0:ByteArray) (hs:a0.size≤9223372036854775807) (w:World) :
 Calls Tryz.prog 89 #[.string a0] w fun e w'=>e=.returned (.bool (isServerB a0))∧Drawn0 w w' :=
 ident_Server.calls a0 (isServerB a0) w (by unfold ident_Server.f;rw [if_neg (by omega)];rfl)
def cutRest (sign s:ByteArray):ByteArray:=⟨(Lib.trimPrefix s.data.toList sign.data.toList).toArray⟩
def cutName (r:ByteArray):ByteArray:=⟨(Lib.cut r.data.toList [58]).1.toArray⟩
def cutServer (r:ByteArray):ByteArray:=⟨(Lib.cut r.data.toList [58]).2.1.toArray⟩
def cutB (sign s:ByteArray):ByteArray×ByteArray×Bool :=
 if Lib.hasPrefix s.data.toList sign.data.toList && ((Lib.cut (cutRest sign s).data.toList [58]).2.2 && (isLocal (cutName (cutRest sign s)) && isServerB (cutServer (cutRest sign s)))) then (cutName (cutRest sign s),cutServer (cutRest sign s),true) else (⟨#[]⟩,⟨#[]⟩,false)
theorem cut_len (l:List UInt8):(Lib.cut l [58]).1.length≤l.length∧(Lib.cut l [58]).2.1.length≤l.length:=by
 unfold Lib.cut;split
 · exact ⟨by simp only [List.length_take];omega,by simp only [List.length_drop];omega⟩
 · exact ⟨Nat.le_refl _,Nat.zero_le _⟩
theorem rest_len (sign s:ByteArray):(cutRest sign s).size≤s.size:=by
 show (Lib.trimPrefix s.data.toList sign.data.toList).toArray.size≤_
 unfold Lib.trimPrefix;split
 · simp
 · simp
set_option maxRecDepth 100000 in
set_option maxHeartbeats 4000000 in
theorem cut_calls (sign s:ByteArray) (hs:s.size < 4294967281) (w:World) (hT:Tabs w) :
 Calls Tryz.prog 73 #[.string sign,.string s] w fun e w'=>e=.returned (.tuple #[.string (cutB sign s).1,.string (cutB sign s).2.1,.bool (cutB sign s).2.2])∧Below w.heap.size w w':=by
 obtain ⟨-,mL,hm⟩:=hT;have hP:=Tryz.strings_CutPrefix s sign;have hr:=rest_len sign s;have hC:=Tryz.strings_Cut (cutRest sign s) ⟨#[58]⟩ mL w (by omega) hm;obtain ⟨n1,n2⟩:=cut_len (cutRest sign s).data.toList
 have e1:(cutName (cutRest sign s)).size≤(cutRest sign s).size:=by
  show (Lib.cut (cutRest sign s).data.toList [58]).1.toArray.size≤_
  have:(cutRest sign s).size=(cutRest sign s).data.toList.length:=by simp
  rw [this];simpa using n1
 have e2:(cutServer (cutRest sign s)).size≤(cutRest sign s).size:=by
  show (Lib.cut (cutRest sign s).data.toList [58]).2.1.toArray.size≤_
  have:(cutRest sign s).size=(cutRest sign s).data.toList.length:=by simp
  rw [this];simpa using n2
 have HL:=Lib.hid (fun W=>local_calls (cutName (cutRest sign s)) (by omega) W);have HS:=Lib.hid (fun W=>server_calls (cutServer (cutRest sign s)) (by omega) W);have hv:=cutB.eq_1 sign s;change ∀ w,Calls Tryz.prog 49 #[.string s,.string sign] w fun e w'=>e=.returned (.tuple #[.string (cutRest sign s),.bool (Lib.hasPrefix s.data.toList sign.data.toList)])∧w'=w at hP
 change Calls Tryz.prog 87 #[.string (cutRest sign s),.string ⟨#[58]⟩] w fun e w'=>e=.returned (.tuple #[.string (cutName (cutRest sign s)),.string (cutServer (cutRest sign s)),.bool (Lib.cut (cutRest sign s).data.toList [58]).2.2])∧∃ n,w'=w.drewN n at hC
 clear n1 n2 e1 e2 hr hm;generalize (Lib.cut (cutRest sign s).data.toList [58]).2.2=there at *;generalize cutName (cutRest sign s)=nm at *;generalize cutServer (cutRest sign s)=sv at *;generalize cutRest sign s=rest at *;generalize Lib.hasPrefix s.data.toList sign.data.toList=ok at *;generalize isLocal nm=lo at *;generalize isServerB sv=se at *;have HP:=Lib.hid hP;have HC:=Lib.hid hC
 clear hP hC;cases ok <;> cases there <;> cases lo <;> cases se
 all_goals
  simp only [Bool.false_and,Bool.and_false,Bool.true_and,Bool.false_eq_true,if_false,if_true] at hv;have HV:=Lib.hid hv;clear hv;go_enter Tryz.func73,Tryz.ntmps73;go_wp2_with (first|(go_at_call 49;refine (HP.out _).mono ?_;rintro e w2 ⟨rfl,rfl⟩)|(go_at_call 87;refine HC.out.mono ?_;rintro e w3 ⟨rfl,nd,rfl⟩)|(go_at_call 88;refine (HL.out _).mono ?_;rintro e w4 ⟨rfl,⟨nd4,rfl⟩⟩)|(go_at_call 89;refine (HS.out _).mono ?_;rintro e w5 ⟨rfl,⟨nd5,rfl⟩⟩));go_ret3;exact ⟨by rw [HV.out];rfl,by first|exact Below.refl _ _|exact pw_below_drewN (Below.refl _ _) _|exact pw_below_drewN (pw_below_drewN (Below.refl _ _) _) _|exact pw_below_drewN (pw_below_drewN (pw_below_drewN (Below.refl _ _) _) _) _⟩
def userB (s:ByteArray):ByteArray×ByteArray×Bool:=cutB ⟨#[64]⟩ s
set_option maxRecDepth 100000 in
set_option maxHeartbeats 2000000 in
theorem user_calls (s:ByteArray) (hs:s.size < 4294967281) (w:World) (hT:Tabs w) :
 Calls Tryz.prog 42 #[.string s] w fun e w'=>e=.returned (.tuple #[.string (userB s).1,.string (userB s).2.1,.bool (userB s).2.2])∧Below w.heap.size w w':=by
 have hC:Calls Tryz.prog 73 #[.string ⟨#[64]⟩,.string s] w fun e w'=>e=.returned (.tuple #[.string (userB s).1,.string (userB s).2.1,.bool (userB s).2.2])∧Below w.heap.size w w':=cut_calls ⟨#[64]⟩ s hs w hT
 have HC:=Lib.hid hC;clear hC;generalize userB s=u at *;obtain ⟨u1,u2,u3⟩:=u;go_enter Tryz.func42,Tryz.ntmps42;go_wp2_with (go_at_call 73;refine HC.out.mono ?_;rintro e w2 ⟨rfl,hb⟩);go_ret3;exact ⟨rfl,hb⟩
end Go.Proofs.YtodhmbnfliajiaaGreatDoor.Q

