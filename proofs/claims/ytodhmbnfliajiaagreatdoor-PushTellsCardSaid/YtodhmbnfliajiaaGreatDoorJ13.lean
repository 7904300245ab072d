/- Merged out of: HandIdent, Chains. -/
import Derived.WalkKit
import Derived.WalkSpells
import Derived.Deep.LoopGhost
import Derived.Lib.Hide
import Derived.BigQuiet
import Derived.Deep.QuietTactic
import Derived.Test.YtodhmbnfliajiaaGreatDoorQx0
import Derived.Test.YtodhmbnfliajiaaGreatDoorJ12
import Derived.Test.YtodhmbnfliajiaaGreatDoorWWords
import Derived.Test.YtodhmbnfliajiaaGreatDoorJ2
import Derived.Test.YtodhmbnfliajiaaGreatDoorJ4
import Derived.Test.YtodhmbnfliajiaaGreatDoorJ3
/- HandIdent: a text of this claim's proof,as printed or written,without what the claim does not use. -/
namespace Go.Proofs.YtodhmbnfliajiaaGreatDoor.Q
open Go.RowKit Go.Proofs.YtodhmbnfliajiaaGreatDoorW.PrintWords Go.Proofs.YtodhmbnfliajiaaGreatDoorW.PrintLast
def idSmall (c:Int):Bool:=decide (97≤c∧c≤122) || decide (48≤c∧c≤57) || decide (c=46)
def idServer1 (c:Int):Bool:=idSmall c || decide (c=45)
def allB (p:Int→Bool) (s:ByteArray):Bool:=(List.range s.size).all (fun i=>p (bt s (i:Int)))
theorem idServer1_f (c:Int):ident_Server_1.f c=some (idServer1 c):=by
 have h:ident_small.f c=some (idSmall c):=by
  unfold ident_small.f idSmall
  by_cases h1:97≤c <;> by_cases h2:c≤122 <;> by_cases h3:48≤c <;> by_cases h4:c≤57 <;> by_cases h5:c=46 <;> simp [h1,h2,h3,h4,h5] <;> omega
 unfold ident_Server_1.f
 rw [h]
 unfold idServer1
 by_cases h:c=45 <;> cases hs:idSmall c <;> simp [h]
theorem ba_toList_len (s:ByteArray):s.toList.length=s.size:=by rw [ByteArray.toList_eq,Array.length_toList];rfl
set_option maxRecDepth 100000 in
set_option maxHeartbeats 2000000 in
theorem of_Server (s:ByteArray) (hs:s.size≤9223372036854775807) (w:World) :
 Calls Tryz.prog 104 #[.string s,.int .i64 32,.func (.func 107) #[] #[]] w fun e w'=>e=.returned (.bool (decide (1≤s.size∧s.size≤32) && allB idServer1 s))∧Drawn0 w w':=by
 by_cases h0:s.size=0
 · have h1:s.toList=[]:=by
    apply List.eq_nil_of_length_eq_zero;rw [ba_toList_len];exact h0
   have h2:s.toList.isEmpty=true:=by rw [h1];rfl
   have HF:decide (1≤s.size∧s.size≤32)=false:=by simp;omega
   have HH:=Lib.hid HF;have H0:=Lib.hid h0;clear HF h0
   go_enter Tryz.func104,Tryz.ntmps104
   go_wp2
   go_ret
   exact ⟨by rw [HH.out];rfl,Drawn0.refl _⟩
 · have h1:s.toList≠[]:=by
    intro h;apply h0;rw [← ba_toList_len,h];rfl
   have h2:s.toList.isEmpty=false:=by cases hh:s.toList with|nil=>exact absurd hh h1|cons a l=>rfl
   by_cases hm:32 < s.size
   · have HF:decide (1≤s.size∧s.size≤32)=false:=by simp;omega
     have hd:decide ((32:Int) < (s.size:Int))=true:=by simp;omega
     have HH:=Lib.hid HF;have H0:=Lib.hid h0;have H1:=Lib.hid h1;clear HF h0 h1
     go_enter Tryz.func104,Tryz.ntmps104
     go_wp2
     go_ret
     exact ⟨by rw [HH.out];rfl,Drawn0.refl _⟩
   · have HF:decide (1≤s.size∧s.size≤32)=true:=by simp;omega
     have hd:decide ((32:Int) < (s.size:Int))=false:=by simp;omega
     have HH:=Lib.hid HF;have H0:=Lib.hid h0;have H1:=Lib.hid h1;clear HF h0 h1
     go_enter Tryz.func104,Tryz.ntmps104
     go_wp2
     go_loopw [18] (fun i wr=>∃ k:Nat,k≤s.size∧i=.int .i64 k∧Hid (∀ j,j < k→idServer1 (bt s (j:Int))=true)∧Drawn0 w wr) (fun i _=>s.size - (intOf i).toNat)
     case atStart=>exact ⟨0,Nat.zero_le _,rfl,fun j hj=>by omega,Drawn0.refl _⟩
     case round=>
      obtain ⟨k,hk,rfl,HA,hD⟩:=hrel
      by_cases hlt:k < s.size
      · have hb0:(((s[k]'hlt).toNat:Nat):Int)=bt s (k:Int):=by simp [bt,hlt]
        have hC:=fun W=>ident_Server_1.calls (bt s (k:Int)) (idServer1 (bt s (k:Int))) W (idServer1_f _)
        have HC:=Lib.hid hC;clear hC
        have HDr:=Lib.hid hD;clear hD
        cases hx:idServer1 (bt s (k:Int)) with
        | true=>
         rw [hx] at HC
         have HX:=Lib.hid hx;clear hx
         go_wp2_with fail
         refine (HC.out _).mono ?_
         rintro e w2 ⟨rfl,⟨nd,rfl⟩⟩
         go_wp2
         go_roundw
         case rel=>exact ⟨k+1,by omega,by simp,fun j hj=>by rcases Nat.lt_succ_iff_lt_or_eq.1 hj with h|rfl;exact HA j h;exact HX.out,HDr.out.step _⟩
         case measure=>simp [intOf];omega
        | false=>
         rw [hx] at HC
         have HX:=Lib.hid hx;clear hx
         have HL:allB idServer1 s=false:=by
          unfold allB;rw [List.all_eq_false];exact ⟨k,by simpa using hlt,by rw [HX.out];decide⟩
         have HL':=Lib.hid HL;clear HL
         go_wp2_with fail
         refine (HC.out _).mono ?_
         rintro e w2 ⟨rfl,⟨nd,rfl⟩⟩
         go_wp2
         go_ret
         exact ⟨by rw [HL'.out,Bool.and_false];rfl,HDr.out.step _⟩
      · obtain rfl:k=s.size:=by omega
        have HL:allB idServer1 s=true:=by
         unfold allB;rw [List.all_eq_true];exact fun j hj=>HA j (by simpa using hj)
        have HL':=Lib.hid HL;clear HL
        go_wp2
        go_ret
        exact ⟨by rw [HL'.out,HH.out];rfl,hD⟩
def ident_Server.f (a0:ByteArray):Option Bool:=if 9223372036854775807 < a0.size then none else some (decide (1≤a0.size∧a0.size≤32) && allB idServer1 a0)
theorem ident_Server.calls (a0:ByteArray) (r:Bool) (w:World) (h:ident_Server.f a0=some r) :
 Calls Tryz.prog 89 #[.string a0] w fun e w'=>e=.returned (.bool r)∧Drawn0 w w':=by
 unfold ident_Server.f at h
 by_cases hb:9223372036854775807 < a0.size
 · rw [if_pos hb] at h;cases h
 rw [if_neg hb] at h
 injection h with h;subst h
 have hO:=of_Server a0 (by omega) w
 have HO:=Lib.hid hO;clear hO hb
 generalize (decide (1≤a0.size∧a0.size≤32) && allB idServer1 a0)=r at *
 go_enter Tryz.func89,Tryz.ntmps89
 go_wp2_with fail
 refine (HO.out).mono ?_
 rintro e w2 ⟨rfl,hd⟩
 go_wp2
 go_ret
 exact ⟨rfl,hd⟩
end Go.Proofs.YtodhmbnfliajiaaGreatDoor.Q

/- Chains: a text of this claim's proof,as printed or written,without what the claim does not use. -/
namespace Go.Proofs.YtodhmbnfliajiaaGreatDoor.Q
open Go.RowKit Go.Proofs.YtodhmbnfliajiaaGreatDoorW.PrintWords Go.Proofs.YtodhmbnfliajiaaGreatDoorW.PrintLast
section
variable {α β:Type} {d:Kd α} {d':Kd β} {e e' base base':Nat} {ok ok':Nat→Prop} {W w1:World} {u v v1:Value} {xs:List α} {ys:List β}
def Flat (d:Kd α):Prop := ∀ {w:World} {base:Nat} {ok1 ok2:Nat→Prop} {x:α} {cs:List Value},d.M w base ok1 x cs→d.M w base ok2 x cs
theorem flat_string:Flat Kd.string:=fun h=>h
theorem flat_raw (n:Nat):Flat (Kd.raw n):=fun h=>h
theorem R_other (hd:Flat d) (h:d.R e W base ok u xs) (hg:W.grownBy w1 v.ownBlock) (ha : ∀ k,u.ownBlock=some k→some k≠v.ownBlock):d.R e w1 base ok u xs:=by
 have h2:d.R e W base (fun k=>ok k∧some k≠v.ownBlock) u xs:=Kd.R_flat hd h (fun k hk hok=>⟨hok,ha k hk⟩)
 exact Kd.R_mono (Kd.R_grown h2 hg (fun k hk=>hk.2)) (fun k hk=>hk.1)
theorem R_types (hu:d.R e W base ok u xs) (hv:d'.R e' W base' ok' v ys) (hne:e≠e') : ∀ k,u.ownBlock=some k→some k≠v.ownBlock:=by
 intro k hk
 obtain ⟨inner,ho⟩:=Kd.R_own hu
 obtain ⟨cells,hc⟩:=own_typed ho k hk
 exact Kd.R_ne hv hc (Ne.symm hne)
end
def Chain {α:Type} (d:Kd α) (e n0:Nat) (l:List α) (x:α) (p q r s:Bool) (v0 v3 v5 v6:Value) (w:World):Prop :=
 (p=true→q=false→d.R e w n0 (fun _=>True) v0 [])∧
 (q=true→s=false→d.R e w n0 (fun _=>True) v3 l)∧
 (r=true→s=false→d.R e w n0 (fun k=>(p=true→q=false→some k≠v0.ownBlock)∧(q=true→some k≠v3.ownBlock)) v5 [x])∧
 (s=true→d.R e w n0 (fun _=>True) v6 (l++[x]))
section
variable {α:Type} {d:Kd α} {e n0:Nat} {l:List α} {x:α} {p q r s:Bool} {v0 v3 v5 v6:Value} {w w1:World}
theorem Chain.none (d:Kd α) (e n0:Nat) (l:List α) (x:α) (v0 v3 v5 v6:Value) (w:World):Chain d e n0 l x false false false false v0 v3 v5 v6 w :=
 ⟨fun h=>(by cases h),fun h=>(by cases h),fun h=>(by cases h),fun h=>(by cases h)⟩
theorem Chain.below (h:Chain d e n0 l x p q r s v0 v3 v5 v6 w) (hb:Below w.heap.size w w1):Chain d e n0 l x p q r s v0 v3 v5 v6 w1 :=
 ⟨fun h1 h2=>Kd.R_below (h.1 h1 h2) hb,fun h1 h2=>Kd.R_below (h.2.1 h1 h2) hb,fun h1 h2=>Kd.R_below (h.2.2.1 h1 h2) hb,fun h1=>Kd.R_below (h.2.2.2 h1) hb⟩
theorem Chain.other {β:Type} {d':Kd β} {e' base':Nat} {ok':Nat→Prop} {v:Value} {ys:List β} (hd:Flat d) (h:Chain d e n0 l x p q r s v0 v3 v5 v6 w) (hv:d'.R e' w base' ok' v ys) (hne:e≠e') (hg:w.grownBy w1 v.ownBlock):Chain d e n0 l x p q r s v0 v3 v5 v6 w1 :=
 ⟨fun h1 h2=>R_other hd (h.1 h1 h2) hg (R_types (h.1 h1 h2) hv hne),fun h1 h2=>R_other hd (h.2.1 h1 h2) hg (R_types (h.2.1 h1 h2) hv hne),
  fun h1 h2=>R_other hd (h.2.2.1 h1 h2) hg (R_types (h.2.2.1 h1 h2) hv hne),fun h1=>R_other hd (h.2.2.2 h1) hg (R_types (h.2.2.2 h1) hv hne)⟩
theorem Chain.start (hd:Flat d) (h:Chain d e n0 l x false false r s v0 v3 v5 v6 w) (hs:s=false) {u:Value} {ok:Nat→Prop} (hn:n0≤w.heap.size) (hb:Below w.heap.size w w1) (ho:d.R e w1 w.heap.size ok u []):Chain d e n0 l x true false r s u v3 v5 v6 w1:=by
 subst hs
 refine ⟨fun _ _=>Kd.R_mono (Kd.R_lower ho hn) (fun _ _=>trivial),fun h1=>(by cases h1),fun h1 h2=>?_,fun h1=>(by cases h1)⟩
 have h5:=h.2.2.1 h1 h2
 exact Kd.R_flat hd (Kd.R_below h5 hb) (fun k hk _=>⟨fun _ _ he=>by have:=Kd.R_lt h5 k hk;have:=Kd.R_base ho k he.symm;omega,fun h3=>(by cases h3)⟩)
theorem Chain.lit (hd:Flat d) (h:Chain d e n0 l x p q false s v0 v3 v5 v6 w) (hs:s=false) {u:Value} {ok:Nat→Prop} (hn:n0≤w.heap.size) (hb:Below w.heap.size w w1) (ho:d.R e w1 w.heap.size ok u [x]):Chain d e n0 l x p q true s v0 v3 u v6 w1:=by
 subst hs
 refine ⟨fun h1 h2=>Kd.R_below (h.1 h1 h2) hb,fun h1 h2=>Kd.R_below (h.2.1 h1 h2) hb,fun _ _=>?_,fun h1=>(by cases h1)⟩
 refine Kd.R_flat hd (Kd.R_lower ho hn) (fun k hk _=>⟨fun h1 h2 he=>?_,fun h1 he=>?_⟩)
 · have:=Kd.R_lt (h.1 h1 h2) k he.symm;have:=Kd.R_base ho k hk;omega
 · have:=Kd.R_lt (h.2.1 h1 rfl) k he.symm;have:=Kd.R_base ho k hk;omega
theorem Chain.first (h:Chain d e n0 l x true false r s v0 v3 v5 v6 w) (hs:s=false) {u:Value} {ok:Nat→Prop} (hg:w.grownBy w1 v0.ownBlock) (hat:u.ownBlock=v0.ownBlock∨∃ b,u.ownBlock=some b∧w.heap.size≤b) (ho:d.R e w1 n0 ok u ([]++l)):Chain d e n0 l x true true r s v0 u v5 v6 w1:=by
 subst hs
 refine ⟨fun _ h2=>(by cases h2),fun _ _=>Kd.R_mono ho (fun _ _=>trivial),fun h1 h2=>?_,fun h1=>(by cases h1)⟩
 have h5:=Kd.R_mono (ok':=fun k=>True∧some k≠v0.ownBlock) (h.2.2.1 h1 h2) (fun k hk=>⟨trivial,hk.1 rfl rfl⟩)
 exact Kd.R_mono (Kd.R_after (ok:=fun _=>True) h5 hg hat) (fun k hk=>⟨fun _ h3=>(by cases h3),fun _=>hk.2⟩)
theorem Chain.second (_h:Chain d e n0 l x true true true false v0 v3 v5 v6 w) {u:Value} {ok:Nat→Prop} (ho:d.R e w1 n0 ok u (l++[x])):Chain d e n0 l x true true true true v0 v3 v5 u w1 :=
 ⟨fun _ h2=>(by cases h2),fun _ h2=>(by cases h2),fun _ h2=>(by cases h2),fun _=>Kd.R_mono ho (fun _ _=>trivial)⟩
end
end Go.Proofs.YtodhmbnfliajiaaGreatDoor.Q

