/- PureRune: a text of this claim's proof,as printed or written,without what the claim does not use. -/
import Derived.Lib.DecodeN
import Derived.Test.YtodhmbnfliajiaaGreatDoorQx9
namespace Go.Proofs.YtodhmbnfliajiaaGreatDoor.Q
open Go.RowKit Go.Proofs.YtodhmbnfliajiaaGreatDoorW.PrintWords Go.Proofs.YtodhmbnfliajiaaGreatDoorW.PrintLast
theorem wraps_i64' (n:Int) (h₀:0≤n) (h₁:n < 2 ^ 40):IntKind.i64.wrap n=n:=by rw [IntKind.wrap_i64];omega
theorem i64_and31 (x:Int) (h₀:0≤x) (h₁:x < 256):Go.bits .and .i64 x 31=x % 32:=bits_mask .i64 40 (by decide) wraps_i64' 5 (by decide) x h₀ (by omega)
theorem i64_and15 (x:Int) (h₀:0≤x) (h₁:x < 256):Go.bits .and .i64 x 15=x % 16:=bits_mask .i64 40 (by decide) wraps_i64' 4 (by decide) x h₀ (by omega)
theorem i64_and7 (x:Int) (h₀:0≤x) (h₁:x < 256):Go.bits .and .i64 x 7=x % 8:=bits_mask .i64 40 (by decide) wraps_i64' 3 (by decide) x h₀ (by omega)
theorem i64_or6 (x y:Int) (hx₀:0≤x) (hx:x % 64=0) (hx₁:x < 2 ^ 40) (h₀:0≤y) (h₁:y < 64):Go.bits .or .i64 x y=x+y:=bits_join .i64 40 (by decide) wraps_i64' 6 x y hx₀ hx hx₁ h₀ (by omega) (by omega)
set_option maxRecDepth 100000 in
theorem nat_and192 : ∀ b:Nat,b < 256→((b &&& 192=128)↔b / 64=2):=by decide
theorem u8_and192 (x:Int) (h₀:0≤x) (h₁:x < 256):Go.bits .and .u8 x 192=128↔x / 64=2:=by
 obtain ⟨a,rfl⟩:=Int.eq_ofNat_of_zero_le h₀;have ha:a < 256:=by omega
 have h:=(bits_nat .u8 8 (by decide) wraps_u8 a 192 ha (by decide)).1;have h2:Go.bits .and .u8 (a:Int) 192=((a &&& 192:Nat):Int):=h;rw [h2];have:=nat_and192 a ha;omega
theorem letter_f (c:Int):agoraref01_Letter.f c=some (decide (0≤c∧c≤1114111∧(c < 55296∨57343 < c))):=by
 unfold agoraref01_Letter.f;by_cases h1:0≤c <;> by_cases h2:c≤1114111 <;> by_cases h3:c < 55296 <;> simp [h1,h2,h3] <;> omega
theorem wrap_small (x:Int) (h₀ : -1000000000000000≤x) (h₁:x≤1000000000000000):wrap64 x=x:=by unfold wrap64;omega
def refEnd (c least n:Int):Int×Int:=if c < least then (0,0) else if (0≤c∧c≤1114111∧(c < 55296∨57343 < c)) then (c,n) else (0,0)
theorem rune_done (K:Nat) (s:ByteArray) (i c x7 least x9:Int) (h : ¬ x9≤x7) (h7:0≤x7∧x7≤10):agoraref01_Rune.l0 (K+1) s i c x7 least x9=some (refEnd c least (x7+1)):=by
 have hw:wrap64 (x7+1)=x7+1:=wrap_small _ (by omega) (by omega);simp only [agoraref01_Rune.l0,letter_f,Option.bind_some,hw];rw [if_neg h];unfold refEnd;by_cases h1:c < least
 · rw [if_pos h1,if_pos h1]
 · rw [if_neg h1,if_neg h1];by_cases h2:(0≤c∧c≤1114111∧(c < 55296∨57343 < c))
   · rw [if_pos h2,if_pos (by simpa using h2)]
   · rw [if_neg h2,if_neg (by simpa using h2)]
theorem rune_step (K:Nat) (s:ByteArray) (i j:Nat) (c x7 least:Int) (hs:s.size≤1000000000000) (hi:i < s.size) (hj:(j:Int)≤x7) (hj2:j≤10) (hc:0≤c∧c < 1000000000) :
 agoraref01_Rune.l0 (K+1) s (i:Int) c x7 least (j:Int)=if s.size≤i+j then some (0,0) else if bt s ((i+j:Nat):Int) / 64=2 then agoraref01_Rune.l0 K s (i:Int) (c * 64+bt s ((i+j:Nat):Int) % 64) x7 least ((j+1:Nat):Int) else some (0,0):=by
 have hw:wrap64 ((i:Int)+(j:Int))=((i+j:Nat):Int):=by rw [wrap_small _ (by omega) (by omega)];omega
 have hw2:wrap64 ((j:Int)+1)=((j+1:Nat):Int):=by rw [wrap_small _ (by omega) (by omega)];omega
 have hb:=bt_range s ((i+j:Nat):Int);have hm:=u8_and63 (bt s ((i+j:Nat):Int)) hb.1 (by omega);have hn:=u8_and192 (bt s ((i+j:Nat):Int)) hb.1 (by omega);have hw3:wrap64 (c * 64)=c * 64:=wrap_small _ (by omega) (by omega);have hw4:wrap64 (bt s ((i+j:Nat):Int) % 64)=bt s ((i+j:Nat):Int) % 64:=wrap_small _ (by omega) (by omega);have ho:=i64_or6 (c * 64) (bt s ((i+j:Nat):Int) % 64) (by omega) (by omega) (by omega) (by omega) (by omega);simp only [agoraref01_Rune.l0,hw,hw2,hm,hw3,hw4,ho];rw [if_pos hj];by_cases h1:s.size≤i+j
 · rw [if_pos (by omega),if_pos h1]
 · rw [if_neg (by omega),if_neg h1,if_pos (by omega),if_pos (by omega)];by_cases h2:bt s ((i+j:Nat):Int) / 64=2
   · rw [if_pos (hn.2 h2),if_pos h2]
   · rw [if_neg (fun h=>h2 (hn.1 h)),if_neg h2]
theorem bt_get (s:ByteArray) (i:Nat) (h:i < s.size):bt s (i:Int)=((s.get! i).toNat:Int):=by
 have h2:((i:Int).toNat) < s.size:=by simpa using h
 rw [← bt_at s (i:Int) h2]
 have:s.get! i=s[i]'h:=by
  show s.data[i]! = _
  rw [getElem!_pos s.data i (by simpa using h)];rfl
 rw [this];rfl
def contN (s:ByteArray) (i j:Nat):Prop:=i+j < s.size∧(s.get! (i+j)).toNat / 64=2
theorem rune_step' (K:Nat) (s:ByteArray) (i j:Nat) (c x7 least:Int) (hs:s.size≤1000000000000) (hi:i < s.size) (hj:(j:Int)≤x7) (hj2:j≤10) (hc:0≤c∧c < 1000000000) (a:Int) (ha:a=(j:Int)) :
 (contN s i j→agoraref01_Rune.l0 (K+1) s (i:Int) c x7 least a=agoraref01_Rune.l0 K s (i:Int) (c * 64+(s.get! (i+j)).toNat % 64) x7 least (a+1))∧(¬ contN s i j→agoraref01_Rune.l0 (K+1) s (i:Int) c x7 least a=some (0,0)):=by
 subst ha;have h:=rune_step K s i j c x7 least hs hi hj hj2 hc;refine ⟨fun hc'=>?_,fun hc'=>?_⟩
 · have hb:=bt_get s (i+j) hc'.1;rw [h,if_neg (by have:=hc'.1;omega),if_pos (by rw [hb];have:=hc'.2;omega),hb];rfl
 · by_cases h1:s.size≤i+j
   · rw [h,if_pos h1]
   · have hb:=bt_get s (i+j) (by omega);rw [h,if_neg h1,if_neg (fun h2=>hc' ⟨by omega,by rw [hb] at h2;omega⟩)]
theorem rune_two (s:ByteArray) (i:Nat) (c:Int) (hs:s.size≤1000000000000) (hi:i < s.size) (hc:0≤c∧c < 1000) :
 (contN s i 1→agoraref01_Rune.l0 8 s (i:Int) c 1 128 1=some (refEnd (c * 64+(s.get! (i+1)).toNat % 64) 128 2))∧(¬ contN s i 1→agoraref01_Rune.l0 8 s (i:Int) c 1 128 1=some (0,0)):=by
 have h1:=rune_step' 7 s i 1 c 1 128 hs hi (by decide) (by decide) ⟨hc.1,by omega⟩ 1 rfl;refine ⟨fun a=>?_,h1.2⟩;rw [h1.1 a];exact rune_done 6 s i _ 1 128 2 (by decide) (by decide)
theorem rune_three (s:ByteArray) (i:Nat) (c:Int) (hs:s.size≤1000000000000) (hi:i < s.size) (hc:0≤c∧c < 1000) :
 (contN s i 1∧contN s i 2→agoraref01_Rune.l0 7 s (i:Int) c 2 2048 1=some (refEnd ((c * 64+(s.get! (i+1)).toNat % 64) * 64+(s.get! (i+2)).toNat % 64) 2048 3))∧(¬ (contN s i 1∧contN s i 2)→agoraref01_Rune.l0 7 s (i:Int) c 2 2048 1=some (0,0)):=by
 have h1:=rune_step' 6 s i 1 c 2 2048 hs hi (by decide) (by decide) ⟨hc.1,by omega⟩ 1 rfl;have h2:=rune_step' 5 s i 2 (c * 64+(s.get! (i+1)).toNat % 64) 2 2048 hs hi (by decide) (by decide) ⟨by omega,by omega⟩ 2 rfl;refine ⟨fun a=>?_,fun a=>?_⟩
 · rw [h1.1 a.1];refine (h2.1 a.2).trans ?_;exact rune_done 4 s i _ 2 2048 3 (by decide) (by decide)
 · by_cases b:contN s i 1
   · rw [h1.1 b];exact h2.2 (fun z=>a ⟨b,z⟩)
   · exact h1.2 b
theorem rune_four (s:ByteArray) (i:Nat) (c:Int) (hs:s.size≤1000000000000) (hi:i < s.size) (hc:0≤c∧c < 1000) :
 (contN s i 1∧contN s i 2∧contN s i 3→agoraref01_Rune.l0 7 s (i:Int) c 3 65536 1=some (refEnd (((c * 64+(s.get! (i+1)).toNat % 64) * 64+(s.get! (i+2)).toNat % 64) * 64+(s.get! (i+3)).toNat % 64) 65536 4))∧(¬ (contN s i 1∧contN s i 2∧contN s i 3)→agoraref01_Rune.l0 7 s (i:Int) c 3 65536 1=some (0,0)):=by
 have h1:=rune_step' 6 s i 1 c 3 65536 hs hi (by decide) (by decide) ⟨hc.1,by omega⟩ 1 rfl;have h2:=rune_step' 5 s i 2 (c * 64+(s.get! (i+1)).toNat % 64) 3 65536 hs hi (by decide) (by decide) ⟨by omega,by omega⟩ 2 rfl;have h3:=rune_step' 4 s i 3 ((c * 64+(s.get! (i+1)).toNat % 64) * 64+(s.get! (i+2)).toNat % 64) 3 65536 hs hi (by decide) (by decide) ⟨by omega,by omega⟩ 3 rfl;refine ⟨fun a=>?_,fun a=>?_⟩
 · rw [h1.1 a.1];refine (h2.1 a.2.1).trans ?_;refine (h3.1 a.2.2).trans ?_;exact rune_done 3 s i _ 3 65536 4 (by decide) (by decide)
 · by_cases b:contN s i 1
   · rw [h1.1 b];by_cases b2:contN s i 2
     · refine (h2.1 b2).trans ?_;exact h3.2 (fun z=>a ⟨b,b2,z⟩)
     · exact h2.2 b2
   · exact h1.2 b
def Width (rn:Int) (d:Nat):Prop:=(rn=0∧d=1)∨(rn=(d:Int)∧1≤d)
theorem rj0t (k:Nat) (s:ByteArray) (i c:Int):agoraref01_Rune.j0 (k+1) s i c true=agoraref01_Rune.j2 k s i (Go.bits .and .i64 c 31) 1 128:=by rw [agoraref01_Rune.j0,if_pos rfl]
theorem rj0f (k:Nat) (s:ByteArray) (i c:Int):agoraref01_Rune.j0 (k+1) s i c false=if c≥224 then agoraref01_Rune.j1 k s i c (decide (c < 240)) else agoraref01_Rune.j1 k s i c false:=by rw [agoraref01_Rune.j0,if_neg (by decide)]
theorem rj1t (k:Nat) (s:ByteArray) (i c:Int):agoraref01_Rune.j1 (k+1) s i c true=agoraref01_Rune.j2 k s i (Go.bits .and .i64 c 15) 2 2048:=by rw [agoraref01_Rune.j1,if_pos rfl]
theorem rj1f (k:Nat) (s:ByteArray) (i c:Int):agoraref01_Rune.j1 (k+1) s i c false=if c≥240 then (if c < 248 then agoraref01_Rune.j2 k s i (Go.bits .and .i64 c 7) 3 65536 else some (0,0)) else some (0,0):=by rw [agoraref01_Rune.j1,if_neg (by decide)]
theorem rj2 (k:Nat) (s:ByteArray) (i c m l:Int):agoraref01_Rune.j2 (k+1) s i c m l=agoraref01_Rune.l0 k s i c m l 1:=by rw [agoraref01_Rune.j2]
set_option maxHeartbeats 4000000 in
theorem rune_f (s:ByteArray) (i:Nat) (hs:s.size≤1000000000000) (hi:i < s.size) : ∃ rc rn,agoraref01_Rune.f 10 s (i:Int)=some (rc,rn)∧Width rn (Utf8.decode s i).2:=by
 have hb:=bt_get s i hi;have g0:=(s.get! i).toNat_lt;have g1:=(s.get! (i+1)).toNat_lt;have g2:=(s.get! (i+2)).toNat_lt;have g3:=(s.get! (i+3)).toNat_lt
 have h2:=rune_two s i (((s.get! i).toNat:Int) % 32) hs hi (by omega);have h3:=rune_three s i (((s.get! i).toNat:Int) % 16) hs hi (by omega);have h4:=rune_four s i (((s.get! i).toNat:Int) % 8) hs hi (by omega);rw [Go.Lib.decode_at];simp only [contN] at h2 h3 h4;unfold agoraref01_Rune.f;rw [hb];generalize (s.get! i).toNat=b0 at *;generalize (s.get! (i+1)).toNat=b1 at *;generalize (s.get! (i+2)).toNat=b2 at *;generalize (s.get! (i+3)).toNat=b3 at *;have hw:wrap64 (b0:Int)=b0:=wrap_small _ (by omega) (by omega);have e1:=i64_and31 (b0:Int) (by omega) (by omega);have e2:=i64_and15 (b0:Int) (by omega) (by omega);have e3:=i64_and7 (b0:Int) (by omega) (by omega);rw [if_pos (by omega),if_pos (by omega),hw];by_cases c0:b0 < 128
 · rw [if_pos (by omega)];exact ⟨_,_,rfl,by unfold Go.Lib.decodeN;rw [if_pos c0];exact Or.inr ⟨rfl,Nat.le_refl 1⟩⟩
 rw [if_neg (by omega)];by_cases c1:b0 / 32=6
 · rw [if_pos (by omega)];rw [decide_eq_true (by omega),rj0t,rj2,e1];by_cases d:i+1 < s.size∧b1 / 64=2
   · rw [h2.1 d];unfold Go.Lib.decodeN;rw [if_neg c0,if_pos ⟨c1,by omega,d.2⟩];unfold refEnd;repeat' split
     all_goals first|(exfalso;omega)|exact ⟨_,_,rfl,by simp [Width]⟩
   · rw [h2.2 d];unfold Go.Lib.decodeN;rw [if_neg c0,if_neg (by omega),if_neg (by omega),if_neg (by omega)];exact ⟨_,_,rfl,by simp [Width]⟩
 by_cases c2:b0 / 16=14
 · rw [if_pos (by omega)];rw [decide_eq_false (by omega),rj0f,if_pos (by omega),decide_eq_true (by omega),rj1t,rj2,e2];by_cases d:(i+1 < s.size∧b1 / 64=2)∧(i+2 < s.size∧b2 / 64=2)
   · rw [h3.1 d];unfold Go.Lib.decodeN;rw [if_neg c0,if_neg (by omega),if_pos ⟨c2,by omega,by omega⟩];unfold refEnd;repeat' split
     all_goals first|(exfalso;omega)|exact ⟨_,_,rfl,by simp [Width]⟩
   · rw [h3.2 d];unfold Go.Lib.decodeN;rw [if_neg c0,if_neg (by omega),if_neg (by omega),if_neg (by omega)];exact ⟨_,_,rfl,by simp [Width]⟩
 by_cases c3:b0 / 8=30
 · rw [if_pos (by omega)];rw [decide_eq_false (by omega),rj0f,if_pos (by omega),decide_eq_false (by omega),rj1f,if_pos (by omega),if_pos (by omega),rj2,e3];by_cases d:(i+1 < s.size∧b1 / 64=2)∧(i+2 < s.size∧b2 / 64=2)∧(i+3 < s.size∧b3 / 64=2)
   · rw [h4.1 d];unfold Go.Lib.decodeN;rw [if_neg c0,if_neg (by omega),if_neg (by omega),if_pos ⟨c3,by omega,by omega,by omega⟩];unfold refEnd;repeat' split
     all_goals first|(exfalso;omega)|exact ⟨_,_,rfl,by simp [Width]⟩
   · rw [h4.2 d];unfold Go.Lib.decodeN;rw [if_neg c0,if_neg (by omega),if_neg (by omega),if_neg (by omega)];exact ⟨_,_,rfl,by simp [Width]⟩
 · refine ⟨0,0,?_,?_⟩
   · by_cases c4:b0 < 192
     · rw [if_neg (by omega)];rw [rj0f,if_neg (by omega),rj1f,if_neg (by omega)]
     · rw [if_pos (by omega)];rw [decide_eq_false (by omega),rj0f,if_pos (by omega),decide_eq_false (by omega),rj1f,if_pos (by omega),if_neg (by omega)]
   · unfold Go.Lib.decodeN;rw [if_neg c0,if_neg (by omega),if_neg (by omega),if_neg (by omega)];simp [Width]
end Go.Proofs.YtodhmbnfliajiaaGreatDoor.Q
