/- PureFold: a text of this claim's proof,as printed or written,without what the claim does not use. -/
import Derived.Test.YtodhmbnfliajiaaGreatDoorJ6
import Derived.Test.YtodhmbnfliajiaaGreatDoorQx12
namespace Go.Proofs.YtodhmbnfliajiaaGreatDoor.Q
open Go.RowKit Go.Proofs.YtodhmbnfliajiaaGreatDoorW.PrintWords Go.Proofs.YtodhmbnfliajiaaGreatDoorW.PrintLast Go.Proofs.YtodhmbnfliajiaaGreatDoorW.PrintMore
theorem Width.max {rn:Int} {d:Nat} (h:Width rn d):mx 1 rn=(d:Int):=by
 unfold mx;rcases h with ⟨h1,h2⟩ | ⟨h1,h2⟩
 · rw [if_neg (by omega)];omega
 · by_cases h3:1 < rn
   · rw [if_pos h3];exact h1
   · rw [if_neg h3];omega
theorem rune_up (s:ByteArray) (i:Nat) (hs:s.size≤1000000000000) (hi:i < s.size) : ∃ rc rn,Width rn (Utf8.decode s i).2∧∀ k,10≤k→agoraref01_Rune.f k s (i:Int)=some (rc,rn):=by
 obtain ⟨rc,rn,h,hw⟩:=rune_f s i hs hi;exact ⟨rc,rn,hw,fun k hk=>at_rounds (fun k=>agoraref01_Rune.mono _ _ k) hk h⟩
theorem letters_l0 (s:ByteArray) (hs:s.size≤1000000000) : ∀ (f pos:Nat) (acc:List ByteArray) (K:Nat),s.size - pos≤f→acc.length≤pos→f+11≤K→
 agoraref23_Letters.l0 K s acc (pos:Int)=some (acc++rlets s f pos):=by
 intro f
 induction f with
 | zero=>
  intro pos acc K h1 _ h2;obtain ⟨K,rfl⟩ : ∃ K',K=K'+1:=⟨K - 1,by omega⟩;unfold agoraref23_Letters.l0 rlets;rw [if_neg (by omega)];simp
 | succ f ih=>
  intro pos acc K h1 ha h2;obtain ⟨K,rfl⟩ : ∃ K',K=K'+1:=⟨K - 1,by omega⟩;unfold agoraref23_Letters.l0 rlets;by_cases h:pos < s.size
  · obtain ⟨rc,rn,hw,hr⟩:=rune_up s pos (by omega) h;have hd:=decode_width s pos h;have hx:wrap64 ((pos:Int)+mx 1 rn)=((pos+(Utf8.decode s pos).2:Nat):Int):=by rw [hw.max,wrap_small _ (by omega) (by omega)];omega
    rw [if_pos (by omega),if_pos h,hr K (by omega)];simp only [Option.bind_some,hx];rw [if_pos (by omega),if_pos (by omega),if_pos (by omega),if_pos (by omega)];rw [ih (pos+(Utf8.decode s pos).2) _ K (by omega) (by simp;omega) (by omega)];simp only [Int.toNat_natCast,List.append_assoc,List.cons_append,List.nil_append]
  · rw [if_neg (by omega),if_neg h];simp
theorem letters_f (s:ByteArray) (hs:s.size≤1000000000) : ∀ K,s.size+11≤K→agoraref23_Letters.f K s=some (rletters s):=by
 intro K hK;unfold agoraref23_Letters.f;have:=letters_l0 s hs s.size 0 [] K (by omega) (by simp) hK;simpa [rletters] using this
theorem rlets_len (s:ByteArray) : ∀ f pos,(rlets s f pos).length≤f
 | 0,_=>by simp [rlets]
 | f+1,pos=>by
  unfold rlets;by_cases h:pos < s.size
  · rw [if_pos h];have:=rlets_len s f (pos+(Utf8.decode s pos).2);simp;omega
  · rw [if_neg h];simp
theorem rletters_len (s:ByteArray) (hs:s.size≤1000000000):(rletters s).length≤1000000000:=by
 unfold rletters;have:=rlets_len s s.size 0;omega
theorem ref_Match_of (k:Nat) (p s:ByteArray) (lp ls:List ByteArray) (r:Bool) (h1:agoraref23_Letters.f k p=some lp) (h2:agoraref23_Letters.f k s=some ls) (h3:agoraref23_match.f k lp ls=some r):agoraref23_Match.f k p s=some r:=by
 unfold agoraref23_Match.f;rw [h1,Option.bind_some,h2,Option.bind_some,h3,Option.bind_some]
theorem match_up (k j:Nat) (lp ls:List ByteArray) (r:Bool) (h:agoraref23_match.f k lp ls=some r) (hj:k≤j):agoraref23_match.f j lp ls=some r:=at_rounds (fun k=>agoraref23_match.mono lp ls k) hj h
theorem ref_Match_f (p s:ByteArray) (hp:p.size≤1000000000) (hs:s.size≤1000000000) : ∃ K,agoraref23_Match.f K p s=some (gM (gletters p) (gletters s)):=by
 obtain ⟨K,h⟩:=ref_match_f (rletters p) (rletters s) (rletters_len p hp) (rletters_len s hs);rw [letters_match] at h;obtain ⟨j,hj⟩ : ∃ j,j=K+(p.size+s.size+11):=⟨_,rfl⟩;exact ⟨j,ref_Match_of j p s _ _ _ (letters_f p hp j (by omega)) (letters_f s hs j (by omega)) (match_up K j _ _ _ h (by omega))⟩
def lowN (b:Nat):Nat:=if 65≤b∧b≤90 then b+32 else b
def lowS (s:ByteArray):ByteArray:=⟨(s.data.toList.map fun b=>UInt8.ofNat (lowN b.toNat)).toArray⟩
theorem lowS_size (s:ByteArray):(lowS s).size=s.size:=by
 show (lowS s).data.size=s.data.size
 simp [lowS]
theorem lowN_lt (b:Nat) (h:b < 256):lowN b < 256:=by unfold lowN;split <;> omega
theorem lowS_get (s:ByteArray) (i:Nat) (h:i < s.size):((lowS s).get! i).toNat=lowN (s.get! i).toNat:=by
 have h1:i < s.data.size:=h;have h2:i < (lowS s).data.size:=by have:=lowS_size s;show i < (lowS s).size;omega
 have e1:(lowS s).get! i=(lowS s).data[i]'h2:=by
  show (lowS s).data[i]! = _
  rw [getElem!_pos (lowS s).data i h2]
 have e2:s.get! i=s.data[i]'h1:=by
  show s.data[i]! = _
  rw [getElem!_pos s.data i h1]
 rw [e1,e2];simp only [lowS,List.getElem_toArray,List.getElem_map,Array.getElem_toList,UInt8.toNat_ofNat'];have:=lowN_lt _ (s.data[i]'h1).toNat_lt;omega
theorem low_l0 (s:ByteArray) (hs:s.size≤1000000000) : ∀ (f pos:Nat) (acc:ByteArray) (K:Nat),s.size - pos≤f→acc.data.toList=(s.data.toList.take pos).map (fun b=>UInt8.ofNat (lowN b.toNat))→pos≤s.size→f < K→
 agoraref23_Low.l0 K s acc (pos:Int)=some (lowS s):=by
 intro f
 induction f with
 | zero=>
  intro pos acc K h1 ha hp h2;obtain ⟨K,rfl⟩ : ∃ K',K=K'+1:=⟨K - 1,by omega⟩;unfold agoraref23_Low.l0;rw [if_neg (by omega)];congr 1
  have:acc.data.toList=(lowS s).data.toList:=by
   rw [ha,List.take_of_length_le (by simp;have:s.data.size=s.size:=rfl;omega)];unfold lowS;simp
  exact ByteArray.ext (Array.toList_inj.1 this)
 | succ f ih=>
  intro pos acc K h1 ha hp h2;obtain ⟨K,rfl⟩ : ∃ K',K=K'+1:=⟨K - 1,by omega⟩;by_cases h:pos < s.size
  · have hz:acc.size=pos:=by
     show acc.data.size=pos
     rw [← Array.length_toList,ha];simp;have:s.data.size=s.size:=rfl;omega
    have hk:pos < s.data.toList.length:=by simp;exact h
    have hb:bt s (pos:Int)=((s.data.toList[pos]'hk).toNat:Int):=by
     rw [bt_get s pos h]
     have:s.get! pos=s.data[pos]'h:=by
      show s.data[pos]! = _
      rw [getElem!_pos s.data pos h]
     rw [this];simp
    have key : ∀ v:Int,v=((lowN (s.data.toList[pos]'hk).toNat:Nat):Int)→agoraref23_Low.l0 K s (acc++strOfNums [v]) (wrap64 ((pos:Int)+1))=some (lowS s):=by
     rintro v rfl;have hw:wrap64 ((pos:Int)+1)=((pos+1:Nat):Int):=by rw [wrap_small _ (by omega) (by omega)];omega
     rw [hw];apply ih (pos+1) _ K (by omega) ?_ (by omega) (by omega);rw [← List.take_append_getElem hk];simp only [List.map_append,List.map_cons,List.map_nil,← ha];rw [ByteArray.data_append,Array.toList_append];rfl
    have hlt:=(s.data.toList[pos]'hk).toNat_lt;have hsz : ∀ v:Int,acc.size+(strOfNums [v]).size≤9223372036854775807:=fun v=>by rw [Go.strOfNums_size];simp;omega
    unfold agoraref23_Low.l0;rw [if_pos (by omega),if_pos (by omega)];simp only [Option.bind_some];rw [if_pos (hsz _),if_pos (hsz _),hb];generalize (s.data.toList[pos]'hk).toNat=b at *;by_cases c1:65≤b
    · rw [if_pos (by omega)];by_cases c2:b≤90
      · rw [if_pos (by omega)];exact key _ (by unfold lowN;rw [if_pos ⟨c1,c2⟩];omega)
      · rw [if_neg (by omega)];exact key _ (by unfold lowN;rw [if_neg (by omega)])
    · rw [if_neg (by omega)];exact key _ (by unfold lowN;rw [if_neg (by omega)])
  · have:pos=s.size:=by omega
    exact (by
     unfold agoraref23_Low.l0;rw [if_neg (by omega)];congr 1
     have:acc.data.toList=(lowS s).data.toList:=by
      rw [ha,List.take_of_length_le (by simp;have:s.data.size=s.size:=rfl;omega)];unfold lowS;simp
     exact ByteArray.ext (Array.toList_inj.1 this))
theorem low_f (s:ByteArray) (hs:s.size≤1000000000) : ∀ K,s.size < K→agoraref23_Low.f K s=some (lowS s):=by
 intro K hK;unfold agoraref23_Low.f;exact low_l0 s hs s.size 0 _ K (by omega) (by simp) (by omega) hK
theorem get_far (s:ByteArray) (i:Nat) (h:s.size≤i):s.get! i=0:=by
 show s.data[i]! = 0
 rw [getElem!_neg s.data i (by have:s.data.size=s.size:=rfl;omega)];rfl
theorem lowS_get' (s:ByteArray) (i:Nat):((lowS s).get! i).toNat=lowN (s.get! i).toNat:=by
 by_cases h:i < s.size
 · exact lowS_get s i h
 · rw [get_far s i (by omega),get_far (lowS s) i (by rw [lowS_size];omega)];rfl
set_option maxHeartbeats 4000000 in
theorem decodeN_low (n b0 b1 b2 b3:Nat):Go.Lib.decodeN n (lowN b0) (lowN b1) (lowN b2) (lowN b3)=if 65≤b0∧b0≤90 then (b0+32,1) else Go.Lib.decodeN n b0 b1 b2 b3:=by
 have e : ∀ b,(lowN b / 64=2↔b / 64=2)∧(b / 64=2→lowN b=b):=fun b=>by unfold lowN;split <;> omega
 by_cases h:65≤b0∧b0≤90
 · rw [if_pos h];have:lowN b0=b0+32:=by unfold lowN;rw [if_pos h]
   unfold Go.Lib.decodeN;rw [this,if_pos (by omega)]
 · rw [if_neg h];have h0:lowN b0=b0:=by unfold lowN;rw [if_neg h]
   rw [h0];by_cases c1:b1 / 64=2
   · rw [(e b1).2 c1];by_cases c2:b2 / 64=2
     · rw [(e b2).2 c2];by_cases c3:b3 / 64=2
       · rw [(e b3).2 c3]
       · have:=(e b3).1;unfold Go.Lib.decodeN;simp only [this,c3,and_false,if_false]
     · have:=(e b2).1;unfold Go.Lib.decodeN;simp only [this,c2,and_false,false_and,if_false]
   · have:=(e b1).1;unfold Go.Lib.decodeN;simp only [this,c1,and_false,false_and,if_false]
theorem decode_low (s:ByteArray) (i:Nat):Utf8.decode (lowS s) i=if 65≤(s.get! i).toNat∧(s.get! i).toNat≤90 then ((s.get! i).toNat+32,1) else Utf8.decode s i:=by
 rw [Go.Lib.decode_at,Go.Lib.decode_at,lowS_size];simp only [lowS_get'];exact decodeN_low _ _ _ _ _
theorem decode_ascii (s:ByteArray) (i:Nat) (h:(s.get! i).toNat < 128):Utf8.decode s i=((s.get! i).toNat,1):=by
 rw [Go.Lib.decode_at];unfold Go.Lib.decodeN;rw [if_pos h]
theorem decode_low_width (s:ByteArray) (i:Nat):(Utf8.decode (lowS s) i).2=(Utf8.decode s i).2:=by
 rw [decode_low];by_cases h:65≤(s.get! i).toNat∧(s.get! i).toNat≤90
 · rw [if_pos h,decode_ascii s i (by omega)]
 · rw [if_neg h]
theorem glet_low (s:ByteArray) (i:Nat) (h:i < s.size):glet (lowS s) i=glow (glet s i):=by
 rw [glet_of s i h,glet_of (lowS s) i (by rw [lowS_size];exact h),decode_low,lowS_get'];by_cases c:65≤(s.get! i).toNat∧(s.get! i).toNat≤90
 · rw [if_pos c,decode_ascii s i (by omega)];have g1 : ∀ m:Nat,m < 65533→gl_of (m,1)=fun _=>⟨(m:Int),false⟩:=fun m hm=>by funext x;unfold gl_of;rw [if_neg (by simp only;omega)]
   rw [g1 _ (by omega),g1 _ (by omega)];unfold glow;rw [if_pos ⟨rfl,by show (65:Int)≤((s.get! i).toNat:Int);omega,by show ((s.get! i).toNat:Int)≤90;omega⟩,gl_ext];simp
 · rw [if_neg c];have e:lowN (s.get! i).toNat=(s.get! i).toNat:=by unfold lowN;rw [if_neg c]
   rw [e];have hsh:=sh_decode (s.size - i) (s.get! i).toNat (s.get! (i+1)).toNat (s.get! (i+2)).toNat (s.get! (i+3)).toNat (s.get! i).toNat_lt _ (Go.Lib.decode_at s i);generalize gl_of (Utf8.decode s i) (s.get! i).toNat=g at *;unfold glow;rw [if_neg];rintro ⟨h1,h2,h3⟩;rcases hsh with ⟨a,h1,rfl,h5⟩ | ⟨a,h1,h2,rfl,h5⟩ | ⟨a,b,h1,h2,h3,rfl,h5⟩ | ⟨a,b,c,h1,h2,h3,h4,rfl,h5⟩ | ⟨a,b,c,d,h1,h2,h3,h4,h5,rfl,h6⟩
   · have hw:=decode_width s i h
     have:a=(s.get! i).toNat:=by
      generalize (Utf8.decode s i).2=w at *;obtain ⟨w,rfl⟩ : ∃ w',w=w'+1:=⟨w - 1,by omega⟩;rw [List.take_succ_cons] at h5;injection h5 with h5 _;exact h5.symm
     simp only at h2 h3;omega
   · simp at h1
   · simp only at h2 h3;omega
   · simp only at h2 h3;omega
   · simp only at h2 h3;omega
theorem glets_low (s:ByteArray) : ∀ f pos,glets (lowS s) f pos=(glets s f pos).map glow
 | 0,_=>rfl
 | f+1,pos=>by
  unfold glets;rw [lowS_size];by_cases h:pos < s.size
  · rw [if_pos h,if_pos h,List.map_cons,glets_low s f,glet_low s pos h,decode_low_width]
  · rw [if_neg h,if_neg h];rfl
theorem gletters_low (s:ByteArray):gletters (lowS s)=(gletters s).map glow:=by
 unfold gletters;rw [lowS_size,glets_low]
def foldB (p s:ByteArray):Bool:=gM ((gletters p).map glow) ((gletters s).map glow)
theorem ref_Fold_of (k:Nat) (p s:ByteArray) (lp ls:ByteArray) (r:Bool) (h1:agoraref23_Low.f k p=some lp) (h2:agoraref23_Low.f k s=some ls) (h3:agoraref23_Match.f k lp ls=some r):agoraref23_Fold.f k p s=some r:=by
 unfold agoraref23_Fold.f;rw [h1,Option.bind_some,h2,Option.bind_some,h3,Option.bind_some]
theorem Match_up (k j:Nat) (lp ls:ByteArray) (r:Bool) (h:agoraref23_Match.f k lp ls=some r) (hj:k≤j):agoraref23_Match.f j lp ls=some r:=at_rounds (fun k=>agoraref23_Match.mono lp ls k) hj h
theorem ref_Fold_f (p s:ByteArray) (hp:p.size≤1000000000) (hs:s.size≤1000000000) : ∃ K,agoraref23_Fold.f K p s=some (foldB p s):=by
 obtain ⟨K,h⟩:=ref_Match_f (lowS p) (lowS s) (by rw [lowS_size];exact hp) (by rw [lowS_size];exact hs);rw [gletters_low,gletters_low] at h;obtain ⟨j,hj⟩ : ∃ j,j=K+(p.size+s.size+1):=⟨_,rfl⟩;exact ⟨j,ref_Fold_of j p s _ _ _ (low_f p hp j (by omega)) (low_f s hs j (by omega)) (Match_up K j _ _ _ h (by omega))⟩
theorem glob_Fold_f (p s:ByteArray) (hp:p.size≤1000000000) (hs:s.size≤1000000000) : ∃ K,glob_Fold.f K p s=some (foldB p s):=by
 have lp:=gletters_len p;have ls:=gletters_len s;obtain ⟨K,h⟩:=glob_match_f ((gletters p).map glow) ((gletters s).map glow) (by rw [List.length_map];omega) (by rw [List.length_map];omega);refine ⟨K,?_⟩;unfold glob_Fold.f;rw [if_neg (by omega),if_neg (by omega)];exact h
end Go.Proofs.YtodhmbnfliajiaaGreatDoor.Q
