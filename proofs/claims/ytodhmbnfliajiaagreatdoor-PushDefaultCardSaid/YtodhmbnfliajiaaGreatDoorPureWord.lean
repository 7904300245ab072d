/- PureWord: a text of this claim's proof,as printed or written,without what the claim does not use. -/
import Derived.Test.YtodhmbnfliajiaaGreatDoorHandWord
namespace Go.Proofs.YtodhmbnfliajiaaGreatDoor.Q
open Go.RowKit Go.Proofs.YtodhmbnfliajiaaGreatDoorW.PrintWords Go.Proofs.YtodhmbnfliajiaaGreatDoorW.PrintLast Go.Proofs.YtodhmbnfliajiaaGreatDoorW.PrintMore
theorem nat_succ_wrap' (i:Nat) (h:i≤1000000000000):wrap64 ((i:Int)+1)=((i+1:Nat):Int):=by unfold wrap64;omega
theorem pairs_match (P Q:List (GL×ByteArray)) (hP : ∀ x ∈ P,Sh x.1 (nb x.2)) (hQ : ∀ x ∈ Q,Sh x.1 (nb x.2)):rM (P.map Prod.snd) (Q.map Prod.snd)=gM (P.map Prod.fst) (Q.map Prod.fst):=by
 have e1:=mtB_map (fun x:GL×ByteArray=>gStar x.1) (fun x y:GL×ByteArray=>gOk x.1 y.1) gStar gOk Prod.fst Prod.fst P Q (fun _ _=>rfl) (fun _ _ _ _=>rfl);have e2:=mtB_map (fun x:GL×ByteArray=>gStar x.1) (fun x y:GL×ByteArray=>gOk x.1 y.1) rStar rOk Prod.snd Prod.snd P Q (fun a ha=>sh_rStar (hP a ha)) (fun a ha x hx=>sh_rOk (hP a ha) (hQ x hx));exact e2.trans e1.symm
set_option maxHeartbeats 2000000 in
theorem word_letter (g:GL) (b:ByteArray) (h:Sh g (nb b)):agoraref23_word.f b=some (gWordL g):=by
 have hlen:(nb b).length=b.size:=by
  unfold nb;rw [List.length_map,ByteArray.toList_eq,Array.length_toList];rfl
 have hget : ∀ v:Nat,(nb b).head?=some v→0 < b.size∧bt b 0=(v:Int):=by
  intro v hv
  have h0:0 < b.size:=by
   rw [← hlen];cases hq:nb b with
   | nil=>rw [hq] at hv;cases hv
   | cons a l=>simp
  refine ⟨h0,?_⟩;have:=bt_get b 0 h0;rw [show (((0:Nat):Int))=0 from rfl] at this;rw [this];unfold nb at hv;rw [ByteArray.toList_eq] at hv;have h1:0 < b.data.toList.length:=by simp;exact h0
  obtain ⟨a,l,hl⟩ : ∃ a l,b.data.toList=a :: l:=by
   cases hq:b.data.toList with
   | nil=>rw [hq] at h1;simp at h1
   | cons a l=>exact ⟨a,l,rfl⟩
  rw [hl] at hv;simp only [List.map_cons,List.head?_cons,Option.some.injEq] at hv
  have e2:b.get! 0=a:=by
   show b.data[0]! = a
   rw [getElem!_pos b.data 0 h0];have:b.data.toList[0]'h1=a:=by simp [hl]
   simpa using this
  rw [e2,hv]
 unfold agoraref23_word.f;rcases h with ⟨a,h1,rfl,e⟩ | ⟨a,h1,h2,rfl,e⟩ | ⟨a,c,h1,h2,h3,rfl,e⟩ | ⟨a,c,d,h1,h2,h3,h4,rfl,e⟩ | ⟨a,c,d,f,h1,h2,h3,h4,h5,rfl,e⟩
 · obtain ⟨h0,hb⟩:=hget a (by rw [e];rfl);rw [e] at hlen;simp only [List.length_cons,List.length_nil] at hlen;rw [if_pos (by omega),if_neg (by omega),hb];unfold gWordL;by_cases c1:a≥97 <;> by_cases c2:a≤122 <;> by_cases c3:a≥65 <;> by_cases c4:a≤90 <;> by_cases c5:a≥48 <;> by_cases c6:a≤57 <;> first|omega|(simp [show (97:Int)≤(a:Int)↔97≤a by omega,show (a:Int)≤122↔a≤122 by omega,show (65:Int)≤(a:Int)↔65≤a by omega,show (a:Int)≤90↔a≤90 by omega,show (48:Int)≤(a:Int)↔48≤a by omega,show (a:Int)≤57↔a≤57 by omega,c1,c2,c3,c4,c5,c6];try (first|omega|(rw [Bool.eq_iff_iff];simp;omega)))
 · obtain ⟨h0,hb⟩:=hget a (by rw [e];rfl);rw [e] at hlen;simp only [List.length_cons,List.length_nil] at hlen;rw [if_pos (by omega),if_neg (by omega),hb,if_pos (by omega),if_neg (by omega),if_pos (by omega),if_neg (by omega),if_pos (by omega),if_neg (by omega)];unfold gWordL;rw [show ((a:Int)==95)=false by simp;omega];rfl
 all_goals
  obtain ⟨h0,hb⟩:=hget a (by rw [e];rfl);rw [e] at hlen;simp only [List.length_cons,List.length_nil] at hlen;rw [if_pos (by omega),if_pos (by omega)];unfold gWordL;simp only [Bool.not_false,Bool.true_and];rw [decide_eq_true (show (128:Int)≤_ by omega)];simp
def rEdge (l:List ByteArray) (W:List Bool) (b:Nat):Bool:=decide (b=l.length) || !(W.getD b false)
section
variable (q l:List ByteArray) (hq:q.length≤1000000000) (hl:l.length≤1000000000) (W:List Bool) (hW : ∀ i (h:i < l.length),agoraref23_word.f l[i]=some (W.getD i false))
def rRow (a b m:Nat):Bool:=(List.range m).any fun d=>rEdge l W (b+d) && rM q ((l.take (b+d)).drop a)
def rWord (a m:Nat):Bool:=(List.range m).any fun d=>(decide (a+d=0) || !(W.getD (a+d - 1) false)) && rRow q l W (a+d) (a+d) (l.length+1 - (a+d))
theorem rRow_zero (a b:Nat):rRow q l W a b 0=false:=rfl
theorem rRow_succ (a b m:Nat):rRow q l W a b (m+1)=((rEdge l W b && rM q ((l.take b).drop a)) || rRow q l W a (b+1) m):=by
 unfold rRow;rw [List.range_succ_eq_map,List.any_cons,List.any_map];congr 1
 congr 1
 funext d
 simp only [Function.comp];rw [show b+d.succ=b+1+d by omega]
theorem rWord_zero (a:Nat):rWord q l W a 0=false:=rfl
theorem rWord_succ (a m:Nat):rWord q l W a (m+1)=(((decide (a=0) || !(W.getD (a - 1) false)) && rRow q l W a a (l.length+1 - a)) || rWord q l W (a+1) m):=by
 unfold rWord;rw [List.range_succ_eq_map,List.any_cons,List.any_map];congr 1
 congr 1
 funext d
 simp only [Function.comp];rw [show a+d.succ=a+1+d by omega]
include hq hl hW
theorem rw_l1 (a:Nat) (r0:Bool) (h0:Ev (fun k=>agoraref23_Word.l0 k ((a+1:Nat):Int) l q) r0) : ∀ (m b:Nat),m=l.length+1 - b→a≤b→b≤l.length+1→Ev (fun k=>agoraref23_Word.l1 k l q (a:Int) (b:Int) l q) (rRow q l W a b m || r0)
 | 0,b,hm,hab,hb=>by
  rw [rRow_zero,Bool.false_or];refine Ev.step (f:=fun k=>agoraref23_Word.l0 k ((a+1:Nat):Int) l q) (fun k=>?_) h0;rw [agoraref23_Word.l1];rw [if_neg (by omega),nat_succ_wrap' a (by omega)]
 | m+1,b,hm,hab,hb=>by
  have ih:=rw_l1 a r0 h0 m (b+1) (by omega) (by omega) (by omega);have hle:b≤l.length:=by omega
  obtain ⟨K,hK⟩:=ref_match_f q ((l.take b).drop a) hq (by rw [List.length_drop,List.length_take];omega);have hM:=Ev.of (fun k=>agoraref23_match.mono q ((l.take b).drop a) k) hK;rw [rRow_succ]
  have hrest : ∀ f:Nat→Option Bool,(∀ k,f k=(agoraref23_match.f k q ((l.take b).drop a)).bind fun t=>if t=true then some true else agoraref23_Word.l1 k l q (a:Int) ((b+1:Nat):Int) l q)→Ev f (rM q ((l.take b).drop a) || (rRow q l W a (b+1) m || r0)):=by
   intro f hf;refine Ev.congr hf (Ev.bind hM ?_)
   cases rM q ((l.take b).drop a) with
   | true=>exact Ev.now true
   | false=>simp only [Bool.false_or];exact ih
  by_cases he:b=l.length
  · have hE:rEdge l W b=true:=by unfold rEdge;rw [decide_eq_true he];rfl
    rw [hE,Bool.true_and,Bool.or_assoc];refine Ev.step (fun k=>?_) (hrest _ (fun k=>rfl));rw [agoraref23_Word.l1];rw [if_pos (by omega),if_pos (by omega),if_pos (by omega),if_pos (by omega),nat_succ_wrap' b (by omega)];simp only [Int.toNat_natCast]
  · have hlt:b < l.length:=by omega
    have hrd:rdOf ByteArray.empty l (b:Int)=l[b]:=by simp [rdOf,hlt]
    have hw:=hW b hlt
    cases hwb:W.getD b false with
    | true=>
     have hE:rEdge l W b=false:=by unfold rEdge;rw [decide_eq_false he,hwb];rfl
     rw [hE,Bool.false_and,Bool.false_or];refine Ev.step (fun k=>?_) ih;rw [agoraref23_Word.l1];rw [if_pos (by omega),if_neg (by omega),if_pos (by omega),if_pos (by omega),hrd,hw,hwb,nat_succ_wrap' b (by omega)];rfl
    | false=>
     have hE:rEdge l W b=true:=by unfold rEdge;rw [hwb];simp
     rw [hE,Bool.true_and,Bool.or_assoc];refine Ev.step (fun k=>?_) (hrest _ (fun k=>rfl));rw [agoraref23_Word.l1];rw [if_pos (by omega),if_neg (by omega),if_pos (by omega),if_pos (by omega),hrd,hw,hwb,nat_succ_wrap' b (by omega)];simp only [Option.bind_some,Bool.false_eq_true,if_false];rw [if_pos (by omega),if_pos (by omega)];simp only [Int.toNat_natCast]
theorem rw_l0 : ∀ (m a:Nat),m=l.length+1 - a→a≤l.length+1→Ev (fun k=>agoraref23_Word.l0 k (a:Int) l q) (rWord q l W a m)
 | 0,a,hm,ha=>by
  rw [rWord_zero];refine Ev.step (f:=fun _=>some false) (fun k=>?_) (Ev.now false);rw [agoraref23_Word.l0];rw [if_neg (by omega)]
 | m+1,a,hm,ha=>by
  have ih:=rw_l0 m (a+1) (by omega) (by omega);have h1:=rw_l1 q l hq hl W hW a _ ih (l.length+1 - a) a rfl (Nat.le_refl _) ha;rw [rWord_succ]
  have hj : ∀ t:Bool,Ev (fun k=>agoraref23_Word.j1 k l q (a:Int) l q t) ((!t && rRow q l W a a (l.length+1 - a)) || rWord q l W (a+1) m):=by
   intro t
   cases t with
   | true=>
    refine Ev.step (fun k=>?_) ih;rw [agoraref23_Word.j1];rw [if_pos rfl,nat_succ_wrap' a (by omega)]
   | false=>
    simp only [Bool.not_false,Bool.true_and];refine Ev.step (fun k=>?_) h1;rw [agoraref23_Word.j1];rw [if_neg (by decide)]
  by_cases h0:a=0
  · subst h0;simp only [decide_true,Bool.true_or,Bool.true_and];have:=hj false;simp only [Bool.not_false,Bool.true_and] at this;refine Ev.step (fun k=>?_) this;rw [agoraref23_Word.l0];rw [if_pos (by omega),if_neg (by decide)]
  · have hlt:a - 1 < l.length:=by omega
    have hw1:wrap64 ((a:Int) - 1)=((a - 1:Nat):Int):=by unfold wrap64;omega
    have hrd:rdOf ByteArray.empty l ((a - 1:Nat):Int)=l[a - 1]:=by simp [rdOf,hlt]
    rw [decide_eq_false h0,Bool.false_or];refine Ev.step (fun k=>?_) (hj (W.getD (a - 1) false));rw [agoraref23_Word.l0];rw [if_pos (by omega),if_pos (by omega),hw1,if_pos (by omega),if_pos (by omega),hrd,hW (a - 1) hlt,Option.bind_some]
end
theorem any_range (n:Nat) (f g:Nat→Bool) (h : ∀ d,d < n→f d=g d):(List.range n).any f=(List.range n).any g:=by
 rw [Bool.eq_iff_iff,List.any_eq_true,List.any_eq_true];constructor
 · rintro ⟨d,h1,h2⟩;exact ⟨d,h1,by rw [← h d (List.mem_range.1 h1)];exact h2⟩
 · rintro ⟨d,h1,h2⟩;exact ⟨d,h1,by rw [h d (List.mem_range.1 h1)];exact h2⟩
theorem rWord_gWord (Q P:List (GL×ByteArray)) (hQ : ∀ x ∈ Q,Sh x.1 (nb x.2)) (hP : ∀ x ∈ P,Sh x.1 (nb x.2)) :
 rWord (Q.map Prod.snd) (P.map Prod.snd) (P.map fun x=>gWordL x.1) 0 ((P.map Prod.snd).length+1)=gWordB (Q.map Prod.fst) (P.map Prod.fst) ((P.map Prod.fst).length+1):=by
 have hW : ∀ b,b < P.length→(P.map fun x=>gWordL x.1).getD b false=gWordL (rd_T80 (P.map Prod.fst) (b:Int)):=by
  intro b hb;simp [rd_T80,hb]
 have hE : ∀ b,b≤P.length→rEdge (P.map Prod.snd) (P.map fun x=>gWordL x.1) b=gEdge (P.map Prod.fst) (b:Int):=by
  intro b hb;unfold rEdge gEdge;rw [decide_eq_false (show ¬ (b:Int) < 0 by omega),Bool.false_or,List.length_map,List.length_map];by_cases he:b=P.length
  · rw [decide_eq_true he,decide_eq_true (by omega)];rfl
  · rw [decide_eq_false he,decide_eq_false (by omega),hW b (by omega)]
 unfold rWord gWordB;rw [List.length_map,List.length_map];apply any_range;intro a ha;rw [Nat.zero_add];congr 1
 · by_cases h0:a=0
   · subst h0;rfl
   · unfold gEdge;have e1:((a:Int) - 1)=((a - 1:Nat):Int):=by omega
     rw [e1,decide_eq_false h0,decide_eq_false (show ¬ ((a - 1:Nat):Int) < 0 by omega),List.length_map,decide_eq_false (by omega),hW (a - 1) (by omega)];rfl
 · unfold rRow gRow;apply any_range;intro d hd;rw [hE (a+d) (by omega)];congr 1
   rw [← List.map_take,← List.map_drop,← List.map_take,← List.map_drop];exact pairs_match Q ((P.take (a+d)).drop a) hQ (fun x hx=>hP x (List.mem_of_mem_take (List.mem_of_mem_drop hx)))
theorem ref_Word_f (p s:ByteArray) (hp:p.size≤1000000000) (hs:s.size≤1000000000) : ∃ K,agoraref23_Word.f K p s=some (wordB p s):=by
 by_cases h0:p.toList=[]
 · refine ⟨0,?_⟩;unfold agoraref23_Word.f;rw [if_pos h0];unfold wordB;rw [h0];rfl
 · have hQ:=plets_sh (lowS p) (lowS p).size 0;have hP:=plets_sh (lowS s) (lowS s).size 0;have eQ1:=plets_fst (lowS p) (lowS p).size 0;have eQ2:=plets_snd (lowS p) (lowS p).size 0;have eP1:=plets_fst (lowS s) (lowS s).size 0;have eP2:=plets_snd (lowS s) (lowS s).size 0;have hg:=rWord_gWord _ _ hQ hP;rw [eQ1,eQ2,eP1,eP2] at hg;have lq:=rletters_len (lowS p) (by rw [lowS_size];exact hp);have ls:=rletters_len (lowS s) (by rw [lowS_size];exact hs)
   have hw : ∀ i (h:i < (rletters (lowS s)).length),agoraref23_word.f (rletters (lowS s))[i]=some (((plets (lowS s) (lowS s).size 0).map fun x=>gWordL x.1).getD i false):=by
    intro i h
    have h2:i < (plets (lowS s) (lowS s).size 0).length:=by
     have:=congrArg List.length eP2;rw [List.length_map] at this
     unfold rletters at h;omega
    have e1:(rletters (lowS s))[i]=(plets (lowS s) (lowS s).size 0)[i].2:=by
     unfold rletters;simp only [← eP2,List.getElem_map]
    rw [e1,word_letter _ _ (hP _ (List.getElem_mem h2))];simp [h2]
   have hEv:=rw_l0 (rletters (lowS p)) (rletters (lowS s)) lq ls _ hw ((rletters (lowS s)).length+1) 0 rfl (by omega);obtain ⟨K,hK⟩:=hEv;obtain ⟨j,hj⟩ : ∃ j,j=K+(p.size+s.size+12):=⟨_,rfl⟩;refine ⟨j,?_⟩;unfold agoraref23_Word.f;rw [if_neg h0,low_f s hs j (by omega),Option.bind_some,letters_f (lowS s) (by rw [lowS_size];exact hs) j (by rw [lowS_size];omega),Option.bind_some,low_f p hp j (by omega),Option.bind_some,letters_f (lowS p) (by rw [lowS_size];exact hp) j (by rw [lowS_size];omega),Option.bind_some];have h:=hK j (by omega);simp only [Int.natCast_zero] at h;refine h.trans ?_;have e3:(glets (lowS s) (lowS s).size 0)=(gletters s).map glow:=gletters_low s;have e4:(glets (lowS p) (lowS p).size 0)=(gletters p).map glow:=gletters_low p;rw [e3,e4] at hg;congr 1
   unfold wordB
   have:p.toList.isEmpty=false:=by cases hh:p.toList with
    | nil=>exact absurd hh h0
    | cons a l=>rfl
   rw [this];exact hg
theorem indexByte_neg (c:UInt8) : ∀ l:List UInt8,Lib.indexByte l c < 0↔c ∉ l
 | []=>by simp [Lib.indexByte]
 | b :: l=>by
  have ih:=indexByte_neg c l;unfold Lib.indexByte;by_cases h:b=c
  · subst h;simp
  · rw [if_neg (by simpa using h)];by_cases h2:Lib.indexByte l c = -1
    · rw [if_pos (by simpa using h2)];have:=ih.1 (by omega);simp only [List.mem_cons,not_or];exact ⟨fun _=>⟨fun e=>h e.symm,this⟩,fun _=>by omega⟩
    · rw [if_neg (by simpa using h2)];simp only [List.mem_cons,not_or];constructor
      · intro h3;by_cases h4:Lib.indexByte l c < 0
        · exact ⟨fun e=>h e.symm,ih.1 h4⟩
        · omega
      · rintro ⟨_,h3⟩;have:=ih.2 h3
        have : ∀ l:List UInt8,-1≤Lib.indexByte l c:=by
         intro l
         induction l with
         | nil=>simp [Lib.indexByte]
         | cons x l ih=>unfold Lib.indexByte;split <;> (try split) <;> omega
        have:=this l;omega
theorem plain_l0 (s:ByteArray) (hs:s.size≤1000000000) : ∀ (m i K:Nat),m=s.size - i→i≤s.size→m < K→agoraref23_Plain.l0 K s (i:Int)=some ((s.data.toList.drop i).all fun c=>decide (c≠42∧c≠63))
 | 0,i,K,hm,hi,hK=>by
  obtain ⟨K,rfl⟩ : ∃ j,K=j+1:=⟨K - 1,by omega⟩;rw [agoraref23_Plain.l0,if_neg (by omega),List.drop_eq_nil_of_le (by simp;omega)];rfl
 | m+1,i,K,hm,hi,hK=>by
  obtain ⟨K,rfl⟩ : ∃ j,K=j+1:=⟨K - 1,by omega⟩;have hl:i < s.data.toList.length:=by simp;omega
  have hb:bt s (i:Int)=((s.data.toList[i]).toNat:Int):=by
   rw [bt_get s i (by omega)]
   have:s.get! i=s.data.toList[i]:=by
    have h1:i < s.data.size:=by simpa using hl
    show s.data[i]! = _
    rw [getElem!_pos s.data i h1];simp
   rw [this]
  rw [agoraref23_Plain.l0,if_pos (by omega),if_pos (by omega),hb,List.drop_eq_getElem_cons hl,List.all_cons];generalize s.data.toList[i]=c;by_cases h1:c=42
  · subst h1;rw [if_pos (by decide)];simp
  · have n1 : ¬ (c.toNat:Int)=42:=fun e=>h1 (UInt8.toNat_inj.1 (show c.toNat=42 by omega))
    rw [if_neg n1];by_cases h2:c=63
    · subst h2;rw [if_pos (by decide)];simp
    · have n2 : ¬ (c.toNat:Int)=63:=fun e=>h2 (UInt8.toNat_inj.1 (show c.toNat=63 by omega))
      rw [if_neg n2,nat_succ_wrap' i (by omega),plain_l0 s hs m (i+1) K (by omega) (by omega) (by omega)];simp [h1,h2]
theorem ref_Plain_f (s:ByteArray) (hs:s.size≤1000000000) (K:Nat) (hK:s.size < K):agoraref23_Plain.f K s=some (decide (Lib.indexByte s.data.toList 42 < 0) && decide (Lib.indexByte s.data.toList 63 < 0)):=by
 unfold agoraref23_Plain.f;have:=plain_l0 s hs s.size 0 K (by omega) (by omega) hK;refine (show agoraref23_Plain.l0 K s 0=_ from this).trans ?_;congr 1
 rw [Bool.eq_iff_iff,List.drop_zero,List.all_eq_true,Bool.and_eq_true,decide_eq_true_eq,decide_eq_true_eq,indexByte_neg,indexByte_neg];constructor
 · intro h;refine ⟨fun hm=>?_,fun hm=>?_⟩
   · have:=h _ hm;simp at this
   · have:=h _ hm;simp at this
 · rintro ⟨h1,h2⟩ c hc;rw [decide_eq_true_eq];exact ⟨fun e=>h1 (e ▸ hc),fun e=>h2 (e ▸ hc)⟩
end Go.Proofs.YtodhmbnfliajiaaGreatDoor.Q
