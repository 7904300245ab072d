/- PureGuards: a text of this claim's proof,as printed or written,without what the claim does not use. -/
import Derived.StillTail
import Derived.Great.Frames
import Derived.Test.YtodhmbnfliajiaaGreatDoorQx0
namespace Go.Proofs.YtodhmbnfliajiaaGreatDoor.Q
open Go.RowKit Go.Proofs.YtodhmbnfliajiaaGreatDoorW.PrintWords
set_option linter.unusedVariables false
set_option linter.unnecessarySimpa false
inductive Spec where
 | off
 | val (v:Value)
 | by_ (s:World→Value→Prop)
def Spec.V:Spec→World→Value→Prop
 | .off=>fun _ v=>v=undef
 | .val u=>fun _ v=>v=u
 | .by_ s=>s
def Spec.on:Spec→Bool
 | .off=>false
 | _=>true
def Spec.lasts:Spec→Prop
 | .by_ s=>∀ w w' v,Below w.heap.size w w'→s w v→s w' v
 | _=>True
def specAt (S:List Spec) (i:Nat):Spec:=S.getD i .off
def Spec.flat:Spec→Bool
 | .by_ _=>false
 | _=>true
theorem lasts_vals {S:List Spec} (h:S.all Spec.flat=true) (i:Nat):(specAt S i).lasts:=by
 unfold specAt;by_cases hi:i < S.length
 · have h1:S.getD i .off=S[i]:=by simp [hi]
   rw [h1];have:=List.all_eq_true.1 h _ (List.getElem_mem hi);generalize S[i]=s at *
   cases s with
   | off=>exact trivial
   | val _=>exact trivial
   | by_ _=>cases this
 · have h1:S.getD i .off=.off:=by simp [hi]
   rw [h1];exact trivial
def maskOf (acc:List Nat) (o:Oper):Nat:=o.after.toList.foldl (fun m e=>if Region.binds .any e then m ||| acc.getD e.on 0 else m) (1 <<< acc.length)
def masks (l:List Oper):List Nat:=l.foldl (fun acc o=>acc++[maskOf acc o]) []
def reachB (l:List Oper) (j i:Nat):Bool:=((masks l).getD j 0).testBit i
theorem masks_snoc (l:List Oper) (o:Oper):masks (l++[o])=masks l++[maskOf (masks l) o]:=by
 unfold masks;rw [List.foldl_append];rfl
theorem masks_append (l r:List Oper) : ∃ s,masks (l++r)=masks l++s:=by
 induction r generalizing l with
 | nil=>exact ⟨[],by simp⟩
 | cons o r ih=>
  obtain ⟨s,hs⟩:=ih (l++[o]);refine ⟨maskOf (masks l) o :: s,?_⟩;rw [show l++o :: r=(l++[o])++r by simp,hs,masks_snoc];simp
theorem masks_length (l:List Oper):(masks l).length=l.length:=by
 have h : ∀ (l:List Oper) (acc:List Nat),(l.foldl (fun acc o=>acc++[maskOf acc o]) acc).length=acc.length+l.length:=by
  intro l
  induction l with
  | nil=>intro acc;rfl
  | cons o l ih=>intro acc;rw [List.foldl_cons,ih];simp;omega
 unfold masks;rw [h];simp
theorem mask_bit (acc:List Nat) (i:Nat) : ∀ (es:List Edge) (m0:Nat),(es.foldl (fun m e=>if Region.binds .any e then m ||| acc.getD e.on 0 else m) m0).testBit i=true→m0.testBit i=true∨∃ e ∈ es,Region.binds .any e=true∧(acc.getD e.on 0).testBit i=true
 | [],m0,h=>.inl h
 | e :: es,m0,h=>by
  rw [List.foldl_cons] at h;rcases mask_bit acc i es _ h with h1 | ⟨e',he',h2⟩
  · cases hb:Region.binds .any e with
    | false=>rw [hb,if_neg (by decide)] at h1;exact .inl h1
    | true=>
     rw [hb,if_pos rfl,Nat.testBit_or,Bool.or_eq_true] at h1;rcases h1 with h1|h1
     · exact .inl h1
     · exact .inr ⟨e,List.mem_cons_self,hb,h1⟩
  · exact .inr ⟨e',List.mem_cons_of_mem _ he',h2⟩
theorem reach_lt {l:List Oper} {j i:Nat} (h:reachB l j i=true):j < l.length:=by
 unfold reachB at h;by_cases hj:j < (masks l).length
 · rwa [masks_length] at hj
 · rw [List.getD_eq_getElem?_getD,List.getElem?_eq_none (by omega)] at h;simp at h
theorem reach_step {l:List Oper} {j i:Nat} {o:Oper} (ho:l[j]?=some o) (hb : ∀ e ∈ o.after,Region.binds .any e=true→e.on < j) (h:reachB l j i=true):i=j∨∃ e ∈ o.after,Region.binds .any e=true∧reachB l e.on i=true:=by
 have hj:=(List.getElem?_eq_some_iff.1 ho).1
 have hsp:l=l.take j++(o :: l.drop (j+1)):=by
  have:=(List.getElem?_eq_some_iff.1 ho).2;rw [← this,← List.drop_eq_getElem_cons hj,List.take_append_drop]
 have hlen:(masks (l.take j)).length=j:=by rw [masks_length,List.length_take];omega
 obtain ⟨s,hs⟩:=masks_append (l.take j++[o]) (l.drop (j+1));rw [show (l.take j++[o])++l.drop (j+1)=l by rw [List.append_assoc];exact hsp.symm,masks_snoc] at hs
 have hpre : ∀ q,q < j→(masks l).getD q 0=(masks (l.take j)).getD q 0:=by
  intro q hq;rw [hs,List.getD_eq_getElem?_getD,List.getD_eq_getElem?_getD,List.append_assoc,List.getElem?_append_left (by omega)]
 have hat:(masks l).getD j 0=maskOf (masks (l.take j)) o:=by
  rw [hs,List.getD_eq_getElem?_getD,List.append_assoc,List.getElem?_append_right (by omega),hlen,Nat.sub_self];rfl
 unfold reachB at h;rw [hat] at h;unfold maskOf at h;rcases mask_bit _ i _ _ h with h1 | ⟨e,he,hbe,h2⟩
 · left
   rw [hlen,Nat.one_shiftLeft,Nat.testBit_two_pow] at h1;exact (of_decide_eq_true h1).symm
 · right
   have he':e ∈ o.after:=by simpa using he
   refine ⟨e,he',hbe,?_⟩;unfold reachB;rw [hpre e.on (hb e he' hbe)];exact h2
def guardOk (l:List Oper) (S:List Spec) (i:Nat) (o:Oper):Bool:=match o.guard with
 | none=>(specAt S i).on
 | some (j,pol)=>decide (j≠i) && reachB l i j && decide (j < l.length) && (match specAt S j with
  | .val (.bool b)=>(b==pol)==(specAt S i).on
  | .off=>!(specAt S i).on
  | _=>false)
def looksG (l:List Oper) (S:List Spec):Bool:=(List.range l.length).all fun i=>match l[i]? with
 | none=>true
 | some o=>guardOk l S i o && o.after.all fun e=>!Region.binds .any e || decide (e.on < i)
theorem looksG_spec {l:List Oper} {S:List Spec} (h:looksG l S=true) {i:Nat} {o:Oper} (ho:l[i]?=some o):guardOk l S i o=true∧∀ e ∈ o.after,Region.binds .any e=true→e.on < i:=by
 unfold looksG at h;rw [List.all_eq_true] at h;have hi:=(List.getElem?_eq_some_iff.1 ho).1;have:=h i (List.mem_range.2 hi);rw [ho] at this;simp only [Bool.and_eq_true,Array.all_eq_true_iff_forall_mem,Bool.or_eq_true,Bool.not_eq_true',decide_eq_true_eq] at this;exact ⟨this.1,fun e he hb=>(this.2 e he).resolve_left (by rw [hb];decide)⟩
section
variable {P:Program} {Q:Exit→Act→World→Prop}
structure StandsG (l:List Oper) (S:List Spec) (D:Nat→Nat) (a0:Act) (w0:World) (listed:Array Bool) (a:Act) (w:World):Prop where
 below:Below w0.heap.size w0 w
 size:a.tmps.size=a0.tmps.size
 defers:a.defers=a0.defers
 kept : ∀ x,(∀ i,i < l.length→D i≠x)→a.eval (.tmp x)=a0.eval (.tmp x)
 done : ∀ i,i < l.length→listed.getD i false=true→(specAt S i).V w (a.eval (.tmp (D i)))
 left : ∀ i,i < l.length→listed.getD i false=false→a.eval (.tmp (D i))=a0.eval (.tmp (D i))
 closed : ∀ i o,l[i]?=some o→listed.getD i false=true→∀ e ∈ o.after,Region.binds .any e=true→listed.getD e.on false=true
theorem closed_reach {l:List Oper} {listed:Array Bool} (hb : ∀ j o,l[j]?=some o→∀ e ∈ o.after,Region.binds .any e=true→e.on < j) (hc : ∀ i o,l[i]?=some o→listed.getD i false=true→∀ e ∈ o.after,Region.binds .any e=true→listed.getD e.on false=true) :
 ∀ (j i:Nat),reachB l j i=true→listed.getD j false=true→listed.getD i false=true:=by
 intro j
 induction j using Nat.strongRecOn with
 | _ j ih=>
  intro i h hj;have hjl:=reach_lt h;have ho:l[j]?=some l[j]:=List.getElem?_eq_getElem hjl;rcases reach_step ho (hb j _ ho) h with rfl | ⟨e,he,hbe,hr⟩
  · exact hj
  · exact ih e.on (hb j _ ho e he hbe) i hr (hc j _ ho hj e he hbe)
def PartG (P:Program) (l:List Oper) (S:List Spec) (D:Nat→Nat) (a0:Act) (w0:World) (Q:Exit→Act→World→Prop) (i:Nat) (o:Oper):Prop :=
 ∀ a w,Below w0.heap.size w0 w→(∀ x,(∀ i,i < l.length→D i≠x)→a.eval (.tmp x)=a0.eval (.tmp x))→(∀ m,m≠i→reachB l i m=true→(specAt S m).V w (a.eval (.tmp (D m))))→(∀ j,j < l.length→reachB l j i=true→a.eval (.tmp (D j))=a0.eval (.tmp (D j)))→
  ∀ K:Act→World→Prop,(∀ v w',(specAt S i).V w' v→Below w.heap.size w w'→K (a.put o.dst v) w')→Oper.wp P o a w K Q
theorem yielded_eval {l:List Oper} {D:Nat→Nat} {a:Act} (hD : ∀ i o,l[i]?=some o→o.dst=some (D i)) {j:Nat} (hj:j < l.length) (hin:D j < a.tmps.size):yielded l.toArray a.tmps j=match a.eval (.tmp (D j)) with | .bool b=>some b|_=>none:=by
 unfold yielded;have h1:l.toArray[j]?=some l[j]:=by simp [hj]
 rw [h1];have h2:=hD j l[j] (List.getElem?_eq_getElem hj);simp only [Option.bind_some,h2,Array.getElem?_eq_getElem hin];have h3:a.eval (.tmp (D j))=a.tmps[D j]:=by simp [Act.eval,hin]
 rw [h3];cases a.tmps[D j] <;> rfl
theorem wpAny_partsG (l:List Oper) (S:List Spec) (hl:looksG l S=true) (D:Nat→Nat) (a0:Act) (w0:World)
 (hV : ∀ i,(specAt S i).lasts)
 (hD : ∀ i o,l[i]?=some o→o.dst=some (D i)) (hinj : ∀ i j,i < l.length→j < l.length→D i=D j→i=j) (hin : ∀ i,i < l.length→D i < a0.tmps.size)
 (hp : ∀ i o,l[i]?=some o→(specAt S i).on=true→PartG P l S D a0 w0 Q i o)
 (hq : ∀ a w,Below w0.heap.size w0 w→a.tmps.size=a0.tmps.size→a.defers=a0.defers→(∀ x,(∀ i,i < l.length→D i≠x)→a.eval (.tmp x)=a0.eval (.tmp x))→(∀ i,i < l.length→(specAt S i).V w (a.eval (.tmp (D i))))→Q .normal a w) :
 ∀ fuel listed a w,listed.size=l.length→listed.toList.count false≤fuel→StandsG l S D a0 w0 listed a w→wpAny P .any l.toArray Q fuel listed a w:=by
 have hlast : ∀ i w w' v,Below w.heap.size w w'→(specAt S i).V w v→(specAt S i).V w' v:=by
  intro i w w' v hb h;have h1:=hV i;generalize specAt S i=s at *
  cases s with
  | off=>exact h
  | val u=>exact h
  | by_ s=>exact h1 w w' v hb h
 have all_of : ∀ (listed:Array Bool),listed.size=l.length→Region.ready .any l.toArray listed=[]→∀ j,j < l.length→listed.getD j false=true:=by
  intro listed hs hr j
  induction j using Nat.strongRecOn with
  | _ j ih=>
   intro hj
   cases hc:listed.getD j false with
   | true=>rfl
   | false=>
    exfalso;have ho:l[j]?=some l[j]:=List.getElem?_eq_getElem hj
    have:j ∈ Region.ready .any l.toArray listed:=by
     refine mem_ready.2 ⟨?_,l[j],by simpa using ho,fun e he hb=>?_⟩
     · have hlt:j < listed.size:=by omega
       simp only [Array.getD_eq_getD_getElem?,Array.getElem?_eq_getElem hlt,Option.getD_some] at hc ⊢;exact hc
     · have hlt:=(looksG_spec hl ho).2 e he hb;exact ih e.on hlt (by omega)
    rw [hr] at this;cases this
 intro fuel
 induction fuel with
 | zero=>
  intro listed a w hs hc hI
  have hall : ∀ j,j < l.length→listed.getD j false=true:=by
   intro j hj;have hlt:j < listed.size:=by omega
   have hm:false ∉ listed.toList:=by
    intro h;have:=List.count_pos_iff.2 h;omega
   simp only [Array.getD_eq_getD_getElem?,Array.getElem?_eq_getElem hlt,Option.getD_some]
   cases hx:listed[j] with
   | true=>rfl
   | false=>exact absurd (by rw [← hx];simp) hm
  refine ⟨?_,hq a w hI.below hI.size hI.defers hI.kept (fun i hi=>hI.done i hi (hall i hi))⟩;apply List.eq_nil_iff_forall_not_mem.2;intro j hj;obtain ⟨h1,o,ho,-⟩:=mem_ready.1 hj
  have hlt:j < l.length:=by
   have:=(Array.getElem?_eq_some_iff.1 ho).1;simpa using this
  have h2:=hall j hlt;have hlt':j < listed.size:=by omega
  simp only [Array.getD_eq_getD_getElem?,Array.getElem?_eq_getElem hlt',Option.getD_some] at h1 h2;rw [h1] at h2;cases h2
 | succ fuel ih=>
  intro listed a w hs hc hI;refine ⟨fun hr=>hq a w hI.below hI.size hI.defers hI.kept (fun i hi=>hI.done i hi (all_of listed hs hr i hi)),fun i hi=>?_⟩;obtain ⟨h1,o,ho,hdep⟩:=mem_ready.1 hi;have ho':l[i]?=some o:=by simpa using ho
  have hlt:i < l.length:=(List.getElem?_eq_some_iff.1 ho').1;have hlt':i < listed.size:=by omega
  have hlk:=looksG_spec hl ho';have hd:=hD i o ho';have hDi:=hin i hlt
  have hun:listed.getD i false=false:=by
   simp only [Array.getD_eq_getD_getElem?,Array.getElem?_eq_getElem hlt',Option.getD_some] at h1 ⊢;exact h1
  have hdepL : ∀ e ∈ o.after,Region.binds .any e=true→listed.getD e.on false=true:=fun e he hb=>by
   have h2:=hdep e he hb;have:e.on < listed.size:=by have:=hlk.2 e he hb;omega
   simp only [Array.getD_eq_getD_getElem?,Array.getElem?_eq_getElem this,Option.getD_some] at h2 ⊢;exact h2
  have hback : ∀ j o,l[j]?=some o→∀ e ∈ o.after,Region.binds .any e=true→e.on < j:=fun j o h=>(looksG_spec hl h).2
  have hdone : ∀ m,m≠i→reachB l i m=true→listed.getD m false=true:=by
   intro m hm hr;rcases reach_step ho' hlk.2 hr with rfl | ⟨e,he,hb,hr⟩
   · exact absurd rfl hm
   · exact closed_reach hback hI.closed e.on m hr (hdepL e he hb)
  have hltof : ∀ m,listed.getD m false=true→m < l.length:=by
   intro m hm;by_cases h:m < l.length
   · exact h
   · rw [Array.getD_eq_getD_getElem?,Array.getElem?_eq_none (by omega)] at hm;cases hm
  have hf:listed.toList[i]'(by simpa using hlt')=false:=by
   simp only [Array.getD_eq_getD_getElem?,Array.getElem?_eq_getElem hlt',Option.getD_some] at hun;simpa using hun
  have hcount:(listed.setIfInBounds i true).toList.count false≤fuel:=by
   rw [Array.toList_setIfInBounds,List.count_set (by simpa using hlt')];have hpos:0 < listed.toList.count false:=List.count_pos_iff.2 (by rw [← hf];exact List.getElem_mem _);rw [hf];generalize listed.toList.count false=m at *;have e1:(if (false==false)=true then 1 else 0)=1:=rfl;have e2:(if (true==false)=true then 1 else 0)=0:=rfl;rw [e1,e2];omega
  have hnext : ∀ v w',(specAt S i).V w' v→Below w.heap.size w w'→StandsG l S D a0 w0 (listed.setIfInBounds i true) (a.put o.dst v) w':=by
   intro v w' hv hb;rw [hd];refine ⟨below_step hI.below hb,?_,?_,fun x hx=>?_,fun j hj hlj=>?_,fun j hj hlj=>?_,fun j o' ho2 hlj e he hbd=>?_⟩
   · simpa [Act.put] using hI.size
   · simpa [Act.put] using hI.defers
   · rw [Act.eval_put_ne _ _ _ _ (hx i hlt)];exact hI.kept x hx
   · by_cases hij:i=j
     · subst hij;rw [Act.eval_put_same _ _ _ (by rw [hI.size];exact hDi)];exact hv
     · rw [Act.eval_put_ne _ _ _ _ (fun e=>hij (hinj i j hlt hj e))];refine hlast j w w' _ hb (hI.done j hj ?_);rwa [getD_set_ne false hij] at hlj
   · by_cases hij:i=j
     · subst hij;rw [Array.getD_eq_getD_getElem?,Array.getElem?_setIfInBounds_self_of_lt hlt'] at hlj;cases hlj
     · rw [Act.eval_put_ne _ _ _ _ (fun e=>hij (hinj i j hlt hj e))];refine hI.left j hj ?_;rwa [getD_set_ne false hij] at hlj
   · have hset : ∀ m,listed.getD m false=true→(listed.setIfInBounds i true).getD m false=true:=by
      intro m hm;by_cases him:i=m
      · subst him;rw [Array.getD_eq_getD_getElem?,Array.getElem?_setIfInBounds_self_of_lt hlt'];rfl
      · rwa [getD_set_ne false him]
     by_cases hij:i=j
     · subst hij;rw [ho'] at ho2;cases ho2;exact hset _ (hdepL e he hbd)
     · rw [getD_set_ne false hij] at hlj;exact hset _ (hI.closed j o' ho2 hlj e he hbd)
  refine wpOp_step (P:=P) (ops:=l.toArray) (i:=i) (o:=o) ho (fun K' hK=>?_)
  have hwant:Region.wanted o (yielded l.toArray a.tmps)=(specAt S i).on:=by
   have hg:=hlk.1;unfold guardOk at hg;unfold Region.wanted
   cases hgd:o.guard with
   | none=>rw [hgd] at hg;exact hg.symm
   | some g=>
    obtain ⟨j,pol⟩:=g;rw [hgd] at hg;simp only [Bool.and_eq_true,decide_eq_true_eq] at hg;obtain ⟨⟨⟨h1,h2⟩,h3⟩,h4⟩:=hg;have hv:=hI.done j h3 (hdone j h1 h2);have hy:=yielded_eval (a:=a) hD h3 (by rw [hI.size];exact hin j h3);simp only;rw [hy];generalize specAt S j=sj at *
    cases sj with
    | off=>
     have hv':a.eval (.tmp (D j))=undef:=hv;rw [hv'];simp only [Bool.not_eq_true'] at h4;rw [h4];rfl
    | val v=>
     have hv':a.eval (.tmp (D j))=v:=hv;rw [hv'];cases v <;> first|(cases h4)|(rename_i b;rw [beq_iff_eq] at h4;rw [← h4];rfl)
    | by_ s=>cases h4
  rw [hwant]
  cases hon:(specAt S i).on with
  | true=>
   rw [if_pos rfl];refine hp i o ho' hon a w hI.below hI.kept (fun m hm hr=>?_) (fun j hj hr=>hI.left j hj ?_) K' (fun v w' hv hb=>hK _ _ (ih _ _ _ (by simpa using hs) hcount (hnext v w' hv hb)))
   · have:=hdone m hm hr;exact hI.done m (hltof m this) this
   · cases hlj:listed.getD j false with
     | false=>rfl
     | true=>have:=closed_reach hback hI.closed j i hr hlj;rw [hun] at this;cases this
  | false=>
   rw [if_neg (by decide)];refine hK _ _ (ih _ _ _ (by simpa using hs) hcount (hnext undef w ?_ (Below.refl _ _)));generalize specAt S i=s at *
   cases s with
   | off=>rfl
   | val _=>cases hon
   | by_ _=>cases hon
def PartsG (P:Program) (l:List Oper) (S:List Spec) (D:Nat→Nat) (a0:Act) (w0:World) (Q:Exit→Act→World→Prop):Nat→List Oper→Prop
 | _,[]=>True
 | k,o :: r=>((specAt S k).on=true→PartG P l S D a0 w0 Q k o)∧PartsG P l S D a0 w0 Q (k+1) r
theorem PartsG.at {l:List Oper} {S:List Spec} {D:Nat→Nat} {a0:Act} {w0:World} : ∀ (r:List Oper) (k:Nat),PartsG P l S D a0 w0 Q k r→∀ i o,r[i]?=some o→(specAt S (k+i)).on=true→PartG P l S D a0 w0 Q (k+i) o:=by
 intro r
 induction r with
 | nil=>intro k _ i o h;simp at h
 | cons x r ih=>
  intro k h i o ho
  cases i with
  | zero=>simp at ho;subst ho;exact h.1
  | succ i=>
   have:=ih (k+1) h.2 i o (by simpa using ho);rwa [Nat.add_right_comm] at this
def gslot (ds:List Nat) (i:Nat):Nat:=ds.getD i 0
def gslotsOk (l:List Oper) (ds:List Nat) (m:Nat):Bool:=decide (l.map (·.dst)=ds.map some) && (decide ds.Nodup && ds.all fun d=>decide (d < m))
theorem wp_region_guards {id:Nat} {a0:Act} {w:World} (l:List Oper) (ds:List Nat) (S:List Spec) (hm:P.follows .mixedOrders=true) (hl:looksG l S=true) (hs:gslotsOk l ds a0.tmps.size=true)
 (hV : ∀ i,(specAt S i).lasts)
 (hp:PartsG P l S (gslot ds) a0 w.drew Q 0 l)
 (hq : ∀ a w',Below w.heap.size w w'→a.tmps.size=a0.tmps.size→a.defers=a0.defers→(∀ x,x ∉ ds→a.eval (.tmp x)=a0.eval (.tmp x))→(∀ i,i < l.length→(specAt S i).V w' (a.eval (.tmp (gslot ds i))))→Q .normal a w'):(Code.region id l.toArray true).wp P Q a0 w:=by
 unfold gslotsOk at hs;simp only [Bool.and_eq_true,decide_eq_true_eq,List.all_eq_true] at hs;obtain ⟨hd,hn,hall⟩:=hs;have hlen:l.length=ds.length:=by have:=congrArg List.length hd;simpa using this
 have hD : ∀ i o,l[i]?=some o→o.dst=some (gslot ds i):=by
  intro i o ho;have h1:(l.map (·.dst))[i]?=some o.dst:=by simp [ho]
  rw [hd] at h1;have hi:i < ds.length:=by rw [← hlen];exact (List.getElem?_eq_some_iff.1 ho).1
  unfold gslot;simp [hi] at h1 ⊢;exact h1.symm
 have hx : ∀ x,(∀ i,i < l.length→gslot ds i≠x)↔x ∉ ds:=by
  intro x;constructor
  · intro h hm;obtain ⟨i,hi,e⟩:=List.getElem_of_mem hm;exact h i (by omega) (by unfold gslot;simp [hi,e])
  · intro h i hi e;apply h;rw [← e];unfold gslot;have:i < ds.length:=by omega
    simp [this]
 refine wp_region_any hm ?_;refine wpAny_partsG l S hl (gslot ds) a0 w.drew hV hD ?_ ?_ (fun i o ho hon=>by have:=PartsG.at l 0 hp i o ho;rw [Nat.zero_add] at this;exact this hon) ?_ _ _ _ _ (by simp) ?_ ?_
 · intro i j hi hj e;unfold gslot at e;have hi':i < ds.length:=by omega
   have hj':j < ds.length:=by omega
   simp [hi',hj'] at e;have hpw:=List.pairwise_iff_getElem.1 hn;rcases Nat.lt_trichotomy i j with h|h|h
   · exact absurd e (hpw i j hi' hj' h)
   · exact h
   · exact absurd e.symm (hpw j i hj' hi' h)
 · intro i hi;have hi':i < ds.length:=by omega
   exact hall _ (by unfold gslot;simp [hi'])
 · intro a w' hb h1 h2 h3 h4;exact hq a w' (below_step (below_drew1 (Below.refl _ _)) hb) h1 h2 (fun x hxx=>h3 x ((hx x).2 hxx)) h4
 · simp
 · exact ⟨Below.refl _ _,rfl,rfl,fun _ _=>rfl,(fun i hi hc=>by rw [getD_replicate_false] at hc;cases hc),(fun i hi _=>rfl),(fun i o ho hc=>by rw [getD_replicate_false] at hc;cases hc)⟩
def Spec.value:Spec→Value
 | .val v=>v
 | _=>undef
def puts:Act→List Nat→List Spec→Act
 | a,d :: ds,s :: S=>puts (a.put (some d) s.value) ds S
 | a,_,_=>a
theorem act_ext {a b:Act} (h1:a.tmps.size=b.tmps.size) (h2:a.defers=b.defers) (h3 : ∀ x,a.eval (.tmp x)=b.eval (.tmp x)):a=b:=by
 obtain ⟨t,d⟩:=a;obtain ⟨t',d'⟩:=b;simp only at h1 h2;subst h2;congr 1
 apply Array.ext h1;intro i hi hi';have:=h3 i;simpa [Act.eval,hi,hi'] using this
theorem puts_spec : ∀ (ds:List Nat) (S:List Spec) (a:Act),ds.length=S.length→ds.Nodup→(∀ d ∈ ds,d < a.tmps.size)→
 (puts a ds S).tmps.size=a.tmps.size∧(puts a ds S).defers=a.defers∧(∀ x,x ∉ ds→(puts a ds S).eval (.tmp x)=a.eval (.tmp x))∧(∀ i,i < ds.length→(puts a ds S).eval (.tmp (gslot ds i))=(specAt S i).value)
 | [],[],a,_,_,_=>⟨rfl,rfl,fun _ _=>rfl,fun i hi=>by cases hi⟩
 | d :: ds,s :: S,a,hl,hn,hin=>by
  have hn':=List.nodup_cons.1 hn;obtain ⟨h1,h2,h3,h4⟩:=puts_spec ds S (a.put (some d) s.value) (by simpa using hl) hn'.2 (fun x hx=>by simpa [Act.put] using hin x (List.mem_cons_of_mem _ hx));have hd:=hin d List.mem_cons_self;refine ⟨by rw [show puts a (d :: ds) (s :: S)=puts (a.put (some d) s.value) ds S from rfl,h1];simp [Act.put],by rw [show puts a (d :: ds) (s :: S)=puts (a.put (some d) s.value) ds S from rfl,h2];simp [Act.put],fun x hx=>?_,fun i hi=>?_⟩
  · rw [show puts a (d :: ds) (s :: S)=puts (a.put (some d) s.value) ds S from rfl,h3 x (fun h=>hx (List.mem_cons_of_mem _ h)),Act.eval_put_ne _ _ _ _ (fun e=>hx (by rw [← e];exact List.mem_cons_self))]
  · rw [show puts a (d :: ds) (s :: S)=puts (a.put (some d) s.value) ds S from rfl]
    cases i with
    | zero=>
     show (puts (a.put (some d) s.value) ds S).eval (.tmp d)=s.value
     rw [h3 d hn'.1,Act.eval_put_same _ _ _ hd]
    | succ i=>exact h4 i (by simpa using hi)
theorem wp_region_flat {id:Nat} {a0:Act} {w:World} (l:List Oper) (ds:List Nat) (S:List Spec) (hm:P.follows .mixedOrders=true) (hl:looksG l S=true) (hs:gslotsOk l ds a0.tmps.size=true)
 (hV:S.all Spec.flat=true) (hSl:ds.length=S.length)
 (hp:PartsG P l S (gslot ds) a0 w.drew Q 0 l)
 (hq : ∀ w',Below w.heap.size w w'→Q .normal (puts a0 ds S) w'):(Code.region id l.toArray true).wp P Q a0 w:=by
 refine wp_region_guards l ds S hm hl hs (fun i=>lasts_vals hV i) hp ?_;intro a w' hb h1 h2 h3 h4;have hs':=hs;unfold gslotsOk at hs';simp only [Bool.and_eq_true,decide_eq_true_eq,List.all_eq_true] at hs';obtain ⟨hd,hn,hall⟩:=hs';have hlen:l.length=ds.length:=by have:=congrArg List.length hd;simpa using this
 obtain ⟨p1,p2,p3,p4⟩:=puts_spec ds S a0 hSl hn hall
 have:a=puts a0 ds S:=by
  refine act_ext (h1.trans p1.symm) (h2.trans p2.symm) (fun x=>?_);by_cases hx:x ∈ ds
  · obtain ⟨i,hi,e⟩:=List.getElem_of_mem hx;have hg:gslot ds i=x:=by unfold gslot;simp [hi,e]
    rw [← hg,p4 i hi];have hv:=h4 i (by omega);have hf:=hV;rw [List.all_eq_true] at hf;have hi':i < S.length:=by omega
    have hsp:specAt S i=S[i]:=by unfold specAt;simp [hi']
    rw [hsp] at hv ⊢;have hfl:=hf _ (List.getElem_mem hi');generalize S[i]=s at *
    cases s with
    | off=>exact hv
    | val v=>exact hv
    | by_ _=>cases hfl
  · rw [h3 x hx,p3 x hx]
 rw [this];exact hq w' hb
end
end Go.Proofs.YtodhmbnfliajiaaGreatDoor.Q
