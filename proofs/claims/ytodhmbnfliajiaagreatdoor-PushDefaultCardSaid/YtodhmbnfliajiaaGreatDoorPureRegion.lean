/- PureRegion: a text of this claim's proof,as printed or written,without what the claim does not use. -/
import Derived.Test.YtodhmbnfliajiaaGreatDoorPureGuards
namespace Go.Proofs.YtodhmbnfliajiaaGreatDoor.Q
open Go.RowKit Go.Proofs.YtodhmbnfliajiaaGreatDoorW.PrintWords
set_option linter.unusedVariables false
set_option linter.unnecessarySimpa false
def valOf (a:Act):Option Nat→Value
 | some d=>a.eval (.tmp d)
 | none=>undef
section
variable {P:Program} {Q:Exit→Act→World→Prop}
structure StandsR (l:List Oper) (S:List Spec) (D:Nat→Option Nat) (Inv:World→Prop) (a0:Act) (listed:Array Bool) (a:Act) (w:World):Prop where
 inv:Inv w
 size:a.tmps.size=a0.tmps.size
 defers:a.defers=a0.defers
 kept : ∀ x,(∀ i,i < l.length→D i≠some x)→a.eval (.tmp x)=a0.eval (.tmp x)
 done : ∀ i,i < l.length→listed.getD i false=true→(specAt S i).V w (valOf a (D i))
 left : ∀ i d,i < l.length→listed.getD i false=false→D i=some d→a.eval (.tmp d)=a0.eval (.tmp d)
 closed : ∀ i o,l[i]?=some o→listed.getD i false=true→∀ e ∈ o.after,Region.binds .any e=true→listed.getD e.on false=true
def PartR (P:Program) (l:List Oper) (S:List Spec) (D:Nat→Option Nat) (Inv:World→Prop) (R:Nat→World→World→Prop) (a0:Act) (Q:Exit→Act→World→Prop) (i:Nat) (o:Oper):Prop :=
 ∀ a w,Inv w→(∀ x,(∀ i,i < l.length→D i≠some x)→a.eval (.tmp x)=a0.eval (.tmp x))→(∀ m,m≠i→reachB l i m=true→(specAt S m).V w (valOf a (D m)))→(∀ j d,j < l.length→D j=some d→reachB l j i=true→a.eval (.tmp d)=a0.eval (.tmp d))→
  ∀ K:Act→World→Prop,(∀ v w',(specAt S i).V w' v→R i w w'→K (a.put o.dst v) w')→Oper.wp P o a w K Q
def guardPlace (l:List Oper):Bool:=l.all fun o=>match o.guard with
 | none=>true
 | some (j,_)=>match l[j]? with
  | none=>false
  | some o'=>o'.dst.isSome
theorem wpAny_partsR (l:List Oper) (S:List Spec) (hl:looksG l S=true) (hgp:guardPlace l=true) (D:Nat→Option Nat) (Inv:World→Prop) (R:Nat→World→World→Prop) (a0:Act)
 (hI : ∀ i w w',Inv w→R i w w'→Inv w')
 (hV : ∀ i j,i≠j→reachB l j i=false→∀ w w' v,Inv w→R i w w'→(specAt S j).V w v→(specAt S j).V w' v)
 (hNo : ∀ i,i < l.length→D i=none→∀ w v v',(specAt S i).V w v→(specAt S i).V w v')
 (hD : ∀ i o,l[i]?=some o→o.dst=D i) (hinj : ∀ i j d,i < l.length→j < l.length→D i=some d→D j=some d→i=j) (hin : ∀ i d,i < l.length→D i=some d→d < a0.tmps.size)
 (hp : ∀ i o,l[i]?=some o→(specAt S i).on=true→PartR P l S D Inv R a0 Q i o)
 (hq : ∀ a w,Inv w→a.tmps.size=a0.tmps.size→a.defers=a0.defers→(∀ x,(∀ i,i < l.length→D i≠some x)→a.eval (.tmp x)=a0.eval (.tmp x))→(∀ i,i < l.length→(specAt S i).V w (valOf a (D i)))→Q .normal a w) :
 ∀ fuel listed a w,listed.size=l.length→listed.toList.count false≤fuel→StandsR l S D Inv a0 listed a w→wpAny P .any l.toArray Q fuel listed a w:=by
 have all_of : ∀ (listed:Array Bool),listed.size=l.length→Region.ready .any l.toArray listed=[]→∀ j,j < l.length→listed.getD j false=true:=by
  intro listed hs hr j
  induction j using Nat.strongRecOn with
  | _ j ih=>
   intro hj
   cases hc:listed.getD j false with
   | true=>rfl
   | false=>
    exfalso;have ho:l[j]?=some l[j]:=List.getElem?_eq_getElem hj
    have:j ∈ Region.ready .any l.toArray listed:=by
     refine mem_ready.2 ⟨?_,l[j],by simpa using ho,fun e he hb=>?_⟩
     · have hlt:j < listed.size:=by omega
       simp only [Array.getD_eq_getD_getElem?,Array.getElem?_eq_getElem hlt,Option.getD_some] at hc ⊢;exact hc
     · have hlt:=(looksG_spec hl ho).2 e he hb;exact ih e.on hlt (by omega)
    rw [hr] at this;cases this
 intro fuel
 induction fuel with
 | zero=>
  intro listed a w hs hc hS
  have hall : ∀ j,j < l.length→listed.getD j false=true:=by
   intro j hj;have hlt:j < listed.size:=by omega
   have hm:false ∉ listed.toList:=by
    intro h;have:=List.count_pos_iff.2 h;omega
   simp only [Array.getD_eq_getD_getElem?,Array.getElem?_eq_getElem hlt,Option.getD_some]
   cases hx:listed[j] with
   | true=>rfl
   | false=>exact absurd (by rw [← hx];simp) hm
  refine ⟨?_,hq a w hS.inv hS.size hS.defers hS.kept (fun i hi=>hS.done i hi (hall i hi))⟩;apply List.eq_nil_iff_forall_not_mem.2;intro j hj;obtain ⟨h1,o,ho,-⟩:=mem_ready.1 hj
  have hlt:j < l.length:=by
   have:=(Array.getElem?_eq_some_iff.1 ho).1;simpa using this
  have h2:=hall j hlt;have hlt':j < listed.size:=by omega
  simp only [Array.getD_eq_getD_getElem?,Array.getElem?_eq_getElem hlt',Option.getD_some] at h1 h2;rw [h1] at h2;cases h2
 | succ fuel ih=>
  intro listed a w hs hc hS;refine ⟨fun hr=>hq a w hS.inv hS.size hS.defers hS.kept (fun i hi=>hS.done i hi (all_of listed hs hr i hi)),fun i hi=>?_⟩;obtain ⟨h1,o,ho,hdep⟩:=mem_ready.1 hi;have ho':l[i]?=some o:=by simpa using ho
  have hlt:i < l.length:=(List.getElem?_eq_some_iff.1 ho').1;have hlt':i < listed.size:=by omega
  have hlk:=looksG_spec hl ho';have hd:=hD i o ho'
  have hun:listed.getD i false=false:=by
   simp only [Array.getD_eq_getD_getElem?,Array.getElem?_eq_getElem hlt',Option.getD_some] at h1 ⊢;exact h1
  have hdepL : ∀ e ∈ o.after,Region.binds .any e=true→listed.getD e.on false=true:=fun e he hb=>by
   have h2:=hdep e he hb;have:e.on < listed.size:=by have:=hlk.2 e he hb;omega
   simp only [Array.getD_eq_getD_getElem?,Array.getElem?_eq_getElem this,Option.getD_some] at h2 ⊢;exact h2
  have hback : ∀ j o,l[j]?=some o→∀ e ∈ o.after,Region.binds .any e=true→e.on < j:=fun j o h=>(looksG_spec hl h).2
  have hdone : ∀ m,m≠i→reachB l i m=true→listed.getD m false=true:=by
   intro m hm hr;rcases reach_step ho' hlk.2 hr with rfl | ⟨e,he,hb,hr⟩
   · exact absurd rfl hm
   · exact closed_reach hback hS.closed e.on m hr (hdepL e he hb)
  have hltof : ∀ m,listed.getD m false=true→m < l.length:=by
   intro m hm;by_cases h:m < l.length
   · exact h
   · rw [Array.getD_eq_getD_getElem?,Array.getElem?_eq_none (by omega)] at hm;cases hm
  have hf:listed.toList[i]'(by simpa using hlt')=false:=by
   simp only [Array.getD_eq_getD_getElem?,Array.getElem?_eq_getElem hlt',Option.getD_some] at hun;simpa using hun
  have hcount:(listed.setIfInBounds i true).toList.count false≤fuel:=by
   rw [Array.toList_setIfInBounds,List.count_set (by simpa using hlt')];have hpos:0 < listed.toList.count false:=List.count_pos_iff.2 (by rw [← hf];exact List.getElem_mem _);rw [hf];generalize listed.toList.count false=m at *;have e1:(if (false==false)=true then 1 else 0)=1:=rfl;have e2:(if (true==false)=true then 1 else 0)=0:=rfl;rw [e1,e2];omega
  have hset : ∀ m,listed.getD m false=true→(listed.setIfInBounds i true).getD m false=true:=by
   intro m hm;by_cases him:i=m
   · subst him;rw [Array.getD_eq_getD_getElem?,Array.getElem?_setIfInBounds_self_of_lt hlt'];rfl
   · rwa [getD_set_ne false him]
  have hnext : ∀ v w',(specAt S i).V w' v→Inv w'→(∀ j,j < l.length→i≠j→listed.getD j false=true→(specAt S j).V w (valOf a (D j))→(specAt S j).V w' (valOf a (D j)))→StandsR l S D Inv a0 (listed.setIfInBounds i true) (a.put o.dst v) w':=by
   intro v w' hv hinv hkeep
   have hcl : ∀ j o',l[j]?=some o'→(listed.setIfInBounds i true).getD j false=true→∀ e ∈ o'.after,Region.binds .any e=true→(listed.setIfInBounds i true).getD e.on false=true:=by
    intro j o' ho2 hlj e he hbd;by_cases hij:i=j
    · subst hij;rw [ho'] at ho2;cases ho2;exact hset _ (hdepL e he hbd)
    · rw [getD_set_ne false hij] at hlj;exact hset _ (hS.closed j o' ho2 hlj e he hbd)
   have hun2 : ∀ j,i≠j→(listed.setIfInBounds i true).getD j false=listed.getD j false:=fun j hij=>getD_set_ne false hij
   have hself:(listed.setIfInBounds i true).getD i false=true:=by
    rw [Array.getD_eq_getD_getElem?,Array.getElem?_setIfInBounds_self_of_lt hlt'];rfl
   rw [hd]
   cases hDi:D i with
   | none=>
    have hput:a.put none v=a:=rfl;rw [hput];refine ⟨hinv,hS.size,hS.defers,hS.kept,fun j hj hlj=>?_,fun j d hj hlj hjd=>?_,hcl⟩
    · by_cases hij:i=j
      · subst hij;exact hNo i hlt hDi w' v _ hv
      · rw [hun2 j hij] at hlj;exact hkeep j hj hij hlj (hS.done j hj hlj)
    · by_cases hij:i=j
      · subst hij;rw [hDi] at hjd;cases hjd
      · rw [hun2 j hij] at hlj;exact hS.left j d hj hlj hjd
   | some di=>
    have hdin:=hin i di hlt hDi;refine ⟨hinv,?_,?_,fun x hx=>?_,fun j hj hlj=>?_,fun j d hj hlj hjd=>?_,hcl⟩
    · simpa [Act.put] using hS.size
    · simpa [Act.put] using hS.defers
    · rw [Act.eval_put_ne _ _ _ _ (fun e=>hx i hlt (by rw [hDi,e]))];exact hS.kept x hx
    · by_cases hij:i=j
      · subst hij;rw [hDi];show (specAt S i).V w' ((a.put (some di) v).eval (.tmp di))
        rw [Act.eval_put_same _ _ _ (by rw [hS.size];exact hdin)];exact hv
      · rw [hun2 j hij] at hlj;have h0:=hkeep j hj hij hlj (hS.done j hj hlj)
        have he:valOf (a.put (some di) v) (D j)=valOf a (D j):=by
         cases hDj:D j with
         | none=>rfl
         | some dj=>
          show (a.put (some di) v).eval (.tmp dj)=a.eval (.tmp dj)
          rw [Act.eval_put_ne _ _ _ _ (fun e=>hij (hinj i j di hlt hj hDi (by rw [hDj,e])))]
        rw [he];exact h0
    · by_cases hij:i=j
      · subst hij;rw [hself] at hlj;cases hlj
      · rw [Act.eval_put_ne _ _ _ _ (fun e=>hij (hinj i j di hlt hj hDi (by rw [hjd,e])))];rw [hun2 j hij] at hlj;exact hS.left j d hj hlj hjd
  refine wpOp_step (P:=P) (ops:=l.toArray) (i:=i) (o:=o) ho (fun K' hK=>?_)
  have hwant:Region.wanted o (yielded l.toArray a.tmps)=(specAt S i).on:=by
   have hg:=hlk.1;unfold guardOk at hg;unfold Region.wanted
   cases hgd:o.guard with
   | none=>rw [hgd] at hg;exact hg.symm
   | some g=>
    obtain ⟨j,pol⟩:=g;rw [hgd] at hg;simp only [Bool.and_eq_true,decide_eq_true_eq] at hg;obtain ⟨⟨⟨h1,h2⟩,h3⟩,h4⟩:=hg;have hpl:=List.all_eq_true.1 hgp o (List.mem_of_getElem? ho');rw [hgd] at hpl;have hoj:l[j]?=some l[j]:=List.getElem?_eq_getElem h3;simp only [hoj] at hpl;obtain ⟨dj,hdj⟩:=Option.isSome_iff_exists.1 hpl;have hDj:D j=some dj:=by rw [← hD j _ hoj,hdj]
    have hv:=hS.done j h3 (hdone j h1 h2);rw [hDj] at hv
    have hy:yielded l.toArray a.tmps j=match a.eval (.tmp dj) with | .bool b=>some b|_=>none:=by
     have hin':dj < a.tmps.size:=by rw [hS.size];exact hin j dj h3 hDj
     unfold yielded;have h1:l.toArray[j]?=some l[j]:=by simp [h3]
     rw [h1];simp only [Option.bind_some,hdj,Array.getElem?_eq_getElem hin'];have h3:a.eval (.tmp dj)=a.tmps[dj]:=by simp [Act.eval,hin']
     rw [h3];cases a.tmps[dj] <;> rfl
    simp only;rw [hy];generalize specAt S j=sj at *
    cases sj with
    | off=>
     have hv':a.eval (.tmp dj)=undef:=hv;rw [hv'];simp only [Bool.not_eq_true'] at h4;rw [h4];rfl
    | val v=>
     have hv':a.eval (.tmp dj)=v:=hv;rw [hv'];cases v <;> first|(cases h4)|(rename_i b;rw [beq_iff_eq] at h4;rw [← h4];rfl)
    | by_ s=>cases h4
  rw [hwant]
  cases hon:(specAt S i).on with
  | true=>
   rw [if_pos rfl];refine hp i o ho' hon a w hS.inv hS.kept (fun m hm hr=>?_) (fun j d hj hjd hr=>hS.left j d hj ?_ hjd) K' (fun v w' hv hR=>hK _ _ (ih _ _ _ (by simpa using hs) hcount (hnext v w' hv (hI i w w' hS.inv hR) (fun j hj hij hlj hvj=>hV i j hij ?_ w w' _ hS.inv hR hvj))))
   · have:=hdone m hm hr;exact hS.done m (hltof m this) this
   · cases hlj:listed.getD j false with
     | false=>rfl
     | true=>have:=closed_reach hback hS.closed j i hr hlj;rw [hun] at this;cases this
   · cases hr:reachB l j i with
     | false=>rfl
     | true=>have:=closed_reach hback hS.closed j i hr hlj;rw [hun] at this;cases this
  | false=>
   rw [if_neg (by decide)];refine hK _ _ (ih _ _ _ (by simpa using hs) hcount (hnext undef w ?_ hS.inv (fun _ _ _ _ h=>h)));generalize specAt S i=s at *
   cases s with
   | off=>rfl
   | val _=>cases hon
   | by_ _=>cases hon
def PartsR (P:Program) (l:List Oper) (S:List Spec) (D:Nat→Option Nat) (Inv:World→Prop) (R:Nat→World→World→Prop) (a0:Act) (Q:Exit→Act→World→Prop):Nat→List Oper→Prop
 | _,[]=>True
 | k,o :: r=>((specAt S k).on=true→PartR P l S D Inv R a0 Q k o)∧PartsR P l S D Inv R a0 Q (k+1) r
theorem PartsR.at {l:List Oper} {S:List Spec} {D:Nat→Option Nat} {Inv:World→Prop} {R:Nat→World→World→Prop} {a0:Act} : ∀ (r:List Oper) (k:Nat),PartsR P l S D Inv R a0 Q k r→∀ i o,r[i]?=some o→(specAt S (k+i)).on=true→PartR P l S D Inv R a0 Q (k+i) o:=by
 intro r
 induction r with
 | nil=>intro k _ i o h;simp at h
 | cons x r ih=>
  intro k h i o ho
  cases i with
  | zero=>simp at ho;subst ho;exact h.1
  | succ i=>
   have:=ih (k+1) h.2 i o (by simpa using ho);rwa [Nat.add_right_comm] at this
def oslot (ds:List (Option Nat)) (i:Nat):Option Nat:=ds.getD i none
def oslotsOk (l:List Oper) (ds:List (Option Nat)) (m:Nat):Bool:=decide (l.map (·.dst)=ds) && (decide (ds.filterMap id).Nodup && ds.all fun d=>match d with|none=>true|some d=>decide (d < m))
theorem filterMap_inj : ∀ (ds:List (Option Nat)),(ds.filterMap id).Nodup→∀ i j d,oslot ds i=some d→oslot ds j=some d→i=j
 | [],_,i,j,d,hi,_=>by simp [oslot] at hi
 | x :: ds,hn,i,j,d,hi,hj=>by
  have hmem : ∀ i,oslot ds i=some d→d ∈ ds.filterMap id:=by
   intro i h;unfold oslot at h;by_cases hl:i < ds.length
   · rw [List.getD_eq_getElem?_getD,List.getElem?_eq_getElem hl] at h;exact List.mem_filterMap.2 ⟨some d,by rw [← h];exact List.getElem_mem hl,rfl⟩
   · rw [List.getD_eq_getElem?_getD,List.getElem?_eq_none (by omega)] at h;cases h
  have hn':(ds.filterMap id).Nodup:=by
   cases x with
   | none=>simpa using hn
   | some y=>rw [List.filterMap_cons_some (by rfl:id (some y)=some y)] at hn;exact (List.nodup_cons.1 hn).2
  cases i with
  | zero=>
   cases j with
   | zero=>rfl
   | succ j=>
    exfalso;have hx:x=some d:=hi;subst hx;rw [List.filterMap_cons_some (by rfl:id (some d)=some d)] at hn;exact (List.nodup_cons.1 hn).1 (hmem j hj)
  | succ i=>
   cases j with
   | zero=>
    exfalso;have hx:x=some d:=hj;subst hx;rw [List.filterMap_cons_some (by rfl:id (some d)=some d)] at hn;exact (List.nodup_cons.1 hn).1 (hmem i hi)
   | succ j=>rw [filterMap_inj ds hn' i j d hi hj]
def putsO:Act→List (Option Nat)→List Spec→Act
 | a,d :: ds,s :: S=>putsO (a.put d s.value) ds S
 | a,_,_=>a
theorem putsO_spec : ∀ (ds:List (Option Nat)) (S:List Spec) (a:Act),ds.length=S.length→(ds.filterMap id).Nodup→(∀ d,some d ∈ ds→d < a.tmps.size)→
 (putsO a ds S).tmps.size=a.tmps.size∧(putsO a ds S).defers=a.defers∧(∀ x,some x ∉ ds→(putsO a ds S).eval (.tmp x)=a.eval (.tmp x))∧(∀ i d,oslot ds i=some d→(putsO a ds S).eval (.tmp d)=(specAt S i).value)
 | [],[],a,_,_,_=>⟨rfl,rfl,fun _ _=>rfl,fun i d hi=>by simp [oslot] at hi⟩
 | x :: ds,s :: S,a,hl,hn,hin=>by
  have hn':(ds.filterMap id).Nodup:=by
   cases x with
   | none=>simpa using hn
   | some y=>rw [List.filterMap_cons_some (by rfl:id (some y)=some y)] at hn;exact (List.nodup_cons.1 hn).2
  have hsz:(a.put x s.value).tmps.size=a.tmps.size:=by cases x <;> simp [Act.put]
  have hdf:(a.put x s.value).defers=a.defers:=by cases x <;> simp [Act.put]
  obtain ⟨h1,h2,h3,h4⟩:=putsO_spec ds S (a.put x s.value) (by simpa using hl) hn' (fun d hd=>by rw [hsz];exact hin d (List.mem_cons_of_mem _ hd));have e0:putsO a (x :: ds) (s :: S)=putsO (a.put x s.value) ds S:=rfl;refine ⟨by rw [e0,h1,hsz],by rw [e0,h2,hdf],fun y hy=>?_,fun i d hi=>?_⟩
  · rw [e0,h3 y (fun h=>hy (List.mem_cons_of_mem _ h))]
    cases x with
    | none=>rfl
    | some x=>rw [Act.eval_put_ne _ _ _ _ (fun e=>hy (by rw [← e];exact List.mem_cons_self))]
  · rw [e0]
    cases i with
    | zero=>
     have hx:x=some d:=hi;subst hx;show (putsO (a.put (some d) s.value) ds S).eval (.tmp d)=s.value
     have hnot:some d ∉ ds:=by
      intro h;rw [List.filterMap_cons_some (by rfl:id (some d)=some d)] at hn;exact (List.nodup_cons.1 hn).1 (List.mem_filterMap.2 ⟨some d,h,rfl⟩)
     rw [h3 d hnot,Act.eval_put_same _ _ _ (hin d List.mem_cons_self)]
    | succ i=>exact h4 i d hi
def conc:List Spec→(Nat→Value)→Nat→List Spec
 | [],_,_=>[]
 | .by_ _ :: S,f,k=>.val (f k) :: conc S f (k+1)
 | s :: S,f,k=>s :: conc S f (k+1)
theorem conc_length : ∀ (S:List Spec) (f:Nat→Value) (k:Nat),(conc S f k).length=S.length
 | [],_,_=>rfl
 | s :: S,f,k=>by cases s <;> simp [conc,conc_length S f (k+1)]
theorem conc_at : ∀ (S:List Spec) (f:Nat→Value) (k i:Nat),i < S.length→(specAt (conc S f k) i).value=match specAt S i with | .off=>undef | .val v=>v | .by_ _=>f (k+i)
 | [],_,_,_,h=>by simp at h
 | s :: S,f,k,0,h=>by cases s <;> rfl
 | s :: S,f,k,i+1,h=>by
  have ih:=conc_at S f (k+1) i (by simpa using h);have e:specAt (conc (s :: S) f k) (i+1)=specAt (conc S f (k+1)) i:=by cases s <;> rfl
  have e2:specAt (s :: S) (i+1)=specAt S i:=rfl;rw [e,e2,ih,show k+1+i=k+(i+1) by omega]
theorem wp_region_some {id:Nat} {a0:Act} {w:World} (l:List Oper) (ds:List (Option Nat)) (S:List Spec) (Inv:World→Prop) (R:Nat→World→World→Prop) (hm:P.follows .mixedOrders=true) (hl:looksG l S=true) (hgp:guardPlace l=true) (hs:oslotsOk l ds a0.tmps.size=true)
 (hSl:ds.length=S.length) (h0:Inv w.drew)
 (hI : ∀ i w w',Inv w→R i w w'→Inv w')
 (hV : ∀ i j,i≠j→reachB l j i=false→∀ w w' v,Inv w→R i w w'→(specAt S j).V w v→(specAt S j).V w' v)
 (hNo : ∀ i,i < l.length→oslot ds i=none→∀ w v v',(specAt S i).V w v→(specAt S i).V w v')
 (hp:PartsR P l S (oslot ds) Inv R a0 Q 0 l)
 (hq : ∀ w' (f:Nat→Value),Inv w'→(∀ i,i < l.length→(specAt S i).V w' (f i))→Q .normal (putsO a0 ds (conc S f 0)) w'):(Code.region id l.toArray true).wp P Q a0 w:=by
 have hs':=hs;unfold oslotsOk at hs';simp only [Bool.and_eq_true,decide_eq_true_eq,List.all_eq_true] at hs';obtain ⟨hd,hn,hall⟩:=hs';have hlen:l.length=ds.length:=by have:=congrArg List.length hd;simpa using this
 have hD : ∀ i o,l[i]?=some o→o.dst=oslot ds i:=by
  intro i o ho;have h1:(l.map (·.dst))[i]?=some o.dst:=by simp [ho]
  rw [hd] at h1;unfold oslot;rw [List.getD_eq_getElem?_getD,h1];rfl
 have hin : ∀ d,some d ∈ ds→d < a0.tmps.size:=fun d h=>by simpa using hall _ h
 have hin' : ∀ i d,i < l.length→oslot ds i=some d→d < a0.tmps.size:=fun i d hi h=>by
  refine hin d ?_;unfold oslot at h;rw [List.getD_eq_getElem?_getD,List.getElem?_eq_getElem (by omega)] at h;rw [← h];exact List.getElem_mem _
 refine wp_region_any hm ?_;refine wpAny_partsR l S hl hgp (oslot ds) Inv R a0 hI hV hNo hD (fun i j d _ _ h1 h2=>filterMap_inj ds hn i j d h1 h2) hin' (fun i o ho hon=>by have:=PartsR.at l 0 hp i o ho;rw [Nat.zero_add] at this;exact this hon) ?_ _ _ _ _ (by simp) ?_ ?_
 · intro a w' hinv h1 h2 h3 h4;obtain ⟨f,hf⟩ : ∃ f:Nat→Value,f=fun i=>valOf a (oslot ds i):=⟨_,rfl⟩
   obtain ⟨p1,p2,p3,p4⟩:=putsO_spec ds (conc S f 0) a0 (by rw [conc_length];exact hSl) hn hin
   have:a=putsO a0 ds (conc S f 0):=by
    refine act_ext (h1.trans p1.symm) (h2.trans p2.symm) (fun x=>?_);by_cases hx:some x ∈ ds
    · obtain ⟨i,hi,e⟩:=List.getElem_of_mem hx;have hg:oslot ds i=some x:=by unfold oslot;simp [hi,e]
      have hv:=h4 i (by omega);have hfi:f i=a.eval (.tmp x):=by rw [hf];show valOf a (oslot ds i)=_;rw [hg];rfl
      rw [hg] at hv;rw [p4 i x hg,conc_at S f 0 i (by omega),Nat.zero_add,hfi];generalize specAt S i=s at *
      cases s with
      | off=>exact hv
      | val v=>exact hv
      | by_ _=>rfl
    · rw [h3 x (fun i hi h=>hx (by
       unfold oslot at h;rw [List.getD_eq_getElem?_getD,List.getElem?_eq_getElem (by omega)] at h
       rw [← h];exact List.getElem_mem _)),p3 x hx]
   rw [this];exact hq w' f hinv (fun i hi=>by rw [hf];exact h4 i hi)
 · simp
 · exact ⟨h0,rfl,rfl,fun _ _=>rfl,(fun i hi hc=>by rw [getD_replicate_false] at hc;cases hc),(fun i d hi _ _=>rfl),(fun i o ho hc=>by rw [getD_replicate_false] at hc;cases hc)⟩
end
end Go.Proofs.YtodhmbnfliajiaaGreatDoor.Q
