/- Merged out of: OpensJ, Qx5, ShelfX, PureSort, PureOrders. -/
import Derived.Test.YtodhmbnfliajiaaGreatDoorJ1
import Derived.Test.YtodhmbnfliajiaaGreatDoorQx0
import Derived.Shelf.SlSortCmp.Insertion
import Derived.Shelf.SlicesQ.IndexFunc
import Derived.Ground.SlsfProg
import Derived.Ground.SlgfProg
import Derived.Test.YtodhmbnfliajiaaGreatDoorProg
import Derived.WalkKit
import Derived.Orders
import Derived.RegionTactic
import Derived.StillTail
import Derived.Great.Frames
/- OpensJ: a text of this claim's proof,as printed or written,without what the claim does not use. -/
namespace Go.Proofs.YtodhmbnfliajiaaGreatDoor.OpensJ
open Go.RowKit Go.Proofs.YtodhmbnfliajiaaGreatDoorW.PrintWords Go.Proofs.YtodhmbnfliajiaaGreatDoor.Opens Go.Proofs.YtodhmbnfliajiaaGreatDoor.Q
theorem step (fuel:Nat) (d:Kd S27) (hd:d.sz=5) (h : ∀ m,m≤fuel→At Tryz.prog 27 d (fun _=>True) m):At Tryz.prog 27 (F27 d) (fun _=>True) (fuel+1):=by
 have hs1:At Tryz.prog 24 (Kd.slice 9 Kd.string) (fun _=>True) fuel:=by
  cases fuel with
  | zero=>exact zero
  | succ m=>exact mono_wf (slice Tryz.underlying24 (by kernel_rfl) (string Tryz.underlying9)) (fun _ _=>trivial)
 have hs2:At Tryz.prog 25 (Kd.slice 27 d) (fun _=>True) fuel:=by
  cases fuel with
  | zero=>exact zero
  | succ m=>exact mono_wf (slice Tryz.underlying25 (by rw [hd];kernel_rfl) (h m (by omega))) (fun _ _=>trivial)
 exact mono_wf (struct Tryz.underlying27 (by kernel_rfl) (fields_cons (int Tryz.underlying3) (by kernel_rfl) (fields_cons (int Tryz.underlying2) (by kernel_rfl) (fields_cons (string Tryz.underlying9) (by kernel_rfl) (fields_cons hs1 (by kernel_rfl) (fields_one hs2 (by kernel_rfl)))))) (fun x:S27=>(x.f0,x.f1,x.f2,x.f3,x.f4)) (fun y=>⟨y.1,y.2.1,y.2.2.1,y.2.2.2.1,y.2.2.2.2⟩) (fun _=>rfl)) (fun _ _=>trivial)
theorem upto : ∀ (fuel k:Nat),fuel≤k→At Tryz.prog 27 (Kd.upto F27 5 [9,27] k) (fun _=>True) fuel
 | 0,_,_=>zero
 | fuel+1,k,h=>by
  obtain ⟨k,rfl⟩ : ∃ j,k=j+1:=⟨k - 1,by omega⟩
  exact step fuel _ (sz27 k) (fun m hm=>upto m k (by omega))
theorem opens (fuel:Nat):At Tryz.prog 27 k27 (fun _=>True) fuel:=fix_ (fun fuel=>upto fuel fuel (Nat.le_refl _)) fuel
end Go.Proofs.YtodhmbnfliajiaaGreatDoor.OpensJ

/- Qx5: a text of this claim's proof,as printed or written,without what the claim does not use. -/
namespace Go.Proofs.YtodhmbnfliajiaaGreatDoor.Q
open Go.RowKit Go.Proofs.YtodhmbnfliajiaaGreatDoorW.PrintWords Go.Proofs.YtodhmbnfliajiaaGreatDoorW.PrintLast Go.Proofs.YtodhmbnfliajiaaGreatDoorW.PrintMore
attribute [local go_sem] max2_int min2_int max_two min_two max_three min_three max_four min_four
set_option linter.unusedVariables false
set_option linter.unusedSimpArgs false
def glob_letter_is.f (a0_0:Int) (a0_1:Bool) (a1:Int):Option (Bool):=if a0_1=true then (some false) else (some (a0_0==a1))
set_option maxHeartbeats 8000000 in
set_option maxRecDepth 100000 in
theorem glob_letter_is.calls (a0_0:Int) (a0_1:Bool) (a1:Int) (r:Bool) (w:World) (h:glob_letter_is.f a0_0 a0_1 a1=some r) :
 Calls Tryz.prog 80 #[.agg #[.int .i32 a0_0,.bool a0_1],.int .i32 a1] w fun e w'=>e=.returned (.bool r)∧Below w.heap.size w w':=by
 have hu80:=Tryz.underlying80
 have HB:=Aside0.mk (Below.refl w.heap.size w)
 have H:(if a0_1=true then (some false) else (some (a0_0==a1)))=some r:=h
 clear h
 by_cases c3:a0_1=true
 · subst c3
   have H1:(some false)=some r:=by rw [if_pos rfl] at H;exact H
   clear H
   have H:=H1
   clear H1
   obtain rfl:=Option.some.inj H
   go_enter Tryz.func80,Tryz.ntmps80
   go_wp2_with (first|((with_reducible refine gate_dst (N:=2) rfl ?_);refine box_event ?hg (N:=2) ?hd (cs:=#[.int .i32 a0_0,.bool true]) (t:=80) ?hr ?_;(case hd=>rfl);(case hg=>rfl);(case hr=>first|(go_simp;done)|(go_simp;rfl));intro gb110 hg w4 hbox hb;have n0_:=Aside0.mk (below_step (by repeat (first|(with_reducible first|exact HB.out|apply below_alloc|apply pw_below_drewN|apply below_drew1)|exact HB.out)) hb);have n1_:=Aside0.mk (hbox);have n2_:=Aside0.mk ((by rw [hg];exact (below_size (by repeat (first|(with_reducible first|exact HB.out|apply below_alloc|apply pw_below_drewN|apply below_drew1)|exact HB.out))):w.heap.size≤gb110));have n3_:=Aside0.mk ((by rw [hg];exact (below_size (by repeat (first|(with_reducible first|exact HB.out|apply below_alloc|apply pw_below_drewN|apply below_drew1)|exact HB.out))):w.heap.size≤gb110));clear HB;have HB:=n0_;have BK110:=n1_;have GW110:=n2_;have GE110:=n3_;clear n0_ n1_ n2_ n3_;clear hb hbox hg;have hcz5_0:w4.cell? ⟨gb110,0,none⟩=some (.int .i32 a0_0):=(blk_cell BK110.out 0).trans rfl;have hcz5_1:w4.cell? ⟨gb110,1,none⟩=some (.bool true):=(blk_cell BK110.out 1).trans rfl;have hfz5_0:=blk_frozen BK110.out 0;have hfz5_1:=blk_frozen BK110.out 1))
   go_ret
   exact ⟨by first|rfl|(simp [errW_none,errW_some] <;> rfl)|(simp [*,errW_none,errW_some] <;> rfl),by repeat (first|(with_reducible first|exact HB.out|apply below_alloc|apply pw_below_drewN|apply below_drew1|refine below_set ?_ GE110.out)|exact HB.out)⟩
 · replace c3:=Bool.eq_false_iff.mpr c3
   subst c3
   have H1:(some (a0_0==a1))=some r:=by rw [if_neg (show ¬ (false=true) by decide)] at H;exact H
   clear H
   have H:=H1
   clear H1
   obtain rfl:=Option.some.inj H
   go_enter Tryz.func80,Tryz.ntmps80
   go_wp2_with (first|((with_reducible refine gate_dst (N:=2) rfl ?_);refine box_event ?hg (N:=2) ?hd (cs:=#[.int .i32 a0_0,.bool false]) (t:=80) ?hr ?_;(case hd=>rfl);(case hg=>rfl);(case hr=>first|(go_simp;done)|(go_simp;rfl));intro gb110 hg w6 hbox hb;have n0_:=Aside0.mk (below_step (by repeat (first|(with_reducible first|exact HB.out|apply below_alloc|apply pw_below_drewN|apply below_drew1)|exact HB.out)) hb);have n1_:=Aside0.mk (hbox);have n2_:=Aside0.mk ((by rw [hg];exact (below_size (by repeat (first|(with_reducible first|exact HB.out|apply below_alloc|apply pw_below_drewN|apply below_drew1)|exact HB.out))):w.heap.size≤gb110));have n3_:=Aside0.mk ((by rw [hg];exact (below_size (by repeat (first|(with_reducible first|exact HB.out|apply below_alloc|apply pw_below_drewN|apply below_drew1)|exact HB.out))):w.heap.size≤gb110));clear HB;have HB:=n0_;have BK110:=n1_;have GW110:=n2_;have GE110:=n3_;clear n0_ n1_ n2_ n3_;clear hb hbox hg;have hcz7_0:w6.cell? ⟨gb110,0,none⟩=some (.int .i32 a0_0):=(blk_cell BK110.out 0).trans rfl;have hcz7_1:w6.cell? ⟨gb110,1,none⟩=some (.bool false):=(blk_cell BK110.out 1).trans rfl;have hfz7_0:=blk_frozen BK110.out 0;have hfz7_1:=blk_frozen BK110.out 1))
   go_ret
   exact ⟨by first|rfl|(simp [errW_none,errW_some] <;> rfl)|(simp [*,errW_none,errW_some] <;> rfl),by repeat (first|(with_reducible first|exact HB.out|apply below_alloc|apply pw_below_drewN|apply below_drew1|refine below_set ?_ GE110.out)|exact HB.out)⟩
end Go.Proofs.YtodhmbnfliajiaaGreatDoor.Q

/- ShelfX: a text of this claim's proof,as printed or written,without what the claim does not use. -/
namespace Go.Proofs
open Go.Shelf
def Tryz.insL_ren:Go.Shelf.Ren:=⟨fun|20=>85|n=>n,fun|24=>3|22=>58|3=>3|25=>60|4=>4|0=>0|n=>n,fun|n=>n⟩
theorem Tryz.insL:Go.Proofs.SlLaysF.n20 Tryz.prog Tryz.insL_ren:={
 mixed:=by kernel_rfl
 f20:=⟨Tryz.f85.name,by decide,Tryz.func85.trans (congrArg some (by kernel_rfl))⟩
 t0:=Tryz.underlying0
 a0:=Tryz.isAgg0
 z0:=Tryz.sizeOf0
 v0:=Tryz.zeroValue0
 t3:=Tryz.underlying3
 a3:=Tryz.isAgg3
 z3:=Tryz.sizeOf3
 v3:=Tryz.zeroValue3
 t4:=Tryz.underlying4
 a4:=Tryz.isAgg4
 z4:=Tryz.sizeOf4
 v4:=Tryz.zeroValue4
 t22:=Tryz.underlying58
 a22:=Tryz.isAgg58
 z22:=Tryz.sizeOf58
 v22:=Tryz.zeroValue58
 a24:=Tryz.isAgg3
 z24:=Tryz.sizeOf3
 t25:=Tryz.underlying60
 a25:=Tryz.isAgg60
 z25:=Tryz.sizeOf60
 v25:=Tryz.zeroValue60 }
end Go.Proofs


/- PureSort: a text of this claim's proof,as printed or written,without what the claim does not use. -/
namespace Go.Proofs.YtodhmbnfliajiaaGreatDoor.Q
def Lex (key:Nat→Int) (a b:Nat):Prop:=key a < key b∨(key a=key b∧a < b)
theorem Lex.trans {key:Nat→Int} {a b c:Nat} (h:Lex key a b) (k:Lex key b c):Lex key a c:=by
 unfold Lex at *;omega
theorem first_least (key:Nat→Int) (p:Nat→Bool) : ∀ l:List Nat,l.Pairwise (Lex key)→∀ i,l.find? p=some i→p i=true∧i ∈ l∧∀ k ∈ l,p k=true→i=k∨Lex key i k
 | [],_,i,h=>by simp at h
 | a :: l,hp,i,h=>by
  have hq:=List.pairwise_cons.1 hp
  by_cases c:p a=true
  · rw [List.find?_cons_of_pos c] at h
    injection h with h
    subst h
    refine ⟨c,List.mem_cons_self ..,fun k hk _=>?_⟩
    rcases List.mem_cons.1 hk with rfl|hk
    · exact Or.inl rfl
    · exact Or.inr (hq.1 k hk)
  · rw [List.find?_cons_of_neg c] at h
    obtain ⟨h1,h2,h3⟩:=first_least key p l hq.2 i h
    refine ⟨h1,List.mem_cons_of_mem _ h2,fun k hk hpk=>?_⟩
    rcases List.mem_cons.1 hk with rfl|hk
    · exact absurd hpk c
    · exact h3 k hk hpk
end Go.Proofs.YtodhmbnfliajiaaGreatDoor.Q

/- PureOrders: a text of this claim's proof,as printed or written,without what the claim does not use. -/
namespace Go.Proofs.YtodhmbnfliajiaaGreatDoor.Q
open Go.RowKit Go.Proofs.YtodhmbnfliajiaaGreatDoorW.PrintWords
set_option linter.unusedVariables false
set_option linter.unnecessarySimpa false
section
variable {P:Program} {ops:Array Oper} {Q:Exit→Act→World→Prop}
def looksBack (l:List Oper):Bool:=(List.range l.length).all fun i=>match l[i]? with
 | none=>true
 | some o=>o.guard.isNone && o.after.all fun e=>!Region.binds .any e || decide (e.on < i)
theorem looksBack_spec {l:List Oper} (h:looksBack l=true) {i:Nat} {o:Oper} (ho:l[i]?=some o):o.guard=none∧∀ e ∈ o.after,Region.binds .any e=true→e.on < i:=by
 unfold looksBack at h
 rw [List.all_eq_true] at h
 have hi:=(List.getElem?_eq_some_iff.1 ho).1
 have:=h i (List.mem_range.2 hi)
 rw [ho] at this
 simp only [Bool.and_eq_true,Option.isNone_iff_eq_none,Array.all_eq_true_iff_forall_mem,Bool.or_eq_true,Bool.not_eq_true',decide_eq_true_eq] at this
 exact ⟨this.1,fun e he hb=>(this.2 e he).resolve_left (by rw [hb];decide)⟩
structure Stands (V:Nat→World→Value→Prop) (D:Nat→Nat) (n:Nat) (a0:Act) (w0:World) (listed:Array Bool) (a:Act) (w:World):Prop where
 below:Below w0.heap.size w0 w
 size:a.tmps.size=a0.tmps.size
 defers:a.defers=a0.defers
 kept : ∀ x,(∀ i,i < n→D i≠x)→a.eval (.tmp x)=a0.eval (.tmp x)
 done : ∀ i,i < n→listed.getD i false=true→V i w (a.eval (.tmp (D i)))
def Part (P:Program) (l:List Oper) (V:Nat→World→Value→Prop) (D:Nat→Nat) (a0:Act) (w0:World) (Q:Exit→Act→World→Prop) (i:Nat) (o:Oper):Prop :=
 ∀ a w,Below w0.heap.size w0 w→(∀ x,(∀ i,i < l.length→D i≠x)→a.eval (.tmp x)=a0.eval (.tmp x))→(∀ e ∈ o.after,Region.binds .any e=true→V e.on w (a.eval (.tmp (D e.on))))→
  ∀ K:Act→World→Prop,(∀ v w',V i w' v→Below w.heap.size w w'→K (a.put o.dst v) w')→Oper.wp P o a w K Q
theorem wpAny_parts (l:List Oper) (hl:looksBack l=true) (V:Nat→World→Value→Prop) (D:Nat→Nat) (a0:Act) (w0:World)
 (hV : ∀ i w w' v,Below w.heap.size w w'→V i w v→V i w' v)
 (hD : ∀ i o,l[i]?=some o→o.dst=some (D i)) (hinj : ∀ i j,i < l.length→j < l.length→D i=D j→i=j) (hin : ∀ i,i < l.length→D i < a0.tmps.size)
 (hp : ∀ i o,l[i]?=some o→Part P l V D a0 w0 Q i o)
 (hq : ∀ a w,Below w0.heap.size w0 w→a.tmps.size=a0.tmps.size→a.defers=a0.defers→(∀ x,(∀ i,i < l.length→D i≠x)→a.eval (.tmp x)=a0.eval (.tmp x))→(∀ i,i < l.length→V i w (a.eval (.tmp (D i))))→Q .normal a w) :
 ∀ fuel listed a w,listed.size=l.length→listed.toList.count false≤fuel→Stands V D l.length a0 w0 listed a w→wpAny P .any l.toArray Q fuel listed a w:=by
 have all_of : ∀ (listed:Array Bool),listed.size=l.length→Region.ready .any l.toArray listed=[]→∀ j,j < l.length→listed.getD j false=true:=by
  intro listed hs hr j
  induction j using Nat.strongRecOn with
  | _ j ih=>
   intro hj
   cases hc:listed.getD j false with
   | true=>rfl
   | false=>
    exfalso
    have ho:l[j]?=some l[j]:=List.getElem?_eq_getElem hj
    have:j ∈ Region.ready .any l.toArray listed:=by
     refine mem_ready.2 ⟨?_,l[j],by simpa using ho,fun e he hb=>?_⟩
     · have hlt:j < listed.size:=by omega
       simp only [Array.getD_eq_getD_getElem?,Array.getElem?_eq_getElem hlt,Option.getD_some] at hc ⊢
       exact hc
     · have hlt:=(looksBack_spec hl ho).2 e he hb
       exact ih e.on hlt (by omega)
    rw [hr] at this
    cases this
 intro fuel
 induction fuel with
 | zero=>
  intro listed a w hs hc hI
  have hall : ∀ j,j < l.length→listed.getD j false=true:=by
   intro j hj
   have hlt:j < listed.size:=by omega
   have hm:false ∉ listed.toList:=by
    intro h;have:=List.count_pos_iff.2 h;omega
   simp only [Array.getD_eq_getD_getElem?,Array.getElem?_eq_getElem hlt,Option.getD_some]
   cases hx:listed[j] with
   | true=>rfl
   | false=>exact absurd (by rw [← hx];simp) hm
  refine ⟨?_,hq a w hI.below hI.size hI.defers hI.kept (fun i hi=>hI.done i hi (hall i hi))⟩
  apply List.eq_nil_iff_forall_not_mem.2
  intro j hj
  obtain ⟨h1,o,ho,-⟩:=mem_ready.1 hj
  have hlt:j < l.length:=by
   have:=(Array.getElem?_eq_some_iff.1 ho).1;simpa using this
  have h2:=hall j hlt
  have hlt':j < listed.size:=by omega
  simp only [Array.getD_eq_getD_getElem?,Array.getElem?_eq_getElem hlt',Option.getD_some] at h1 h2
  rw [h1] at h2;cases h2
 | succ fuel ih=>
  intro listed a w hs hc hI
  refine ⟨fun hr=>hq a w hI.below hI.size hI.defers hI.kept (fun i hi=>hI.done i hi (all_of listed hs hr i hi)),fun i hi=>?_⟩
  obtain ⟨h1,o,ho,hdep⟩:=mem_ready.1 hi
  have ho':l[i]?=some o:=by simpa using ho
  have hlt:i < l.length:=(List.getElem?_eq_some_iff.1 ho').1
  have hlt':i < listed.size:=by omega
  refine wpOp_step (P:=P) (ops:=l.toArray) (i:=i) (o:=o) ho (fun K' hK=>?_)
  have hg:=(looksBack_spec hl ho').1
  rw [if_pos (by simp [Region.wanted,hg])]
  refine hp i o ho' a w hI.below hI.kept (fun e he hb=>hI.done e.on (by have:=(looksBack_spec hl ho').2 e he hb;omega) (hdep e he hb)) K' (fun v w' hv hb=>hK _ _ ?_)
  have hf:listed.toList[i]'(by simpa using hlt')=false:=by
   simp only [Array.getD_eq_getD_getElem?,Array.getElem?_eq_getElem hlt',Option.getD_some] at h1
   simpa using h1
  refine ih _ _ _ (by simpa using hs) ?_ ?_
  · rw [Array.toList_setIfInBounds,List.count_set (by simpa using hlt')]
    have hpos:0 < listed.toList.count false:=List.count_pos_iff.2 (by rw [← hf];exact List.getElem_mem _)
    rw [hf]
    generalize listed.toList.count false=m at *
    have e1:(if (false==false)=true then 1 else 0)=1:=rfl
    have e2:(if (true==false)=true then 1 else 0)=0:=rfl
    rw [e1,e2]
    omega
  · have hd:=hD i o ho'
    rw [hd]
    have hDi:=hin i hlt
    refine ⟨below_step hI.below hb,?_,?_,fun x hx=>?_,fun j hj hlj=>?_⟩
    · simpa [Act.put] using hI.size
    · simpa [Act.put] using hI.defers
    · rw [Act.eval_put_ne _ _ _ _ (hx i hlt)];exact hI.kept x hx
    · by_cases hij:i=j
      · subst hij
        rw [Act.eval_put_same _ _ _ (by rw [hI.size];exact hDi)]
        exact hv
      · rw [Act.eval_put_ne _ _ _ _ (fun e=>hij (hinj i j hlt hj e))]
        refine hV j w w' _ hb (hI.done j hj ?_)
        rwa [getD_set_ne false hij] at hlj
def PartsFrom (P:Program) (l:List Oper) (V:Nat→World→Value→Prop) (D:Nat→Nat) (a0:Act) (w0:World) (Q:Exit→Act→World→Prop):Nat→List Oper→Prop
 | _,[]=>True
 | k,o :: r=>Part P l V D a0 w0 Q k o∧PartsFrom P l V D a0 w0 Q (k+1) r
theorem PartsFrom.at {l:List Oper} {V:Nat→World→Value→Prop} {D:Nat→Nat} {a0:Act} {w0:World} : ∀ (r:List Oper) (k:Nat),PartsFrom P l V D a0 w0 Q k r→∀ i o,r[i]?=some o→Part P l V D a0 w0 Q (k+i) o:=by
 intro r
 induction r with
 | nil=>intro k _ i o h;simp at h
 | cons x r ih=>
  intro k h i o ho
  cases i with
  | zero=>simp at ho;subst ho;exact h.1
  | succ i=>
   have:=ih (k+1) h.2 i o (by simpa using ho)
   rwa [Nat.add_right_comm] at this
def slotAt (ds:List Nat) (i:Nat):Nat:=ds.getD i 0
def slotsOk (l:List Oper) (ds:List Nat) (m:Nat):Bool:=decide (l.map (·.dst)=ds.map some) && (decide ds.Nodup && ds.all fun d=>decide (d < m))
theorem wp_region_parts {id:Nat} {a0:Act} {w:World} (l:List Oper) (ds:List Nat) (V:Nat→World→Value→Prop) (hm:P.follows .mixedOrders=true) (hl:looksBack l=true) (hs:slotsOk l ds a0.tmps.size=true)
 (hV : ∀ i w w' v,Below w.heap.size w w'→V i w v→V i w' v)
 (hp:PartsFrom P l V (slotAt ds) a0 w.drew Q 0 l)
 (hq : ∀ a w',Below w.heap.size w w'→a.tmps.size=a0.tmps.size→a.defers=a0.defers→(∀ x,x ∉ ds→a.eval (.tmp x)=a0.eval (.tmp x))→(∀ i,i < l.length→V i w' (a.eval (.tmp (slotAt ds i))))→Q .normal a w'):(Code.region id l.toArray true).wp P Q a0 w:=by
 unfold slotsOk at hs
 simp only [Bool.and_eq_true,decide_eq_true_eq,List.all_eq_true] at hs
 obtain ⟨hd,hn,hall⟩:=hs
 have hlen:l.length=ds.length:=by have:=congrArg List.length hd;simpa using this
 have hD : ∀ i o,l[i]?=some o→o.dst=some (slotAt ds i):=by
  intro i o ho
  have h1:(l.map (·.dst))[i]?=some o.dst:=by simp [ho]
  rw [hd] at h1
  have hi:i < ds.length:=by rw [← hlen];exact (List.getElem?_eq_some_iff.1 ho).1
  unfold slotAt
  simp [hi] at h1 ⊢
  exact h1.symm
 have hx : ∀ x,(∀ i,i < l.length→slotAt ds i≠x)↔x ∉ ds:=by
  intro x
  constructor
  · intro h hm
    obtain ⟨i,hi,e⟩:=List.getElem_of_mem hm
    exact h i (by omega) (by unfold slotAt;simp [hi,e])
  · intro h i hi e
    apply h
    rw [← e]
    unfold slotAt
    have:i < ds.length:=by omega
    simp [this]
 refine wp_region_any hm ?_
 refine wpAny_parts l hl V (slotAt ds) a0 w.drew hV hD ?_ ?_ (fun i o ho=>by have:=PartsFrom.at l 0 hp i o ho;rwa [Nat.zero_add] at this) ?_ _ _ _ _ (by simp) ?_ ?_
 · intro i j hi hj e
   unfold slotAt at e
   have hi':i < ds.length:=by omega
   have hj':j < ds.length:=by omega
   simp [hi',hj'] at e
   have hpw:=List.pairwise_iff_getElem.1 hn
   rcases Nat.lt_trichotomy i j with h|h|h
   · exact absurd e (hpw i j hi' hj' h)
   · exact h
   · exact absurd e.symm (hpw j i hj' hi' h)
 · intro i hi
   have hi':i < ds.length:=by omega
   exact hall _ (by unfold slotAt;simp [hi'])
 · intro a w' hb h1 h2 h3 h4
   exact hq a w' (below_step (below_drew1 (Below.refl _ _)) hb) h1 h2 (fun x hxx=>h3 x ((hx x).2 hxx)) h4
 · simp
 · exact ⟨Below.refl _ _,rfl,rfl,fun _ _=>rfl,fun i hi hc=>by rw [getD_replicate_false] at hc;cases hc⟩
end
end Go.Proofs.YtodhmbnfliajiaaGreatDoor.Q

