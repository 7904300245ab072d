/- Merged out of: PureMatch, HandPart, Qx15. -/
import Derived.Test.YtodhmbnfliajiaaGreatDoorJ11

/- PureMatch: a text of this claim's proof,as printed or written,without what the claim does not use. -/
namespace Go.Proofs.YtodhmbnfliajiaaGreatDoor.Q
section
variable {α β:Type} (star:α→Bool) (ok:α→β→Bool)
def mtB:List α→List β→Bool
 | [],s=>s.isEmpty
 | p :: ps,s=>if star p then (List.range (s.length+1)).any (fun j=>mtB ps (s.drop j)) else
  match s with
  | []=>false
  | x :: t=>ok p x && mtB ps t
theorem mtB_star {p:α} (ps:List α) (s:List β) (h:star p=true):mtB star ok (p :: ps) s=true↔∃ j,j≤s.length∧mtB star ok ps (s.drop j)=true:=by
 simp only [mtB,h,if_true,List.any_eq_true,List.mem_range];exact ⟨fun ⟨j,h1,h2⟩=>⟨j,by omega,h2⟩,fun ⟨j,h1,h2⟩=>⟨j,by omega,h2⟩⟩
theorem mtB_one {p:α} (ps:List α) (x:β) (t:List β) (h:star p=false):mtB star ok (p :: ps) (x :: t)=(ok p x && mtB star ok ps t):=by
 simp [mtB,h]
theorem mtB_none {p:α} (ps:List α) (h:star p=false):mtB star ok (p :: ps) []=false:=by
 simp [mtB,h]
theorem mtB_nil (s:List β):mtB star ok [] s=s.isEmpty:=rfl
theorem mtB_append (p q:List α) : ∀ s:List β,mtB star ok (p++q) s=true↔∃ j,j≤s.length∧mtB star ok p (s.take j)=true∧mtB star ok q (s.drop j)=true:=by
 induction p with
 | nil=>
  intro s;simp only [List.nil_append,mtB_nil];constructor
  · intro h;exact ⟨0,Nat.zero_le _,by simp,by simpa using h⟩
  · rintro ⟨j,hj,h1,h2⟩;rw [List.isEmpty_iff,List.take_eq_nil_iff] at h1;rcases h1 with rfl|rfl
    · simpa using h2
    · simpa using h2
 | cons a p ih=>
  intro s;rw [List.cons_append]
  cases ha:star a with
  | true=>
   rw [mtB_star _ _ _ _ ha];constructor
   · rintro ⟨i,hi,h⟩;obtain ⟨j,hj,h1,h2⟩:=(ih _).1 h;rw [List.length_drop] at hj;refine ⟨i+j,by omega,?_,by rw [List.drop_drop] at h2;exact h2⟩;rw [mtB_star _ _ _ _ ha];refine ⟨i,by rw [List.length_take];omega,?_⟩;rw [List.drop_take,show i+j - i=j by omega];exact h1
   · rintro ⟨j,hj,h1,h2⟩;rw [mtB_star _ _ _ _ ha] at h1;obtain ⟨i,hi,h1⟩:=h1;rw [List.length_take] at hi;refine ⟨i,by omega,(ih _).2 ⟨j - i,by rw [List.length_drop];omega,?_,?_⟩⟩
     · rw [List.drop_take] at h1;exact h1
     · rw [List.drop_drop,show i+(j - i)=j by omega];exact h2
  | false=>
   cases s with
   | nil=>
    rw [mtB_none _ _ _ ha];constructor
    · intro h;cases h
    · rintro ⟨j,hj,h1,h2⟩;rw [List.take_nil,mtB_none _ _ _ ha] at h1;cases h1
   | cons x t=>
    rw [mtB_one _ _ _ _ _ ha,Bool.and_eq_true,ih];constructor
    · rintro ⟨h0,j,hj,h1,h2⟩;refine ⟨j+1,by simp;omega,?_,h2⟩;rw [List.take_succ_cons,mtB_one _ _ _ _ _ ha,h0,h1];rfl
    · rintro ⟨j,hj,h1,h2⟩
      cases j with
      | zero=>rw [List.take_zero,mtB_none _ _ _ ha] at h1;cases h1
      | succ j=>
       rw [List.take_succ_cons,mtB_one _ _ _ _ _ ha,Bool.and_eq_true] at h1;exact ⟨h1.1,j,by simp at hj;omega,h1.2,h2⟩
theorem mtB_single_star {c:α} (h:star c=true) (s:List β):mtB star ok [c] s=true:=by
 rw [mtB_star _ _ _ _ h];exact ⟨s.length,Nat.le_refl _,by simp [mtB_nil]⟩
theorem mtB_snoc_star (q:List α) {c:α} (h:star c=true) (s:List β):mtB star ok (q++[c]) s=true↔∃ j,j≤s.length∧mtB star ok q (s.take j)=true:=by
 rw [mtB_append];exact ⟨fun ⟨j,h1,h2,_⟩=>⟨j,h1,h2⟩,fun ⟨j,h1,h2⟩=>⟨j,h1,h2,mtB_single_star star ok h _⟩⟩
theorem mtB_snoc_one (q:List α) {c:α} (h:star c=false) (s:List β) (x:β):mtB star ok (q++[c]) (s++[x])=(mtB star ok q s && ok c x):=by
 have key:mtB star ok (q++[c]) (s++[x])=true↔(mtB star ok q s && ok c x)=true:=by
  rw [mtB_append,Bool.and_eq_true];constructor
  · rintro ⟨j,hj,h1,h2⟩;rcases Nat.lt_trichotomy j s.length with hlt|rfl|hgt
    · rw [List.drop_append_of_le_length (by omega)] at h2
      cases hd:s.drop j with
      | nil=>rw [List.drop_eq_nil_iff] at hd;omega
      | cons y t=>
       rw [hd,List.cons_append,mtB_one _ _ _ _ _ h,mtB_nil] at h2;cases t <;> simp at h2
    · rw [List.take_left] at h1;rw [List.drop_left,mtB_one _ _ _ _ _ h,mtB_nil] at h2;exact ⟨h1,by simpa using h2⟩
    · have:j=(s++[x]).length:=by simp at hj ⊢;omega
      rw [this,List.drop_length,mtB_none _ _ _ h] at h2;cases h2
  · rintro ⟨h1,h2⟩;refine ⟨s.length,by simp,by rw [List.take_left];exact h1,?_⟩;rw [List.drop_left,mtB_one _ _ _ _ _ h,h2];rfl
 cases h1:mtB star ok (q++[c]) (s++[x]) <;> cases h2:(mtB star ok q s && ok c x) <;> simp [h1,h2] at key ⊢
theorem mtB_snoc_none (q:List α) {c:α} (h:star c=false):mtB star ok (q++[c]) []=false:=by
 cases hh:mtB star ok (q++[c]) [] with
 | false=>rfl
 | true=>
  obtain ⟨j,_,_,h2⟩:=(mtB_append star ok q [c] []).1 hh;rw [List.drop_nil,mtB_none _ _ _ h] at h2;cases h2
theorem mtB_plain (g q:List α) (hg : ∀ a ∈ g,star a=false) : ∀ s:List β,mtB star ok (g++q) s=true→g.length≤s.length∧mtB star ok q (s.drop g.length)=true:=by
 induction g with
 | nil=>intro s h;exact ⟨Nat.zero_le _,by simpa using h⟩
 | cons a g ih=>
  intro s h;have ha:=hg a (List.mem_cons_self ..)
  cases s with
  | nil=>rw [List.cons_append,mtB_none _ _ _ ha] at h;cases h
  | cons x t=>
   rw [List.cons_append,mtB_one _ _ _ _ _ ha,Bool.and_eq_true] at h;have:=ih (fun b hb=>hg b (List.mem_cons_of_mem _ hb)) t h.2;exact ⟨by simp;omega,by simpa using this.2⟩
end
theorem mtB_map {α β α' β':Type} (star:α→Bool) (ok:α→β→Bool) (star':α'→Bool) (ok':α'→β'→Bool) (e:α→α') (g:β→β') : ∀ (p:List α) (s:List β),(∀ a ∈ p,star' (e a)=star a)→(∀ a ∈ p,∀ x ∈ s,ok' (e a) (g x)=ok a x)→mtB star' ok' (p.map e) (s.map g)=mtB star ok p s
 | [],s,_,_=>by cases s <;> rfl
 | a :: p,s,h1,h2=>by
  have ih:=fun s' (hs : ∀ x ∈ s',x ∈ s)=>mtB_map star ok star' ok' e g p s' (fun b hb=>h1 b (List.mem_cons_of_mem _ hb)) (fun b hb x hx=>h2 b (List.mem_cons_of_mem _ hb) x (hs x hx))
  have ha:=h1 a (List.mem_cons_self ..);simp only [List.map_cons,mtB,ha,List.length_map]
  cases hst:star a with
  | true=>
   simp only [if_true];congr 1
   funext j
   rw [← List.map_drop];exact ih (s.drop j) (fun x hx=>List.mem_of_mem_drop hx)
  | false=>
   cases s with
   | nil=>rfl
   | cons x t=>
    simp only [List.map_cons];rw [h2 a (List.mem_cons_self ..) x (List.mem_cons_self ..),ih t (fun y hy=>List.mem_cons_of_mem _ hy)];rfl
end Go.Proofs.YtodhmbnfliajiaaGreatDoor.Q

/- HandPart: a text of this claim's proof,as printed or written,without what the claim does not use. -/
namespace Go.Proofs.YtodhmbnfliajiaaGreatDoor.Q
open Go
section
variable {P:Program}
theorem run_loadVar_part (w:World) (g off:Nat) (t ty:TypeId) (cs ps:Array Value) (fr:Nat×Nat) (d:TypeDesc) (hg:w.heap[g]?=some (.cells cs t fr)) (hp:ps.toList=(cs.toList.drop off).take ps.size)
 (hu:P.underlying ty=some d) (hd:(match d with | .struct _ | .array _ _=>true|_=>false)=true) (hi:(P.info? ty).map (·.size)=some ps.size) :
 (loadVar ty ⟨g,off,none⟩).run P w=.ok (.agg ps) w:=by
 have hl:(loadCells ⟨g,off,none⟩ ps.toList.length).run P w=.ok ps.toList.toArray w :=
  run_loadCells_list (P:=P) w ⟨g,off,none⟩ ps.toList (fun j v hv=>by
   have hadd:(⟨g,off,none⟩:Addr).add j=⟨g,off+j,none⟩:=by unfold Addr.add;split <;> simp_all
   rw [hadd,cell_of_row w g (off+j) cs t fr hg];rw [hp] at hv
   have hj:j < ps.size:=by
    have:=(List.getElem?_eq_some_iff.1 hv).1;rw [List.length_take] at this;omega
   rw [List.getElem?_take_of_lt hj,List.getElem?_drop] at hv
   simpa using hv)
 cases hq:P.info? ty with
 | none=>simp [hq] at hi
 | some i=>
  have hs:i.size=ps.size:=by simpa [hq] using hi
  have hagg:(isAgg ty).run P w=.ok true w:=by
   unfold isAgg;rw [Sem.run_bind,run_underlying hu w];cases d <;> simp_all
  simp only [Array.length_toList,Array.toArray_toList] at hl;simp [loadVar,Sem.run_bind,hagg,sizeOf,typeInfo,hq,hs,hl]
theorem wp_load_part {o:Oper} {a:Act} {w:World} {K:Act→World→Prop} {Q:Exit→Act→World→Prop} (ty:TypeId) (x:Operand) (ho:o.op=.load ty x)
 (g off:Nat) (hx:a.eval x=.pointer (some ⟨g,off,none⟩)) (t:TypeId) (cs ps:Array Value) (fr:Nat×Nat) (d:TypeDesc) (hg:w.heap[g]?=some (.cells cs t fr)) (hp:ps.toList=(cs.toList.drop off).take ps.size)
 (hu:P.underlying ty=some d) (hd:(match d with | .struct _ | .array _ _=>true|_=>false)=true) (hi:(P.info? ty).map (·.size)=some ps.size)
 (h:K (a.put o.dst (.agg ps)) w):o.wp P a w K Q:=by
 unfold Oper.wp execOp;simp only [ho,hx,Instr.loadAt,Instr.sureAddr,Sem.run_bind,Sem.run_pure,Result.andThen_ok,run_loadVar_part w g off t ty cs ps fr d hg hp hu hd hi];exact h
theorem wpList_load_part {ops:Array Oper} {rest:List Oper} {o:Oper} {a:Act} {w:World} {Q:Exit→Act→World→Prop} (hw:Region.wanted o (yielded ops a.tmps)=true) (ty:TypeId) (x:Operand) (ho:o.op=.load ty x)
 (g off:Nat) (hx:a.eval x=.pointer (some ⟨g,off,none⟩)) (t:TypeId) (cs ps:Array Value) (fr:Nat×Nat) (d:TypeDesc) (hg:w.heap[g]?=some (.cells cs t fr)) (hp:ps.toList=(cs.toList.drop off).take ps.size)
 (hu:P.underlying ty=some d) (hd:(match d with | .struct _ | .array _ _=>true|_=>false)=true) (hi:(P.info? ty).map (·.size)=some ps.size)
 (h:wpList P ops Q rest (a.put o.dst (.agg ps)) w):wpList P ops Q (o :: rest) a w :=
 wpList_step fun _ hK=>by rw [if_pos hw];exact wp_load_part ty x ho g off hx t cs ps fr d hg hp hu hd hi (hK _ _ h)
end
end Go.Proofs.YtodhmbnfliajiaaGreatDoor.Q

/- Qx15: a text of this claim's proof,as printed or written,without what the claim does not use. -/
namespace Go.Proofs.YtodhmbnfliajiaaGreatDoor.Q
open Go.RowKit Go.Proofs.YtodhmbnfliajiaaGreatDoorW.PrintWords Go.Proofs.YtodhmbnfliajiaaGreatDoorW.PrintLast Go.Proofs.YtodhmbnfliajiaaGreatDoorW.PrintMore
attribute [local go_sem] max2_int min2_int max_two min_two max_three min_three max_four min_four
set_option linter.unusedVariables false
set_option linter.unusedSimpArgs false
def ident_local_1.f (a0:Int):Option (Bool):=(ident_small.f a0).bind fun t226=>(if t226=true then (some true) else (if a0=45 then (some true) else (some (a0==95))))
set_option maxHeartbeats 8000000 in
set_option maxRecDepth 100000 in
theorem ident_local_1.calls (a0:Int) (r:Bool) (w:World) (h:ident_local_1.f a0=some r) :
 Calls Tryz.prog 105 #[.int .u8 a0] w fun e w'=>e=.returned (.bool r)∧Drawn0 w w':=by
 have H:((ident_small.f a0).bind fun t226=>(if t226=true then (some true) else (if a0=45 then (some true) else (some (a0==95)))))=some r:=h;clear h;obtain ⟨t226,A2,H⟩:=bs_ H;(try dsimp only at H);by_cases c3:t226=true
 · subst c3;rw [if_pos rfl] at H;obtain rfl:=Option.some.inj H;go_enter Tryz.func105,Tryz.ntmps105;go_wp2_with (first|((with_reducible refine gate_callee (f:=106) rfl ?_);refine goesL_ (some 4) rfl rfl Tryz.func106 kr_ rfl #[.int .u8 a0] rfl ag_ ?_;(with_reducible refine (ident_small.calls a0 true _ A2.out).mono ?_);rintro e w' ⟨rfl,⟨nd,rfl⟩⟩;refine ⟨_,rfl,?_⟩));go_ret;exact ⟨sz_,dz_⟩
 · replace c3:=Bool.eq_false_iff.mpr c3;subst c3;rw [if_neg nf_] at H;by_cases c4:a0=45
   · rw [if_pos c4] at H;have c4b0:(a0==45)=true:=beq_iff_eq.mpr c4;have c4b1:(a0 != 45)=false:=bne_eq_false_iff_eq.mpr c4;clear c4;obtain rfl:=Option.some.inj H;go_enter Tryz.func105,Tryz.ntmps105;go_wp2_with (first|((with_reducible refine gate_callee (f:=106) rfl ?_);refine goesL_ (some 4) rfl rfl Tryz.func106 kr_ rfl #[.int .u8 a0] rfl ag_ ?_;(with_reducible refine (ident_small.calls a0 false _ A2.out).mono ?_);rintro e w' ⟨rfl,⟨nd,rfl⟩⟩;refine ⟨_,rfl,?_⟩));go_ret;exact ⟨sz_,dz_⟩
   · rw [if_neg c4] at H;have c4b0:(a0==45)=false:=beq_eq_false_iff_ne.mpr c4;have c4b1:(a0 != 45)=true:=bne_iff_ne.mpr c4;obtain rfl:=Option.some.inj H;go_enter Tryz.func105,Tryz.ntmps105;go_wp2_with (first|((with_reducible refine gate_callee (f:=106) rfl ?_);refine goesL_ (some 4) rfl rfl Tryz.func106 kr_ rfl #[.int .u8 a0] rfl ag_ ?_;(with_reducible refine (ident_small.calls a0 false _ A2.out).mono ?_);rintro e w' ⟨rfl,⟨nd,rfl⟩⟩;refine ⟨_,rfl,?_⟩));go_ret;exact ⟨sz_,dz_⟩
end Go.Proofs.YtodhmbnfliajiaaGreatDoor.Q

