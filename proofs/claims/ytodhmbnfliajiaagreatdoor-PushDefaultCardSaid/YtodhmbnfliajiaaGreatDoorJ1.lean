/- Merged out of: OpensZ, OpensP, OpensE, Qx1. -/
import Derived.Test.YtodhmbnfliajiaaGreatDoorJ16
/- OpensZ: a text of this claim's proof,as printed or written,without what the claim does not use. -/
namespace Go.Proofs.YtodhmbnfliajiaaGreatDoor.OpensZ
open Go.RowKit Go.Proofs.YtodhmbnfliajiaaGreatDoorW.PrintWords
open Go.Proofs.YtodhmbnfliajiaaGreatDoor.Opens (At choose_list)
def Light {H:Type} (P:Program) (t:TypeId) (d:DataW H):Prop := ∀ n ∈ d.weights P t,n≤reachBytes
def AtZ {α:Type} (P:Program) (t:TypeId) (d:Kd α) (Wf:α→Prop) (fuel:Nat):Prop :=
 ∀ (H:Type) (enc:TypeId×Value→H) (w:World) (cs:List Value) (x:DataW H×List MemPlace),DataW.trod enc P w 0 (fun _=>true) true fuel t cs=some x→Light P t x.1→∃ a,d.K w a cs∧Wf a
section
variable {P:Program} {t:TypeId} {fuel:Nat}
theorem of_At {α:Type} {d:Kd α} {Wf:α→Prop} (h:At P t d Wf fuel):AtZ P t d Wf fuel:=fun H enc w cs x hx _=>h H enc w cs x hx
theorem int {k:IntKind} (ht:P.underlying t=some (.int k)):AtZ P t (Kd.int k) (fun n=>(Lit.int k n).wf=true) fuel:=of_At (Opens.int ht)
theorem bool (ht:P.underlying t=some .bool):AtZ P t Kd.bool (fun _=>True) fuel:=of_At (Opens.bool ht)
theorem string (ht:P.underlying t=some .string):AtZ P t Kd.string (fun s=>s.size≤reachBytes) fuel:=fun _ _ _ _ _ h hl=>by
 obtain ⟨s,rfl,rfl,_⟩:=DataW.trod_string ht h;refine ⟨s,rfl,?_⟩;have:=hl s.data.toList.length (by simp [DataW.weights]);simpa using this
end
theorem all_mem {H:Type} {P:Program} {e:TypeId} {l:List (DataW H)} {d:DataW H} (hd:d ∈ l) : ∀ n ∈ d.weights P e,n ∈ DataW.weightsAll P e l:=by
 induction l with
 | nil=>cases hd
 | cons a l ih=>
  intro n hn;simp only [DataW.weightsAll,List.mem_append];rcases List.mem_cons.1 hd with rfl|h
  · exact .inl hn
  · exact .inr (ih h n hn)
theorem slice {α:Type} {P:Program} {t e:TypeId} {d:Kd α} {Wf:α→Prop} {fuel:Nat} (ht:P.underlying t=some (.slice e)) (hsz:P.cellsOf e=d.sz) (he:AtZ P e d Wf fuel) :
 AtZ P t (Kd.slice e d) (fun l=>l.length≤maxLen∧l.length * P.bytesOf e≤reachBytes∧∀ x ∈ l,Wf x) (fuel+1):=fun H enc w cs x h hw=>by
 rcases DataW.trod_slice ht h with ⟨rfl,_⟩ | ⟨a,len,cap,elems,rest,n,hn,rfl,hx,_,hlc,hcm,hel,hall,_⟩
 · refine ⟨[],⟨none,0,rfl,Nat.le_refl _,rfl,by simp,fun h=>absurd h (by simp)⟩,by simp,by simp,fun x hx=>by cases hx⟩
 · obtain rfl:n=fuel:=by omega
   have hW : ∀ m ∈ (elems.length+rest.length) * P.bytesOf e :: (DataW.weightsAll P e (elems.map (·.1))++DataW.weightsAll P e (rest.map (·.1))),m≤reachBytes:=by
    intro m hm;apply hw m;rw [hx];simp only [DataW.weights,ht,List.length_map];exact hm
   have hone : ∀ i,i < len→∃ b,(∃ c,d.K w b c∧c.length=d.sz∧∀ q u,c[q]?=some u→w.cell? (a.add (i * d.sz+q))=some u)∧Wf b:=fun i hi=>by
    have h1:=hall i hi;rw [List.getElem?_eq_getElem (by omega)] at h1;obtain ⟨c,hc,ht'⟩:=Option.bind_eq_some_iff.1 h1;have hlt:i < elems.length:=by omega
    obtain ⟨b,hb,hw⟩:=he H enc w c _ ht' (fun m hm=>hW m (List.mem_cons_of_mem _ (List.mem_append_left _ (all_mem (List.mem_map.2 ⟨_,List.getElem_mem hlt,rfl⟩) m hm))));refine ⟨b,⟨c,hb,d.K_len hb,fun q u hq=>?_⟩,hw⟩;obtain ⟨_,hlen,hcell⟩:=World.cells?_some hc;have hq':q < c.length:=(List.getElem?_eq_some_iff.1 hq).1;have:=hcell q (by omega);rw [hsz] at this hlen;rw [← Addr.add_add a (i * d.sz) q,this];exact hq
   obtain ⟨l,hl,hp⟩:=choose_list len hone;have hb0:=hW _ List.mem_cons_self;refine ⟨l,⟨some a,cap,by rw [hl],by omega,rfl,by simp only [maxLen] at hcm;omega,fun _=>⟨a,rfl,fun j p hj=>?_⟩⟩,by simp only [maxLen] at hcm ⊢;omega,?_,fun x hx=>?_⟩
   · obtain ⟨⟨c,hk,hcl,hcc⟩,_⟩:=hp j p hj;exact ⟨c,hcl,hk,hcc⟩
   · refine Nat.le_trans (Nat.mul_le_mul_right _ (by omega:l.length≤elems.length+rest.length)) hb0
   · obtain ⟨i,hi,rfl⟩:=List.getElem_of_mem hx;exact (hp i _ (List.getElem?_eq_getElem hi)).2
def FieldsZ {α:Type} (P:Program) (fs:List Field) (off:Nat) (d:Kd α) (Wf:α→Prop) (fuel:Nat):Prop :=
 ∀ (H:Type) (enc:TypeId×Value→H) (w:World) (cs:List Value),off+d.sz≤cs.length→
  (∀ f ∈ fs,∃ x,DataW.trod (H:=H) enc P w 0 (fun _=>true) true fuel f.type ((cs.drop f.offset).take (P.cellsOf f.type))=some x∧Light P f.type x.1)→
  ∃ a,d.K w a ((cs.drop off).take d.sz)∧Wf a
theorem fields_one {α:Type} {P:Program} {f:Field} {d:Kd α} {Wf:α→Prop} {fuel:Nat} (h:AtZ P f.type d Wf fuel) (hsz:P.cellsOf f.type=d.sz):FieldsZ P [f] f.offset d Wf fuel:=fun H enc w cs _ hx=>by
 obtain ⟨x,hx,hl⟩:=hx f (List.mem_singleton.2 rfl);rw [hsz] at hx;exact h H enc w _ _ hx hl
theorem fields_cons {α β:Type} {P:Program} {f:Field} {fs:List Field} {d:Kd α} {d':Kd β} {Wf:α→Prop} {Wf':β→Prop} {fuel:Nat} (h:AtZ P f.type d Wf fuel) (hsz:P.cellsOf f.type=d.sz) (hr:FieldsZ P fs (f.offset+d.sz) d' Wf' fuel) :
 FieldsZ P (f :: fs) f.offset (Kd.pair d d') (fun x=>Wf x.1∧Wf' x.2) fuel:=fun H enc w cs hl hx=>by
 have hl':f.offset+(d.sz+d'.sz)≤cs.length:=hl;obtain ⟨a,ha,hwa⟩:=fields_one h hsz H enc w cs (by omega) (fun g hg=>hx g (by rw [List.mem_singleton.1 hg];exact List.mem_cons_self));obtain ⟨b,hb,hwb⟩:=hr H enc w cs (by omega) (fun g hg=>hx g (List.mem_cons_of_mem _ hg));refine ⟨(a,b),⟨_,_,?_,ha,hb⟩,hwa,hwb⟩;show (cs.drop f.offset).take (d.sz+d'.sz)=_
 rw [List.take_add,List.drop_drop]
theorem each_mem {H:Type} {P:Program} : ∀ {ts:List TypeId} {l:List (DataW H)} {i:Nat} {t:TypeId} {d:DataW H},ts[i]?=some t→l[i]?=some d→∀ n ∈ d.weights P t,n ∈ DataW.weightsEach P ts l
 | [],_,_,_,_,h,_=>by simp at h
 | _ :: _,[],_,_,_,_,h=>by simp at h
 | t0 :: ts,d0 :: l,0,t,d,ht,hd=>by
  intro n hn;simp only [List.getElem?_cons_zero,Option.some.injEq] at ht hd;subst ht;subst hd
  simp only [DataW.weightsEach,List.mem_append];exact .inl hn
 | t0 :: ts,d0 :: l,i+1,t,d,ht,hd=>by
  intro n hn;simp only [List.getElem?_cons_succ] at ht hd;simp only [DataW.weightsEach,List.mem_append];exact .inr (each_mem ht hd n hn)
theorem struct {α β:Type} {P:Program} {t:TypeId} {fs:Array Field} {d:Kd α} {Wf:α→Prop} {fuel:Nat} (ht:P.underlying t=some (.struct fs)) (hsz:P.cellsOf t=d.sz) (h:FieldsZ P fs.toList 0 d Wf fuel) (f:β→α) (g:α→β) (hfg : ∀ x,f (g x)=x) :
 AtZ P t (Kd.iso d f) (fun y=>Wf (f y)) (fuel+1):=fun H enc w cs x hx hw=>by
 obtain ⟨xs,n,hn,rfl,hlen,hxs,hall⟩:=DataW.trod_struct ht hx;obtain rfl:n=fuel:=by omega
 rw [hsz] at hlen
 obtain ⟨a,ha,hw⟩:=h H enc w cs (by omega) (fun q hq=>by
  obtain ⟨i,hi,rfl⟩:=List.getElem_of_mem hq;have hi':i < fs.size:=by simpa using hi
  have:=hall i fs[i] (Array.getElem?_eq_getElem hi');rw [List.getElem?_eq_getElem (by omega)] at this;refine ⟨_,by simpa using this,fun m hm=>hw m ?_⟩;simp only [DataW.weights,ht]
  exact each_mem (i:=i) (t:=fs.toList[i].type) (d:=xs[i].1) (by simp [hi']) (by simp [show i < xs.length by omega]) m hm)
 rw [List.drop_zero,List.take_of_length_le (by omega)] at ha;exact ⟨g a,by show d.K w (f (g a)) cs;rw [hfg];exact ha,by show Wf (f (g a));rw [hfg];exact hw⟩
theorem zero {α:Type} {P:Program} {t:TypeId} {d:Kd α} {Wf:α→Prop}:AtZ P t d Wf 0:=fun _ _ _ _ _ h=>by simp [DataW.trod] at h
theorem mono_wf {α:Type} {P:Program} {t:TypeId} {d:Kd α} {Wf Wf':α→Prop} {fuel:Nat} (h:AtZ P t d Wf fuel) (hi : ∀ x,Wf x→Wf' x):AtZ P t d Wf' fuel:=fun H enc w cs x hx hl=>by
 obtain ⟨a,ha,hw⟩:=h H enc w cs x hx hl;exact ⟨a,ha,hi a hw⟩
theorem of_Trod {α:Type} {P:Program} {t:TypeId} {d:Kd α} {Wf:α→Prop} (h : ∀ fuel,AtZ P t d Wf fuel) {H:Type} {enc:TypeId×Value→H} {w:World} {v:Value} {x:DataW H} {ps:List MemPlace}
 (hx:DataW.Trod enc P w 0 (fun _=>true) true t v x ps) (hl:Light P t x) : ∃ a,d.K w a v.cells.toList∧Wf a:=by
 obtain ⟨fuel,hx⟩:=hx;exact h fuel H enc w _ _ hx hl
theorem light_of {H:Type} {P:Program} {ts:List TypeId} {ds:List (DataW H)} (h:(DataW.weightsEach P ts ds).all (·≤reachBytes)=true) {i:Nat} {t:TypeId} {d:DataW H} (ht:ts[i]?=some t) (hd:ds[i]?=some d):Light P t d :=
 fun n hn=>by
  have:=List.all_eq_true.1 h n (each_mem ht hd n hn);simpa using this
end Go.Proofs.YtodhmbnfliajiaaGreatDoor.OpensZ

/- OpensP: a text of this claim's proof,as printed or written,without what the claim does not use. -/
namespace Go.Proofs.YtodhmbnfliajiaaGreatDoor.OpensP
open Go.RowKit Go.Proofs.YtodhmbnfliajiaaGreatDoorW.PrintWords Go.Proofs.YtodhmbnfliajiaaGreatDoor.OpensZ Go.Proofs.YtodhmbnfliajiaaGreatDoor.Q
theorem strs (fuel:Nat):AtZ Tryz.prog 24 (Kd.slice 9 Kd.string) (fun _=>True) fuel:=by
 cases fuel with
 | zero=>exact zero
 | succ m=>exact mono_wf (slice Tryz.underlying24 (by kernel_rfl) (string Tryz.underlying9)) (fun _ _=>trivial)
theorem sig (fuel:Nat):AtZ Tryz.prog 69 k69 (fun _=>True) fuel:=by
 cases fuel with
 | zero=>exact zero
 | succ m=>exact mono_wf (struct Tryz.underlying69 (by kernel_rfl) (fields_cons (string Tryz.underlying9) (by kernel_rfl) (fields_one (string Tryz.underlying9) (by kernel_rfl))) (fun x:S69=>(x.f0,x.f1)) (fun y=>⟨y.1,y.2⟩) (fun _=>rfl)) (fun _ _=>trivial)
theorem sigs (fuel:Nat):AtZ Tryz.prog 28 (Kd.slice 69 k69) (fun _=>True) fuel:=by
 cases fuel with
 | zero=>exact zero
 | succ m=>exact mono_wf (slice Tryz.underlying28 (by kernel_rfl) (sig m)) (fun _ _=>trivial)
structure EvNear (x:S30):Prop where
 room:x.f0.size≤140737488351232
 type:x.f1.size≤140737488351232
 sender:x.f2.size≤140737488351232
 key:x.f4.size≤140737488351232
 hash:x.f10.size≤140737488351232
theorem event (fuel:Nat):AtZ Tryz.prog 30 k30 EvNear fuel:=by
 cases fuel with
 | zero=>exact zero
 | succ m=>
  exact mono_wf (struct Tryz.underlying30 (by kernel_rfl) (fields_cons (string Tryz.underlying9) (by kernel_rfl) (fields_cons (string Tryz.underlying9) (by kernel_rfl) (fields_cons (string Tryz.underlying9) (by kernel_rfl) (fields_cons (bool Tryz.underlying4) (by kernel_rfl) (fields_cons (string Tryz.underlying9) (by kernel_rfl) (fields_cons (of_At (OpensJ.opens m)) (by kernel_rfl) (fields_cons (strs m) (by kernel_rfl) (fields_cons (strs m) (by kernel_rfl) (fields_cons (int Tryz.underlying2) (by kernel_rfl) (fields_cons (int Tryz.underlying2) (by kernel_rfl) (fields_cons (string Tryz.underlying9) (by kernel_rfl) (fields_one (sigs m) (by kernel_rfl))))))))))))) (fun x:S30=>(x.f0,x.f1,x.f2,x.f3,x.f4,x.f5,x.f6,x.f7,x.f8,x.f9,x.f10,x.f11)) (fun y=>⟨y.1,y.2.1,y.2.2.1,y.2.2.2.1,y.2.2.2.2.1,y.2.2.2.2.2.1,y.2.2.2.2.2.2.1,y.2.2.2.2.2.2.2.1,y.2.2.2.2.2.2.2.2.1,y.2.2.2.2.2.2.2.2.2.1,y.2.2.2.2.2.2.2.2.2.2.1,y.2.2.2.2.2.2.2.2.2.2.2⟩) (fun _=>rfl))
   (fun x h=>⟨h.1,h.2.1,h.2.2.1,h.2.2.2.2.1,h.2.2.2.2.2.2.2.2.2.2.1⟩)
theorem scene (fuel:Nat):AtZ Tryz.prog 32 k32 (fun s=>EvNear s.f0) fuel:=by
 cases fuel with
 | zero=>exact zero
 | succ m=>
  exact mono_wf (struct Tryz.underlying32 (by kernel_rfl) (fields_cons (event m) (by kernel_rfl) (fields_cons (string Tryz.underlying9) (by kernel_rfl) (fields_cons (string Tryz.underlying9) (by kernel_rfl) (fields_cons (int Tryz.underlying2) (by kernel_rfl) (fields_one (int Tryz.underlying2) (by kernel_rfl)))))) (fun x:S32=>(x.f0,x.f1,x.f2,x.f3,x.f4)) (fun y=>⟨y.1,y.2.1,y.2.2.1,y.2.2.2.1,y.2.2.2.2⟩) (fun _=>rfl))
   (fun x h=>h.1)
theorem cond (fuel:Nat):AtZ Tryz.prog 23 k23 (fun _=>True) fuel:=by
 cases fuel with
 | zero=>exact zero
 | succ m=>
  exact mono_wf (struct Tryz.underlying23 (by kernel_rfl) (fields_cons (string Tryz.underlying9) (by kernel_rfl) (fields_cons (string Tryz.underlying9) (by kernel_rfl) (fields_cons (string Tryz.underlying9) (by kernel_rfl) (fields_one (int Tryz.underlying2) (by kernel_rfl))))) (fun x:S23=>(x.f0,x.f1,x.f2,x.f3)) (fun y=>⟨y.1,y.2.1,y.2.2.1,y.2.2.2⟩) (fun _=>rfl))
   (fun x h=>trivial)
theorem conds (fuel:Nat):AtZ Tryz.prog 45 (Kd.slice 23 k23) (fun _=>True) fuel:=by
 cases fuel with
 | zero=>exact zero
 | succ m=>exact mono_wf (slice Tryz.underlying45 (by kernel_rfl) (cond m)) (fun _ _=>trivial)
theorem rule (fuel:Nat):AtZ Tryz.prog 47 k47 (fun _=>True) fuel:=by
 cases fuel with
 | zero=>exact zero
 | succ m=>
  exact mono_wf (struct Tryz.underlying47 (by kernel_rfl) (fields_cons (int Tryz.underlying3) (by kernel_rfl) (fields_cons (string Tryz.underlying9) (by kernel_rfl) (fields_cons (bool Tryz.underlying4) (by kernel_rfl) (fields_cons (conds m) (by kernel_rfl) (fields_cons (bool Tryz.underlying4) (by kernel_rfl) (fields_one (bool Tryz.underlying4) (by kernel_rfl))))))) (fun x:S47=>(x.f0,x.f1,x.f2,x.f3,x.f4,x.f5)) (fun y=>⟨y.1,y.2.1,y.2.2.1,y.2.2.2.1,y.2.2.2.2.1,y.2.2.2.2.2⟩) (fun _=>rfl))
   (fun x h=>trivial)
theorem rules (fuel:Nat):AtZ Tryz.prog 37 (Kd.slice 47 k47) (fun _=>True) fuel:=by
 cases fuel with
 | zero=>exact zero
 | succ m=>exact mono_wf (slice Tryz.underlying37 (by kernel_rfl) (rule m)) (fun _ _=>trivial)
end Go.Proofs.YtodhmbnfliajiaaGreatDoor.OpensP

/- OpensE: a text of this claim's proof,as printed or written,without what the claim does not use. -/
namespace Go.Proofs.YtodhmbnfliajiaaGreatDoor.OpensP
open Go.RowKit Go.Proofs.YtodhmbnfliajiaaGreatDoorW.PrintWords Go.Proofs.YtodhmbnfliajiaaGreatDoor.OpensZ Go.Proofs.YtodhmbnfliajiaaGreatDoor.Q
def evS (s:S32) (A8:Option Addr) (c8:Nat) (A9:Option Addr) (c9:Nat) (A10:Option Addr) (c10:Nat) (A11:Option Addr) (c11:Nat) (A15:Option Addr) (c15:Nat):EvV:=⟨s.f0.f0,s.f0.f1,s.f0.f2,s.f0.f3,s.f0.f4,s.f0.f5.f0,s.f0.f5.f1,s.f0.f5.f2,A8,c8,s.f0.f5.f3,A9,c9,s.f0.f5.f4,A10,c10,s.f0.f6,A11,c11,s.f0.f7,s.f0.f8,s.f0.f9,s.f0.f10,A15,c15,s.f0.f11⟩
theorem EvNear.near {s:S32} (h:EvNear s.f0) {A8:Option Addr} {c8:Nat} {A9:Option Addr} {c9:Nat} {A10:Option Addr} {c10:Nat} {A11:Option Addr} {c11:Nat} {A15:Option Addr} {c15:Nat}:Near (evS s A8 c8 A9 c9 A10 c10 A11 c11 A15 c15):=⟨h.room,h.type,h.sender,h.key,h.hash⟩
end Go.Proofs.YtodhmbnfliajiaaGreatDoor.OpensP

/- Qx1: a text of this claim's proof,as printed or written,without what the claim does not use. -/
namespace Go.Proofs.YtodhmbnfliajiaaGreatDoor.Q
open Go.RowKit Go.Proofs.YtodhmbnfliajiaaGreatDoorW.PrintWords Go.Proofs.YtodhmbnfliajiaaGreatDoorW.PrintLast Go.Proofs.YtodhmbnfliajiaaGreatDoorW.PrintMore
attribute [local go_sem] max2_int min2_int max_two min_two max_three min_three max_four min_four
set_option linter.unusedVariables false
set_option linter.unusedSimpArgs false
theorem eqA23 (d:Nat) (w:World) (x0 y0:ByteArray) (x1 y1:ByteArray) (x2 y2:ByteArray) (x3 y3:Int) :
 (Op.equalIn (d+2) 23 (.agg #[.string x0,.string x1,.string x2,.int .i64 x3]) (.agg #[.string y0,.string y1,.string y2,.int .i64 y3])).run Tryz.prog w=.ok (x0.toList==y0.toList && (x1.toList==y1.toList && (x2.toList==y2.toList && (x3==y3)))) w:=by
 refine eqA_of Tryz.underlying23 kr_ ?_;refine eqf_cons (by rfl) (by go_simp;rfl) (by go_simp;rfl) (by go_simp) ?_;refine eqf_cons (by rfl) (by go_simp;rfl) (by go_simp;rfl) (by go_simp) ?_;refine eqf_cons (by rfl) (by go_simp;rfl) (by go_simp;rfl) (by go_simp) ?_;exact eqf_last (by rfl) (by go_simp;rfl) (by go_simp;rfl) (by go_simp)
end Go.Proofs.YtodhmbnfliajiaaGreatDoor.Q

