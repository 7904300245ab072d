/- Merged out of: PureStands, HandSortS. -/
import Derived.Shelf.GgClosure.StringsIndexFunc
import Derived.Test.YtodhmbnfliajiaaGreatDoorJ8
import Derived.Test.YtodhmbnfliajiaaGreatDoorPureFold
import Derived.Test.YtodhmbnfliajiaaGreatDoorQx0
import Derived.WalkKit
import Derived.WalkSpells
import Derived.WalkSmall
import Derived.Deep.LoopGhost
import Derived.Lib.Hide
import Derived.Laws.EntriesVeiled
import Derived.BigQuiet
import Derived.Deep.QuietTactic
import Derived.Shelf.SlSortCmp.Insertion
import Derived.Test.YtodhmbnfliajiaaGreatDoorShelf
import Derived.Test.YtodhmbnfliajiaaGreatDoorJ11
import Derived.Test.YtodhmbnfliajiaaGreatDoorJ6
/- PureStands: a text of this claim's proof,as printed or written,without what the claim does not use. -/
namespace Go.Proofs.YtodhmbnfliajiaaGreatDoor.Q
open Go.RowKit Go.Lib Go.Proofs.YtodhmbnfliajiaaGreatDoorW.PrintWords Go.Proofs.YtodhmbnfliajiaaGreatDoorW.PrintLast Go.Proofs.YtodhmbnfliajiaaGreatDoorW.PrintMore
def isOp (b:UInt8):Bool:=decide (b.toNat=60∨b.toNat=62∨b.toNat=61)
def noOp (r:Nat):Bool:=decide (r≠60∧r≠62∧r≠61)
def noDigit (r:Nat):Bool:=decide (r < 48) || decide (57 < r)
theorem get_list (s:ByteArray) (j:Nat) (h:j < s.data.toList.length):s.get! j=s.data.toList[j]:=by
 have h1:j < s.data.size:=by simpa using h
 show s.data[j]! = _
 rw [getElem!_pos s.data j h1];simp
theorem idx_ops (s:ByteArray) : ∀ (f pos:Nat),s.size - pos≤f→idxFuncFrom noOp true s f pos=if (s.data.toList.drop pos).dropWhile isOp=[] then -1 else ((pos+((s.data.toList.drop pos).takeWhile isOp).length:Nat):Int)
 | 0,pos,h=>by
  have:s.data.toList.drop pos=[]:=List.drop_eq_nil_of_le (by simp;have:s.data.size=s.size:=rfl;omega)
  rw [this];rfl
 | f+1,pos,h=>by
  unfold idxFuncFrom
  by_cases hp:pos < s.size
  · have hl:pos < s.data.toList.length:=by simpa using hp
    rw [if_pos hp,List.drop_eq_getElem_cons hl,← get_list s pos hl]
    by_cases hd:(s.get! pos).toNat=60∨(s.get! pos).toNat=62∨(s.get! pos).toNat=61
    · have hg:isOp (s.get! pos)=true:=decide_eq_true hd
      rw [decode_ascii s pos (by omega)]
      rw [if_neg (by unfold noOp;rw [decide_eq_false (by omega)];decide),idx_ops s f (pos+1) (by omega)]
      rw [List.dropWhile_cons_of_pos hg,List.takeWhile_cons_of_pos hg]
      split
      · rfl
      · simp only [List.length_cons];omega
    · have hn:noOp (Utf8.decode s pos).1=true:=by
       unfold noOp
       rw [decide_eq_true_eq,Go.Lib.decode_at]
       generalize (s.get! pos).toNat=b0 at *
       unfold Go.Lib.decodeN
       repeat' split
       all_goals (simp only;omega)
      have hg:isOp (s.get! pos)=false:=decide_eq_false hd
      rw [if_pos hn]
      rw [List.dropWhile_cons_of_neg (by rw [hg];decide),List.takeWhile_cons_of_neg (by rw [hg];decide),if_neg (by simp)]
      simp
  · have:s.data.toList.drop pos=[]:=List.drop_eq_nil_of_le (by simp;have:s.data.size=s.size:=rfl;omega)
    rw [if_neg hp,this];rfl
theorem idx_digits (s:ByteArray) : ∀ (f pos:Nat),s.size - pos≤f→(0≤idxFuncFrom noDigit true s f pos↔(s.data.toList.drop pos).all isD=false)
 | 0,pos,h=>by
  have:s.data.toList.drop pos=[]:=List.drop_eq_nil_of_le (by simp;have:s.data.size=s.size:=rfl;omega)
  rw [this];unfold idxFuncFrom;simp
 | f+1,pos,h=>by
  unfold idxFuncFrom
  by_cases hp:pos < s.size
  · have hl:pos < s.data.toList.length:=by simpa using hp
    rw [if_pos hp,List.drop_eq_getElem_cons hl,← get_list s pos hl,List.all_cons]
    by_cases hd:48≤(s.get! pos).toNat∧(s.get! pos).toNat≤57
    · have hg:isD (s.get! pos)=true:=decide_eq_true hd
      rw [decode_ascii s pos (by omega),hg]
      rw [if_neg (by unfold noDigit;rw [decide_eq_false (by omega),decide_eq_false (by omega)];decide),idx_digits s f (pos+1) (by omega)]
      simp
    · have hn:noDigit (Utf8.decode s pos).1=true:=by
       unfold noDigit
       rw [Bool.or_eq_true,decide_eq_true_eq,decide_eq_true_eq,Go.Lib.decode_at]
       generalize (s.get! pos).toNat=b0 at *
       unfold Go.Lib.decodeN
       repeat' split
       all_goals (simp only;omega)
      have hg:isD (s.get! pos)=false:=decide_eq_false hd
      rw [if_pos hn,hg]
      simp
  · have:s.data.toList.drop pos=[]:=List.drop_eq_nil_of_le (by simp;have:s.data.size=s.size:=rfl;omega)
    rw [if_neg hp,this];simp
def dig9 (l:List UInt8):Option Nat:=if l≠[]∧l.length≤9∧l.all isD=true then some (dval 0 l) else none
def cmpOp (o:List UInt8) (n m:Int):Bool :=
 if o=[]∨o=[61,61] then decide (n=m) else if o=[60] then decide (n < m) else if o=[62] then decide (m < n) else if o=[60,61] then decide (n≤m) else if o=[62,61] then decide (m≤n) else false
def standsL (l:List UInt8) (n:Int):Bool:=match dig9 (l.dropWhile isOp) with|none=>false|some m=>cmpOp (l.takeWhile isOp) n (m:Int)
def standsB (p:ByteArray) (n:Int):Bool:=standsL p.data.toList n
def memL (l:List UInt8) (n:Int):Bool :=
 if l.take 2=[61,61] then (match dig9 (l.drop 2) with|none=>false|some m=>decide (n=m))
 else if l.take 2=[60,61] then (match dig9 (l.drop 2) with|none=>false|some m=>decide (n≤m))
 else if l.take 2=[62,61] then (match dig9 (l.drop 2) with|none=>false|some m=>decide ((m:Int)≤n))
 else if l.take 1=[60] then (match dig9 (l.drop 1) with|none=>false|some m=>decide (n < m))
 else if l.take 1=[62] then (match dig9 (l.drop 1) with|none=>false|some m=>decide ((m:Int) < n))
 else (match dig9 l with|none=>false|some m=>decide (n=m))
theorem dig9_op {c:UInt8} (r:List UInt8) (h:isOp c=true):dig9 (c :: r)=none:=by
 unfold dig9
 rw [if_neg]
 rintro ⟨_,_,h3⟩
 rw [List.all_cons,Bool.and_eq_true] at h3
 have:=h3.1
 unfold isD at this;unfold isOp at h
 simp only [decide_eq_true_eq] at this h
 omega
theorem op_of {c:UInt8}:isOp c=true↔c=60∨c=62∨c=61:=by
 unfold isOp
 rw [decide_eq_true_eq]
 constructor
 · rintro (h|h|h)
   · exact .inl (UInt8.toNat_inj.1 h)
   · exact .inr (.inl (UInt8.toNat_inj.1 h))
   · exact .inr (.inr (UInt8.toNat_inj.1 h))
 · rintro (rfl|rfl|rfl) <;> simp
theorem opFacts (l:List UInt8):(∀ x ∈ l.takeWhile isOp,isOp x=true)∧∀ c t,l.dropWhile isOp=c :: t→isOp c=false:=by
 induction l with
 | nil=>simp
 | cons a l ih=>
  cases h:isOp a with
  | true=>
   rw [List.takeWhile_cons_of_pos h,List.dropWhile_cons_of_pos h]
   refine ⟨fun x hx=>?_,ih.2⟩
   rcases List.mem_cons.1 hx with rfl|hx
   · exact h
   · exact ih.1 x hx
  | false=>
   rw [List.takeWhile_cons_of_neg (by rw [h];decide),List.dropWhile_cons_of_neg (by rw [h];decide)]
   refine ⟨fun x hx=>by simp at hx,fun c t e=>?_⟩
   injection e with e1 e2
   rw [← e1];exact h
theorem memL_stands (l:List UInt8) (n:Int):memL l n=standsL l n:=by
 have hl:=(List.takeWhile_append_dropWhile (p:=isOp) (l:=l))
 obtain ⟨h1,h2⟩:=opFacts l
 unfold standsL
 generalize l.takeWhile isOp=o at *
 generalize l.dropWhile isOp=d at *
 subst hl
 have hn61 : ∀ c t,d=c :: t→c≠61∧c≠60∧c≠62:=fun c t e=>by
  have:=h2 c t e
  refine ⟨?_,?_,?_⟩ <;> (rintro rfl;revert this;decide)
 unfold memL
 match o,h1 with
 | [],_=>
  simp only [List.nil_append]
  cases d with
  | nil=>rfl
  | cons c t=>
   have:=hn61 c t rfl
   rw [if_neg,if_neg,if_neg,if_neg,if_neg]
   · rfl
   all_goals (simp only [List.take_succ_cons];intro e;injection e with e1 e2;first|exact this.1 e1|exact this.2.1 e1|exact this.2.2 e1)
 | [a],h1=>
  have ha:=op_of.1 (h1 a (List.mem_cons_self ..))
  have ht2 : ∀ x:UInt8,([a]++d).take 2≠[x,61]:=by
   intro x
   cases d with
   | nil=>simp
   | cons c t=>
    simp only [List.cons_append,List.nil_append,List.take_succ_cons,List.take_zero]
    intro e;injection e with _ e2;injection e2 with e3 _
    exact (hn61 c t rfl).1 e3
  rw [if_neg (ht2 61),if_neg (ht2 60),if_neg (ht2 62)]
  have hd1:([a]++d).drop 1=d:=rfl
  have ht1:([a]++d).take 1=[a]:=rfl
  rw [hd1,ht1]
  rcases ha with rfl|rfl|rfl
  · rw [if_pos rfl];rfl
  · rw [if_neg (by decide),if_pos rfl];rfl
  · rw [if_neg (by decide),if_neg (by decide)]
    show (match dig9 ((61:UInt8) :: d) with|none=>false|some m=>decide (n=(m:Int)))=_
    rw [dig9_op d (by decide)]
    cases dig9 d <;> rfl
 | [a,b],h1=>
  have ha:=op_of.1 (h1 a (List.mem_cons_self ..))
  have hb:=op_of.1 (h1 b (List.mem_cons_of_mem _ (List.mem_cons_self ..)))
  have e1:([a,b]++d).take 2=[a,b]:=rfl
  have e2:([a,b]++d).drop 2=d:=rfl
  have e3:([a,b]++d).take 1=[a]:=rfl
  have e4:([a,b]++d).drop 1=b :: d:=rfl
  have e5:[a,b]++d=a :: b :: d:=rfl
  rw [e1,e2,e3,e4,e5,dig9_op (b :: d) (h1 a (List.mem_cons_self ..)),dig9_op d (h1 b (List.mem_cons_of_mem _ (List.mem_cons_self ..)))]
  rcases ha with rfl|rfl|rfl <;> rcases hb with rfl|rfl|rfl <;> cases dig9 d <;> simp [cmpOp]
 | a :: b :: c :: r,h1=>
  have hc:=h1 c (List.mem_cons_of_mem _ (List.mem_cons_of_mem _ (List.mem_cons_self ..)))
  have e2:(a :: b :: c :: r++d).drop 2=c :: (r++d):=rfl
  have e4:(a :: b :: c :: r++d).drop 1=b :: (c :: (r++d)):=rfl
  have e5:a :: b :: c :: r++d=a :: (b :: c :: r++d):=rfl
  rw [e2,e4,e5,dig9_op _ (h1 a (List.mem_cons_self ..)),dig9_op _ (h1 b (List.mem_cons_of_mem _ (List.mem_cons_self ..))),dig9_op _ hc]
  have hz : ∀ m:Int,cmpOp (a :: b :: c :: r) n m=false:=fun m=>by simp [cmpOp]
  cases dig9 d with
  | none=>simp
  | some m=>simp [hz]
end Go.Proofs.YtodhmbnfliajiaaGreatDoor.Q

/- HandSortS: a text of this claim's proof,as printed or written,without what the claim does not use. -/
namespace Go.Proofs.YtodhmbnfliajiaaGreatDoor.Q
open Go.RowKit Go.Shelf Go.Proofs.YtodhmbnfliajiaaGreatDoorW.PrintWords Go.Proofs.YtodhmbnfliajiaaGreatDoorW.PrintLast
set_option linter.unusedVariables false
set_option maxRecDepth 100000 in
set_option maxHeartbeats 2000000 in
theorem less_calls (B:Nat) (A:Option Addr) (n c:Nat) (a b:Nat) (ad:Addr) (ka kb:Int) (W:World) (ha:a < n) (hb:b < n) (hn:n≤1000000) (hA:A=some ad)
 (hc:W.cell? ⟨B,0,none⟩=some (.slice A n c)) (h1:W.cell? (ad.add (a * 6))=some (.int .i64 ka)) (h2:W.cell? (ad.add (b * 6))=some (.int .i64 kb)) :
 Calls Tryz.prog 35 #[.int .i64 (a:Int),.int .i64 (b:Int),.pointer (some ⟨B,0,none⟩)] W fun e w'=>e=.returned (.int .i64 (Lib.compareInt ka kb))∧∃ q,w'=W.drewN q:=by
 subst hA
 have i1:(a:Int) < (n:Int):=by omega
 have i2:(b:Int) < (n:Int):=by omega
 have i3:(0:Int)≤(a:Int):=by omega
 have i4:(0:Int)≤(b:Int):=by omega
 have HC:=Lib.hid (fun W=>Tryz.cmp_Compare_int ka kb W)
 go_enter Tryz.func35,Tryz.ntmps35
 go_wp2
 go_quiet ((go_at_call 36;exact Calls.quiet_of_same (HC.out _)))
 go_wp2
 go_ret
 exact ⟨rfl,_,rfl⟩
theorem below_sortW {α:Type} [Inhabited α] (enc:α→Value) (w:World) (blk off m:Nat) (dk:Array α) (os:Array Obj) (h:blk≤w.heap.size):Below blk w (sortWorld enc w blk off m dk os):=by
 unfold sortWorld
 have hz:(Sort.putRow enc (Sort.ahead w m) blk off dk).heap.size=w.heap.size:=by rw [Sort.size_putRow];rfl
 refine ⟨rfl,rfl,rfl,?_,fun k hk=>?_⟩
 · show w.heap.size≤((Sort.putRow enc (Sort.ahead w m) blk off dk).heap++os).size
   rw [Array.size_append,hz];omega
 · show ((Sort.putRow enc (Sort.ahead w m) blk off dk).heap++os)[k]?=w.heap[k]?
   rw [Array.getElem?_append_left (by rw [hz];omega)]
   show ((Sort.ahead w m).heap.modify blk _)[k]?=_
   rw [Array.getElem?_modify,if_neg (by omega)]
   rfl
theorem insert_none (g:Nat) (lb:Array Value) (p:Option Addr) (cap:Nat) (w:World):Calls Tryz.prog 85 #[.slice p 0 cap,.int .i64 0,.int .i64 0,.func (.func g) #[] lb] w fun e w'=>e=.returned (.tuple #[])∧w'=w:=by
 go_enter Tryz.func85,Tryz.ntmps85
 go_wp2
 refine wp_loop_rounds 1 ?_
 rw [rounds_succ]
 go_wp2
 go_end0
 exact ⟨rfl,rfl⟩
abbrev encP (m:Nat):Fin (m+1)→Value:=fun x=>.int .i64 (x.val:Int)
def sortedBy (key:Nat→Int) (m:Nat):Array (Fin (m+1)):=Sort.insertionSort (fun x y:Fin (m+1)=>decide (key x.val < key y.val)) (idRow m) 0 (m+1)
theorem ltOf_key (key:Nat→Int) (m:Nat):ltOf (fun x y:Fin (m+1)=>Lib.compareInt (key x.val) (key y.val))=fun x y=>decide (key x.val < key y.val):=by
 funext x y
 unfold ltOf
 rw [decide_eq_decide]
 unfold Lib.compareInt
 dsimp only
 split
 · omega
 · split <;> omega
theorem insert_calls (g:Nat) (lb:Array Value) (eg : ∀ args w,(callFunc g args).run Tryz.prog w=.ok (.enter g args) w) (m:Nat) (hm:m+1≤1000000) (key:Nat→Int) (blk cap:Nat) (w:World) (hH:Sort.Holds (encP m) w blk 0 (idRow m))
 (hcmp:CmpReads Tryz.prog g lb (encP m) (fun x y=>Lib.compareInt (key x.val) (key y.val)) blk 0 (m+1) w) :
 Calls Tryz.prog 85 #[.slice (some ⟨blk,0,none⟩) (m+1) cap,.int .i64 0,.int .i64 ((m+1:Nat):Int),.func (.func g) #[] lb] w fun e w'=>e=.returned (.tuple #[])∧∃ n,w'=(Sort.putRow (encP m) w blk 0 (sortedBy key m)).drewN n:=by
 have hcon:=Any.insertionSortCmpFunc_one Tryz.insL (encP m) (fun _=>rfl) (fun x y=>Lib.compareInt (key x.val) (key y.val)) g lb blk 0 cap 0 (m+1) (idRow m) w eg (by rw [idRow_size];exact hcmp) hH (by omega) (by rw [idRow_size];exact Nat.le_refl _) (by rw [idRow_size];omega)
 rw [ltOf_key,idRow_size] at hcon
 exact hcon
set_option maxRecDepth 100000 in
set_option maxHeartbeats 2000000 in
theorem stable_calls (n cap:Nat) (hn:n≤16) (p:Option Addr) (g:Nat) (lb:Array Value) (w:World) (Q:World→Prop)
 (H:Calls Tryz.prog 85 #[.slice p n cap,.int .i64 0,.int .i64 (n:Int),.func (.func g) #[] lb] w fun e w'=>e=.returned (.tuple #[])∧Q w') :
 Calls Tryz.prog 70 #[.slice p n cap,.int .i64 (n:Int),.func (.func g) #[] lb] w fun e w'=>e=.returned (.tuple #[])∧Q w':=by
 have d1:decide ((20:Int)≤(n:Int))=false:=decide_eq_false (by omega)
 have d2:decide ((20:Int) < (n:Int))=false:=decide_eq_false (by omega)
 have HH:=Lib.hid H
 clear H
 go_enter Tryz.func70,Tryz.ntmps70
 go_wp2
 refine wp_loop_rounds 1 ?_
 rw [rounds_succ]
 go_wp2_with (go_at_call 85;refine HH.out.mono ?_;rintro e w' ⟨rfl,hq⟩)
 refine wp_loop_rounds 1 ?_
 rw [rounds_succ]
 go_wp2
 go_end0
 exact ⟨rfl,hq⟩
set_option maxRecDepth 100000 in
set_option maxHeartbeats 2000000 in
theorem sortStable_calls (n cap:Nat) (hn:n≤16) (p:Option Addr) (g:Nat) (lb:Array Value) (w:World) (Q:World→Prop)
 (H:Calls Tryz.prog 85 #[.slice p n cap,.int .i64 0,.int .i64 (n:Int),.func (.func g) #[] lb] w fun e w'=>e=.returned (.tuple #[])∧Q w') :
 Calls Tryz.prog 34 #[.slice p n cap,.func (.func g) #[] lb] w fun e w'=>e=.returned (.tuple #[])∧Q w':=by
 have HH:=Lib.hid (stable_calls n cap hn p g lb w Q H)
 clear H
 go_enter Tryz.func34,Tryz.ntmps34
 go_wp2_with (go_at_call 70;refine HH.out.mono ?_;rintro e w' ⟨rfl,hq⟩)
 go_end0
 exact ⟨rfl,hq⟩
def idxC (p:S23→Bool):List S23→Int→Int
 | [],_=>-1
 | a :: l,i=>if p a then i else idxC p l (i+1)
theorem idxC_any (p:S23→Bool) (l:List S23) : ∀ i,0≤i→decide (0≤idxC p l i)=l.any p:=by
 induction l with
 | nil=>intro i hi;rfl
 | cons a l ih=>
  intro i hi
  cases h:p a with
  | true=>simp [idxC,h];omega
  | false=>simp only [idxC,h,List.any_cons,Bool.false_or];exact ih (i+1) (by omega)
set_option maxRecDepth 100000 in
set_option maxHeartbeats 2000000 in
theorem indexFunc_cond (g:Nat) (lb:Array Value) (eg : ∀ args w,(callFunc g args).run Tryz.prog w=.ok (.enter g args) w) (p:S23→Bool) (l:List S23) (hl:l.length≤9223372036854775806) (A:Option Addr) (c:Nat) (w:World) (hr:Kd.C k23 w A l.length l)
 (hp : ∀ (W:World) (x:S23),x ∈ l→Below w.heap.size w W→Calls Tryz.prog g (#[.agg #[.string x.f0,.string x.f1,.string x.f2,.int .i64 x.f3]]++lb) W fun e w'=>e=.returned (.bool (p x))∧Below W.heap.size W w') :
 Calls Tryz.prog 72 #[.slice A l.length c,.func (.func g) #[] lb] w fun e w'=>e=.returned (.int .i64 (idxC p l 0))∧Below w.heap.size w w':=by
 have HR:=Lib.hid hr;have HP:=Lib.hid hp
 clear hr hp
 go_enter Tryz.func72,Tryz.ntmps72
 go_wp2
 go_loopw [8] (fun i wr=>∃ k:Nat,k≤l.length∧i=.int .i64 k∧Hid (idxC p (l.drop k) k=idxC p l 0)∧Below w.heap.size w wr) (fun i _=>l.length - (intOf i).toNat)
 case atStart=>exact ⟨0,Nat.zero_le _,rfl,by simp [Hid],Below.refl _ _⟩
 case round=>
  obtain ⟨k,hk,rfl,HI,hB⟩:=hrel
  by_cases hlt:k < l.length
  · obtain ⟨ad,rfl,g0,g1,g2,g3⟩:=at_T23 (Kd.C_below HR.out hB) (k:Int) (by omega) (by omega)
    have hrd:rd_T23 l (k:Int)=l[k]:=by simp [rd_T23,hlt]
    rw [hrd,Int.toNat_natCast] at g0 g1 g2 g3
    have hcS:=HP.out wr l[k] (List.getElem_mem hlt) hB
    have hI:idxC p (l.drop k) k=if p l[k] then (k:Int) else idxC p (l.drop (k+1)) ((k+1:Nat):Int):=by
     rw [List.drop_eq_getElem_cons hlt];simp only [idxC];rfl
    rw [HI.out] at hI
    clear HI hrd
    generalize l[k]=x at *
    have HcS:=Lib.hid hcS;clear hcS
    have i1:(k:Int) < (l.length:Int):=by omega
    cases hx:p x with
    | true=>
     rw [hx] at HcS hI
     have HI:=Lib.hid hI;clear hI
     go_wp2_with (go_at_fn g;refine HcS.out.mono ?_;rintro e W' ⟨rfl,hbc⟩)
     go_ret
     exact ⟨by rw [HI.out];rfl,hB.trans (hbc.mono hB.size)⟩
    | false=>
     rw [hx] at HcS hI
     have HI:=Lib.hid hI;clear hI
     go_wp2_with (go_at_fn g;refine HcS.out.mono ?_;rintro e W' ⟨rfl,hbc⟩)
     go_roundw
     case rel=>exact ⟨k+1,by omega,by simp,by rw [HI.out];rfl,hB.trans (hbc.mono hB.size)⟩
     case measure=>simp [intOf];omega
  · obtain rfl:k=l.length:=by omega
    have hx:idxC p l 0 = -1:=by rw [← HI.out,List.drop_length];rfl
    have HX:=Lib.hid hx;clear hx HI
    go_wp2
    go_ret
    exact ⟨by rw [HX.out];rfl,hB⟩
set_option maxRecDepth 100000 in
set_option maxHeartbeats 2000000 in
theorem containsFunc_cond (g:Nat) (lb:Array Value) (eg : ∀ args w,(callFunc g args).run Tryz.prog w=.ok (.enter g args) w) (p:S23→Bool) (l:List S23) (hl:l.length≤9223372036854775806) (A:Option Addr) (c:Nat) (w:World) (hr:Kd.C k23 w A l.length l)
 (hp : ∀ (W:World) (x:S23),x ∈ l→Below w.heap.size w W→Calls Tryz.prog g (#[.agg #[.string x.f0,.string x.f1,.string x.f2,.int .i64 x.f3]]++lb) W fun e w'=>e=.returned (.bool (p x))∧Below W.heap.size W w') :
 Calls Tryz.prog 38 #[.slice A l.length c,.func (.func g) #[] lb] w fun e w'=>e=.returned (.bool (l.any p))∧Below w.heap.size w w':=by
 have hI:=indexFunc_cond g lb eg p l hl A c w hr hp
 have HI:=Lib.hid hI
 have HA:=Lib.hid (idxC_any p l 0 (Int.le_refl _))
 clear hI hr hp
 generalize idxC p l 0=i at *
 go_enter Tryz.func38,Tryz.ntmps38
 go_wp2_with fail
 refine HI.out.mono ?_
 rintro e w2 ⟨rfl,hb⟩
 go_wp2
 go_ret
 exact ⟨by rw [← HA.out];rfl,hb⟩
end Go.Proofs.YtodhmbnfliajiaaGreatDoor.Q

