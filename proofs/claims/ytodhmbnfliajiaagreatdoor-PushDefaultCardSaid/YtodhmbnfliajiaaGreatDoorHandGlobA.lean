/- HandGlobA: a text of this claim's proof,as printed or written,without what the claim does not use. -/
import Derived.WalkSmall
import Derived.Lib.RuneCountTail
import Derived.Test.YtodhmbnfliajiaaGreatDoorJ9
namespace Go.Proofs.YtodhmbnfliajiaaGreatDoor.Q
open Go.RowKit Go.Shelf Go.Proofs.YtodhmbnfliajiaaGreatDoorW.PrintWords Go.Proofs.YtodhmbnfliajiaaGreatDoorW.PrintLast
abbrev GL:=S80
def glet (s:ByteArray) (pos:Nat):GL:=if (Utf8.decode s pos).1=65533∧(Utf8.decode s pos).2=1 then ⟨bt s (pos:Int),true⟩ else ⟨((Utf8.decode s pos).1:Int),false⟩
def glets (s:ByteArray):Nat→Nat→List GL
 | 0,_=>[]
 | f+1,pos=>if pos < s.size then glet s pos :: glets s f (pos+(Utf8.decode s pos).2) else []
def gletters (s:ByteArray):List GL:=glets s s.size 0
def glc (x:GL):List Value:=[.int .i32 x.f0,.bool x.f1]
def glcells (l:List GL):List Value:=l.flatMap glc
theorem glcells_len (l:List GL):(glcells l).length=l.length * 2:=by
 induction l with
 | nil=>rfl
 | cons a l ih=>simp only [glcells,List.flatMap_cons,List.length_append,List.length_cons] at ih ⊢;rw [ih];simp [glc];omega
theorem glcells_snoc (l:List GL) (x:GL):glcells (l++[x])=glcells l++[.int .i32 x.f0,.bool x.f1]:=by simp [glcells,glc]
theorem gl_width (s:ByteArray) (pos:Nat) (h:pos < s.size):1≤(Utf8.decode s pos).2:=by
 by_cases ha:(s[pos]'h).toNat < 128
 · rw [decode_ascii s pos h ha];exact Nat.le_refl _
 · exact (decode_high s pos h (by omega)).2
theorem glInfo:(Tryz.prog.info? 80).map (fun i=>(i.zero,i.size,i.bytes))=some (some (.agg #[.int .i32 0,.bool false]),2,8):=kr_
set_option maxRecDepth 1000000 in
set_option maxHeartbeats 4000000 in
theorem letters_any (s:ByteArray) (hsz:s.size≤1000000000000) (w:World) (hT:Tabs w) :
 Calls Tryz.prog 52 #[.string s] w fun e w'=>∃ v,e=.returned v∧w'.ownsRow w.heap.size 80 2 v (gletters s).length (glcells (gletters s))∧Below w.heap.size w w':=by
 obtain ⟨i0,hi,hz0,hz1,hz2⟩:=info_parts glInfo;go_enter Tryz.func52,Tryz.ntmps52;go_wp2;go_loopw [3] (fun v wr=>∃ (pos fuel:Nat) (acc:List GL),wr.heap[w.heap.size]?=some (.stringIter s pos)∧wr.ownsRow (w.heap.size+1) 80 2 v acc.length (glcells acc)∧Below w.heap.size w wr∧Hid (acc++glets s fuel pos=gletters s)∧s.size≤pos+fuel∧acc.length≤pos) (fun _ wr=>s.size - wr.iterPos w.heap.size);case atStart=>exact ⟨0,s.size,[],World.iter_heap w s 0,World.ownsRow_nil _ _ _ _,(Below.refl _ _).alloc (Nat.le_refl _) _,rfl,by omega,by simp⟩
 case round=>
  obtain ⟨pos,fuel,acc,hit,hown,hbw,HS,hb,hlen⟩:=hrel;have hpos0:=iterPos_of hit;by_cases hp:pos < s.size
  · have hnx : ∀ ty,(Instr.next (.pointer (some ⟨w.heap.size,0,none⟩)) true ty).run Tryz.prog wr=_:=fun ty=>Lib.run_next_any_at wr w.heap.size s pos ty hit hp
    have hwd:=gl_width s pos hp;obtain ⟨fuel,rfl⟩ : ∃ f',fuel=f'+1:=⟨fuel - 1,by omega⟩;have hit2:=Lib.iterAt_heap wr w.heap.size s pos (pos+(Utf8.decode s pos).2) hit;have hbw2:=Lib.below_iterAt hbw (k:=w.heap.size) (Nat.le_refl _) s (pos+(Utf8.decode s pos).2);have hown2:=ownsRow_iterAt hown (k:=w.heap.size) (by omega) s (pos+(Utf8.decode s pos).2);obtain ⟨W1,hW1⟩ : ∃ W1,W1=wr.iterAt w.heap.size s (pos+(Utf8.decode s pos).2):=⟨_,rfl⟩;rw [← hW1] at hnx hit2 hbw2 hown2;have hBlt:=lt_of_block hit2;clear hW1 hit hown hbw;by_cases hr:(Utf8.decode s pos).1=65533
    · have hr1:(((Utf8.decode s pos).1:Int)==65533)=true:=by simp;omega
      have hdec:Lib.decodeGo (s.extract pos s.size)=Utf8.decode s pos:=by
       unfold Lib.decodeGo;rw [if_neg (by simp;omega)];exact Lib.tail_decode s pos 0
      have hT1:=hT.below hbw2;have hD:=Tryz.utf8_DecodeRuneInString (s.extract pos s.size) W1 hT1.1;rw [hdec] at hD;have HD:=Lib.hid hD;have HDe:=Lib.hid hdec
      clear hD hdec;have hb0:=bt_at s (pos:Int) (by simpa using hp);have hbr:=bt_range s (pos:Int);by_cases hn:(Utf8.decode s pos).2=1
      · have hn1:(((Utf8.decode s pos).2:Int)==1)=true:=by simp;omega
        have hg:glet s pos=⟨bt s (pos:Int),true⟩:=by unfold glet;rw [if_pos ⟨hr,hn⟩]
        have hS2:acc++[(⟨bt s (pos:Int),true⟩:GL)]++glets s fuel (pos+(Utf8.decode s pos).2)=gletters s:=by
         rw [← HS.out,List.append_assoc];simp only [glets,if_pos hp,hg];rfl
        have HS2:=Lib.hid hS2;have HR:=Lib.hid hr;have HG:=Lib.hid hg;have HN:=Lib.hid hn;have HB0:=Lib.hid hb0
        clear hS2 hr hg HS hn hb0;go_wp2_with fail;refine (HD.out).mono ?_;rintro e W2 ⟨rfl,hb2⟩;have hit4:=blk_below hit2 hb2;have hown4:=pw_own_below hown2 hb2;have hbw4:=hbw2.trans (hb2.mono (by omega:w.heap.size≤W1.heap.size));have hblt4:=lt_of_block hit4
        have hw0:wrap32 (((s[pos]'hp).toNat:Nat):Int)=bt s (pos:Int):=by
         have h1:(((s[pos]'hp).toNat:Nat):Int)=bt s (pos:Int):=by simp [bt,hp]
         rw [h1];unfold wrap32;omega
        have HW:=Lib.hid hw0;clear hw0
        go_wp2_with (at_builtin;refine wpList_append_own _ rfl _ _ 76 rfl (w.heap.size+1) 80 i0 (.agg #[.int .i32 0,.bool false]) 2 8 Tryz.underlying76 hi hz0 hz1 hz2 rfl (by decide) _ _ _ rfl (hown4.alloc _) ⟨W2.heap.size,0,none⟩ 1 1 [.int .i32 (wrap32 (((s[pos]'hp).toNat:Nat):Int)),.bool true] rfl rfl (cell_two_new _ _ _ _) (by simp [Value.oneCell']) (by unfold maxLen;omega) (by omega) (by simp;omega) ?_;intro v' w3 hown' hgrow3 hnil3)
        have hit3:w3.heap[w.heap.size]?=some (.stringIter s (pos+(Utf8.decode s pos).2)):=by
         rw [hgrow3.block w.heap.size (by simp;omega) (fun h=>by have:=(hown4.lt _ h.symm).1;omega),Below.heap_alloc _ _ _ hblt4];exact hit4
        have hbw3:Below w.heap.size w w3:=Below.grown (hbw4.alloc (by omega) _) hgrow3 (by simp;omega) (fun j hj=>by have:=(hown4.lt _ hj).1;omega);rw [HW.out] at hown';go_roundw;case rel=>exact ⟨_,fuel,acc++[(⟨bt s (pos:Int),true⟩:GL)],hit3,by rw [glcells_snoc];simpa using hown',hbw3,HS2.out,by omega,by simp;omega⟩
        case measure=>rw [iterPos_of hit3,hpos0];omega
      · have hn1:(((Utf8.decode s pos).2:Int)==1)=false:=by simp;omega
        have hg:glet s pos=⟨((Utf8.decode s pos).1:Int),false⟩:=by unfold glet;rw [if_neg (fun h=>hn h.2)]
        have hS2:acc++[(⟨((Utf8.decode s pos).1:Int),false⟩:GL)]++glets s fuel (pos+(Utf8.decode s pos).2)=gletters s:=by
         rw [← HS.out,List.append_assoc];simp only [glets,if_pos hp,hg];rfl
        have HS2:=Lib.hid hS2;have HR:=Lib.hid hr;have HG:=Lib.hid hg;have HN:=Lib.hid hn;have HB0:=Lib.hid hb0
        clear hS2 hr hg HS hn hb0;go_wp2_with fail;refine (HD.out).mono ?_;rintro e W2 ⟨rfl,hb2⟩;have hit4:=blk_below hit2 hb2;have hown4:=pw_own_below hown2 hb2;have hbw4:=hbw2.trans (hb2.mono (by omega:w.heap.size≤W1.heap.size));have hblt4:=lt_of_block hit4;go_wp2_with (at_builtin;refine wpList_append_own _ rfl _ _ 76 rfl (w.heap.size+1) 80 i0 (.agg #[.int .i32 0,.bool false]) 2 8 Tryz.underlying76 hi hz0 hz1 hz2 rfl (by decide) _ _ _ rfl (hown4.alloc _) ⟨W2.heap.size,0,none⟩ 1 1 [.int .i32 ((Utf8.decode s pos).1:Int),.bool false] rfl rfl (cell_two_new _ _ _ _) (by simp [Value.oneCell']) (by unfold maxLen;omega) (by omega) (by simp;omega) ?_;intro v' w3 hown' hgrow3 hnil3)
        have hit3:w3.heap[w.heap.size]?=some (.stringIter s (pos+(Utf8.decode s pos).2)):=by
         rw [hgrow3.block w.heap.size (by simp;omega) (fun h=>by have:=(hown4.lt _ h.symm).1;omega),Below.heap_alloc _ _ _ hblt4];exact hit4
        have hbw3:Below w.heap.size w w3:=Below.grown (hbw4.alloc (by omega) _) hgrow3 (by simp;omega) (fun j hj=>by have:=(hown4.lt _ hj).1;omega);go_roundw;case rel=>exact ⟨_,fuel,acc++[(⟨((Utf8.decode s pos).1:Int),false⟩:GL)],hit3,by rw [glcells_snoc];simpa using hown',hbw3,HS2.out,by omega,by simp;omega⟩
        case measure=>rw [iterPos_of hit3,hpos0];omega
    · have hr1:(((Utf8.decode s pos).1:Int)==65533)=false:=by simp;omega
      have hg:glet s pos=⟨((Utf8.decode s pos).1:Int),false⟩:=by unfold glet;rw [if_neg (fun h=>hr h.1)]
      have hS2:acc++[(⟨((Utf8.decode s pos).1:Int),false⟩:GL)]++glets s fuel (pos+(Utf8.decode s pos).2)=gletters s:=by
       rw [← HS.out,List.append_assoc];simp only [glets,if_pos hp,hg];rfl
      have HS2:=Lib.hid hS2;have HR:=Lib.hid hr;have HG:=Lib.hid hg
      clear hS2 hr hg HS;go_wp2_with (at_builtin;refine wpList_append_own _ rfl _ _ 76 rfl (w.heap.size+1) 80 i0 (.agg #[.int .i32 0,.bool false]) 2 8 Tryz.underlying76 hi hz0 hz1 hz2 rfl (by decide) _ _ _ rfl (hown2.alloc _) ⟨W1.heap.size,0,none⟩ 1 1 [.int .i32 ((Utf8.decode s pos).1:Int),.bool false] rfl rfl (cell_two_new _ _ _ _) (by simp [Value.oneCell']) (by unfold maxLen;omega) (by omega) (by simp;omega) ?_;intro v' w3 hown' hgrow3 hnil3)
      have hit3:w3.heap[w.heap.size]?=some (.stringIter s (pos+(Utf8.decode s pos).2)):=by
       rw [hgrow3.block w.heap.size (by simp;omega) (fun h=>by have:=(hown2.lt _ h.symm).1;omega),Below.heap_alloc _ _ _ hBlt];exact hit2
      have hbw3:Below w.heap.size w w3:=Below.grown (hbw2.alloc (by omega) _) hgrow3 (by simp;omega) (fun j hj=>by have:=(hown2.lt _ hj).1;omega);go_roundw;case rel=>exact ⟨_,fuel,acc++[(⟨((Utf8.decode s pos).1:Int),false⟩:GL)],hit3,by rw [glcells_snoc];simpa using hown',hbw3,HS2.out,by omega,by simp;omega⟩
      case measure=>rw [iterPos_of hit3,hpos0];omega
  · have hnx : ∀ ty,(Instr.next (.pointer (some ⟨w.heap.size,0,none⟩)) true ty).run Tryz.prog wr=_:=fun ty=>Lib.run_next_end_at wr w.heap.size s pos ty hit hp
    have e:acc=gletters s:=by
     have:=HS.out
     cases fuel with
     | zero=>simpa [glets] using this
     | succ f=>simpa [glets,hp] using this
    subst e;go_wp2;go_ret;exact ⟨_,rfl,own_weaken hown (by omega),hbw⟩
def glow (x:GL):GL:=if x.f1=false∧65≤x.f0∧x.f0≤90 then ⟨x.f0+32,x.f1⟩ else x
def glowTo (k:Nat) (l:List GL):List GL:=(l.take k).map glow++l.drop k
theorem glowTo_len (k:Nat) (l:List GL):(glowTo k l).length=l.length:=by simp [glowTo];omega
theorem glcells_at (l:List GL) (j:Nat) (h:j < l.length):(glcells l)[j * 2]?=some (.int .i32 l[j].f0)∧(glcells l)[j * 2+1]?=some (.bool l[j].f1):=by
 induction l generalizing j with
 | nil=>simp at h
 | cons a l ih=>
  cases j with
  | zero=>simp [glcells,glc]
  | succ j=>
   have:=ih j (by simpa using h);simp only [glcells,List.flatMap_cons,glc,List.cons_append,List.nil_append] at this ⊢;rw [show (j+1) * 2=j * 2+1+1 by omega];simpa using this
theorem glowTo_at (l:List GL) (k:Nat) (h:k < l.length):(glowTo k l)[k]'(by rw [glowTo_len];exact h)=l[k]:=by
 simp only [glowTo];rw [List.getElem_append_right (by simp;omega)];simp [Nat.min_eq_left (Nat.le_of_lt h)]
theorem glowTo_succ (l:List GL) (k:Nat) (h:k < l.length):glowTo (k+1) l=(glowTo k l).set k (glow l[k]):=by
 simp only [glowTo];rw [List.set_append_right _ _ (by simp;omega),List.take_succ_eq_append_getElem h,List.map_append,List.append_assoc];congr 1
 have:k - (l.take k).length=0:=by simp;omega
 rw [List.length_map,this,List.drop_eq_getElem_cons h];rfl
theorem glcells_set (l:List GL) (k:Nat) (x:GL) (h:k < l.length):glcells (l.set k x)=((glcells l).set (k * 2) (.int .i32 x.f0)).set (k * 2+1) (.bool x.f1):=by
 induction l generalizing k with
 | nil=>simp at h
 | cons a l ih=>
  cases k with
  | zero=>simp [glcells,glc]
  | succ k=>
   have:=ih k (by simpa using h);simp only [glcells,List.flatMap_cons,glc,List.set_cons_succ,List.cons_append,List.nil_append] at this ⊢;rw [show (k+1) * 2=k * 2+1+1 by omega];simp only [List.set_cons_succ];rw [this]
theorem glcells_set1 (l:List GL) (k:Nat) (c:Int) (h:k < l.length):glcells (l.set k ⟨c,l[k].f1⟩)=(glcells l).set (k * 2) (.int .i32 c):=by
 rw [glcells_set l k _ h];have h2:=(glcells_at l k h).2;have h3:k * 2+1 < ((glcells l).set (k * 2) (.int .i32 c)).length:=by rw [List.length_set,glcells_len];omega
 have h4:((glcells l).set (k * 2) (.int .i32 c))[k * 2+1]=.bool l[k].f1:=by
  rw [List.getElem_set_ne (by omega)];rw [List.getElem?_eq_getElem (by rw [glcells_len];omega)] at h2;exact Option.some.inj h2
 show ((glcells l).set (k * 2) (.int .i32 c)).set (k * 2+1) (.bool l[k].f1)=_
 rw [← h4];exact List.set_getElem_self _
theorem glow_keep (l:List GL) (k:Nat) (h:k < l.length) (hg:glow l[k]=l[k]):glowTo (k+1) l=glowTo k l:=by
 rw [glowTo_succ l k h,hg];rw [← glowTo_at l k h];exact List.set_getElem_self _
set_option maxRecDepth 1000000 in
set_option maxHeartbeats 4000000 in
theorem low_any (base:Nat) (v:Value) (l:List GL) (hl:l.length≤1000000000000) (hi32 : ∀ x ∈ l,-2147483648≤x.f0∧x.f0≤2147483647) (w:World) (hbw:base≤w.heap.size) (ho:w.ownsRow base 80 2 v l.length (glcells l)) :
 Calls Tryz.prog 51 #[v] w fun e w'=>e=.returned v∧w'.ownsRow base 80 2 v l.length (glcells (l.map glow))∧Below base w w':=by
 obtain ⟨A,cap,rfl⟩:=own_slice ho;go_enter Tryz.func51,Tryz.ntmps51;go_wp2;go_loopw [7] (fun i wr=>∃ k:Nat,k≤l.length∧i=.int .i64 k∧wr.ownsRow base 80 2 (.slice A l.length cap) l.length (glcells (glowTo k l))∧Below base w wr∧Hid (w.heap.size≤wr.heap.size)) (fun i _=>l.length - (intOf i).toNat);case atStart=>exact ⟨0,Nat.zero_le _,rfl,by simpa [glowTo] using ho,Below.refl _ _,Nat.le_refl _⟩
 case round=>
  obtain ⟨k,hk,rfl,hown,hB,hS⟩:=hrel;by_cases hlt:k < l.length
  · rcases hown.2 with ⟨_,h0⟩ | ⟨g,cp,cur,hv,hgb,hgh,_⟩
    · omega
    obtain ⟨rfl,rfl⟩:A=some ⟨g,0,none⟩∧cap=cp:=by injection hv with h1 h2 h3;exact ⟨h1,h3⟩
    have hat:=glcells_at (glowTo k l) k (by rw [glowTo_len];exact hlt);rw [glowTo_at l k hlt] at hat;have hc0:=(hown.cellAt (k * 2) (by omega)).trans hat.1;have hc1:=(hown.cellAt (k * 2+1) (by omega)).trans hat.2;have hx32:=hi32 l[k] (List.getElem_mem hlt)
    have hset : ∀ c',glcells ((glowTo k l).set k ⟨c',l[k].f1⟩)=(glcells (glowTo k l)).set (k * 2) (.int .i32 c'):=fun c'=>by
     have:=glcells_set1 (glowTo k l) k c' (by rw [glowTo_len];exact hlt);rwa [glowTo_at l k hlt] at this
    have Hset:=Lib.hid hset;clear hset
    have hnew:=glowTo_succ l k hlt;have hkeep:=glow_keep l k hlt;have Hn:=Lib.hid hnew;have Hk:=Lib.hid hkeep;have Hat:=Lib.hid hat
    clear hat hv hnew hkeep;generalize l[k]=x at *;have hfz0:=hown.frozenAt (k * 2);have hglt:=(hown.lt g rfl).2;have hgne:g≠wr.heap.size:=by omega
    have hsz3:w.heap.size≤wr.heap.size:=hS;clear hS
    cases x with
    | mk c r=>
     cases r with
     | true=>
      have hgl:glow ⟨c,true⟩=⟨c,true⟩:=by simp [glow]
      have HE:=Lib.hid (Hk.out hgl);clear Hk Hn hgl
      go_wp2;go_roundw;case rel=>exact ⟨k+1,by omega,by simp,by rw [HE.out];exact hown.alloc _,hB.alloc (by omega) _,by show w.heap.size≤_;simp;omega⟩
      case measure=>simp [intOf];omega
     | false=>
      by_cases h1:65≤c
      · by_cases h2:c≤90
        · have hgl:glow ⟨c,false⟩=⟨c+32,false⟩:=by simp [glow,h1,h2]
          rw [hgl] at Hn;have d1:decide (65≤c)=true:=decide_eq_true h1;have d2:decide (c≤90)=true:=decide_eq_true h2;have hw:wrap32 (c+32)=c+32:=by unfold wrap32;omega
          have HE:=Lib.hid Hn.out;clear Hk Hn hgl hw
          have ho2:=hown.stored (k * 2) (.int .i32 (c+32));have HO2:=Lib.hid ho2;clear ho2
          go_wp2;go_roundw;case rel=>exact ⟨k+1,by omega,by simp,by rw [HE.out,Hset.out];exact HO2.out.1.alloc _,(hB.setCell hgb _).alloc (by simp;omega) _,by show w.heap.size≤_;simp;omega⟩
          case measure=>simp [intOf];omega
        · have hgl:glow ⟨c,false⟩=⟨c,false⟩:=by simp [glow];omega
          have HE:=Lib.hid (Hk.out hgl);clear Hk Hn hgl
          have d1:decide (65≤c)=true:=decide_eq_true h1;have d2:decide (c≤90)=false:=decide_eq_false h2;go_wp2;go_roundw;case rel=>exact ⟨k+1,by omega,by simp,by rw [HE.out];exact hown.alloc _,hB.alloc (by omega) _,by show w.heap.size≤_;simp;omega⟩
          case measure=>simp [intOf];omega
      · have hgl:glow ⟨c,false⟩=⟨c,false⟩:=by simp [glow];omega
        have HE:=Lib.hid (Hk.out hgl);clear Hk Hn hgl
        have d1:decide (65≤c)=false:=decide_eq_false h1;go_wp2;go_roundw;case rel=>exact ⟨k+1,by omega,by simp,by rw [HE.out];exact hown.alloc _,hB.alloc (by omega) _,by show w.heap.size≤_;simp;omega⟩
        case measure=>simp [intOf];omega
  · obtain rfl:k=l.length:=by omega
    go_wp2;go_ret;exact ⟨rfl,by simpa [glowTo] using hown,hB⟩
theorem glcells_seg (l:List GL) (j:Nat) (x:GL) (h:l[j]?=some x):((glcells l).drop (j * 2)).take 2=glc x:=by
 induction l generalizing j with
 | nil=>simp at h
 | cons a l ih=>
  cases j with
  | zero=>simp at h;subst h;simp [glcells,glc]
  | succ j=>
   have:=ih j (by simpa using h);rw [show (j+1) * 2=j * 2+2 by omega,← List.drop_drop];simpa [glcells,glc] using this
theorem gl_reads {w:World} {base:Nat} {v:Value} {l:List GL} (h:w.ownsRow base 80 2 v l.length (glcells l)) : ∃ A c,v=.slice A l.length c∧l.length≤c∧Kd.C k80 w A l.length l:=by
 have hR:Reps (k80.K w) 2 l (glcells l):=⟨by rw [glcells_len],fun j p hj=>by rw [glcells_seg l j p hj];exact k80_mk w p⟩;obtain ⟨A,c,hv,hC⟩:=own_reads_row h hR rfl;subst hv;exact ⟨A,c,rfl,own_le h,hC⟩
theorem glets_len (s:ByteArray) : ∀ f pos,(glets s f pos).length≤f
 | 0,_=>by simp [glets]
 | f+1,pos=>by
  simp only [glets];split
  · have:=glets_len s f (pos+(Utf8.decode s pos).2);simp;omega
  · simp
theorem gletters_len (s:ByteArray):(gletters s).length≤s.size:=glets_len s _ _
theorem glets_i32 (s:ByteArray) : ∀ f pos,∀ x ∈ glets s f pos,-2147483648≤x.f0∧x.f0≤2147483647
 | 0,_=>by simp [glets]
 | f+1,pos=>by
  intro x hx;simp only [glets] at hx;split at hx
  · rcases List.mem_cons.1 hx with rfl|hx
    · have h1:=decode_le s pos;have h2:=bt_range s (pos:Int);unfold glet;split <;> (simp only;omega)
    · exact glets_i32 s f _ x hx
  · cases hx
end Go.Proofs.YtodhmbnfliajiaaGreatDoor.Q
