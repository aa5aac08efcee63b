/- Texts as global's reader meets them: plain (the first part printed by mkr7.py out of T8, T11, T16). -/
import Derived.Test.YtlnmkdbcdcknjaaDoorR6
set_option linter.unusedVariables false
set_option linter.unusedSimpArgs false
namespace Go.Proofs.YtlnmkdbcdcknjaaDoor.GG
open Go.RowKit Go.Sw

theorem isB_lt {s : ByteArray} {a c : Nat} (h : isB s a c = true) : wAt s a < s.size:=by
 unfold isB at h
 split at h
 · assumption
 · cases h
theorem wOf_in (s : ByteArray) (a : Nat) (ha : a ≤ s.size) : wAt s a + (wOf s a).size ≤ s.size:=by
 have h1:=(wAt_in s a ha).2
 have h2 : (wOf s a).size ≤ (s.extract (wAt s a) s.size).size:=by
  unfold wOf wordL
  rw [ByteArray.size_extract];omega
 rw [ByteArray.size_extract] at h2
 omega
theorem idx_in (w : List UInt8) : ∀ (l : List ByteArray) (j : Nat), -1 ≤ idxS w l j ∧ idxS w l j < (j + l.length : Nat)
 | [],j=>by unfold idxS;simp only [List.length_nil];omega
 | b :: l,j=>by
  unfold idxS
  split
  · simp only [List.length_cons];omega
  · have:=idx_in w l (j + 1)
    simp only [List.length_cons];omega
theorem tok_list {w : ByteArray} {l : List UInt8} (h : (w.toList == ByteArray.toList ⟨l.toArray⟩) = true) : w = ⟨l.toArray⟩:=by
 have h:=eq_of_beq h
 rw [Lib.toList_data,Lib.toList_data] at h
 obtain ⟨d⟩:=w
 have : d = l.toArray:=Array.toList_inj.1 h
 rw [this]
theorem list_back {u w : ByteArray} (h : u.toList = w.toList) : u = w:=by
 rw [Lib.toList_data,Lib.toList_data] at h
 obtain ⟨d⟩:=u
 obtain ⟨d'⟩:=w
 have : d = d':=Array.toList_inj.1 h
 rw [this]
theorem idx_word {w : ByteArray} : ∀ (l : List ByteArray) (j : Nat),(j : Int) ≤ idxS w.toList l j → ∃ m : Nat,idxS w.toList l j = ((j + m : Nat) : Int) ∧ l[m]? = some w
 | [],j,h=>by unfold idxS at h;omega
 | b :: l, j, h => by
  unfold idxS at h ⊢
  by_cases e : w.toList = b.toList
  · rw [if_pos e]
    exact ⟨0,rfl,by rw [list_back e];rfl⟩
  · rw [if_neg e] at h ⊢
    have h2 : ((j + 1 : Nat) : Int) ≤ idxS w.toList l (j + 1):=by
     rcases Int.lt_or_le (idxS w.toList l (j + 1)) ((j + 1 : Nat) : Int) with hlt | hge
     · exfalso
       have key : ∀ (l : List ByteArray) (i : Nat),idxS w.toList l i = -1 ∨ (i : Int) ≤ idxS w.toList l i:=by
        intro l
        induction l with
        | nil=>intro i;left;rfl
        | cons b l ih =>
         intro i
         unfold idxS
         split
         · right;omega
         · rcases ih (i + 1) with h | h
           · left;exact h
           · right;omega
       rcases key l (j + 1) with h3 | h3 <;> omega
     · exact hge
    obtain ⟨m,g1,g2⟩:=idx_word l (j + 1) h2
    exact ⟨m + 1,by rw [g1];omega,by simpa using g2⟩
theorem sort_word {w : ByteArray} (h : ¬ idxS w.toList sortsL 0 < 1) : 1 ≤ idxS w.toList sortsL 0 ∧ idxS w.toList sortsL 0 ≤ 3 ∧ sortW (idxS w.toList sortsL 0) = w:=by
 have h1:=(idx_in w.toList sortsL 0).2
 have hl : sortsL.length = 4:=rfl
 rw [hl] at h1
 obtain ⟨m,g1,g2⟩:=idx_word (w:=w) sortsL 0 (by omega)
 refine ⟨by omega,by omega,?_⟩
 rw [g1]
 unfold sortW
 simp only [Nat.zero_add,Int.toNat_natCast,List.getD,g2,Option.getD_some]
def isLet (b : UInt8) : Bool:=abcS.data.toList.contains b
theorem trimLS_list (r : ByteArray) : (trimLS r).data.toList = r.data.toList.dropWhile isLet:=by
 unfold trimLS packS Lib.trimLeftS
 simp only
 rfl
theorem drop_while_len (p : UInt8 → Bool) : ∀ l : List UInt8,(l.takeWhile p).length + (l.dropWhile p).length = l.length
 | []=>rfl
 | x :: l=>by
  by_cases h : p x = true
  · simp only [List.takeWhile_cons_of_pos h,List.dropWhile_cons_of_pos h,List.length_cons]
    have:=drop_while_len p l
    omega
  · simp only [List.takeWhile_cons_of_neg h,List.dropWhile_cons_of_neg h,List.length_nil]
    omega
theorem take_of_while (p : UInt8 → Bool) : ∀ l : List UInt8,l.take (l.takeWhile p).length = l.takeWhile p
 | []=>rfl
 | x :: l=>by
  by_cases h : p x = true
  · simp only [List.takeWhile_cons_of_pos h,List.length_cons,List.take_succ_cons,take_of_while p l]
  · simp only [List.takeWhile_cons_of_neg h,List.length_nil,List.take_zero]
theorem drop_of_while (p : UInt8 → Bool) : ∀ l : List UInt8,l.drop (l.takeWhile p).length = l.dropWhile p
 | []=>rfl
 | x :: l=>by
  by_cases h : p x = true
  · simp only [List.takeWhile_cons_of_pos h,List.dropWhile_cons_of_pos h,List.length_cons,List.drop_succ_cons,drop_of_while p l]
  · simp only [List.takeWhile_cons_of_neg h,List.dropWhile_cons_of_neg h,List.length_nil,List.drop_zero]
theorem wOf_list (s : ByteArray) (a : Nat) : (wOf s a).data.toList = (s.data.toList.drop (wAt s a)).takeWhile isLet:=by
 unfold wOf wordL
 rw [Lib.extract_data]
 have hd:=drop_list s (wAt s a)
 generalize s.extract (wAt s a) s.size = r at *
 have h1:=trimLS_list r
 have h2 : (trimLS r).size = (r.data.toList.dropWhile isLet).length:=by rw [← h1];rfl
 have h3:=drop_while_len isLet r.data.toList
 have h4 : r.size = r.data.toList.length:=rfl
 rw [← hd,h2,h4,List.drop_zero,show r.data.toList.length - (r.data.toList.dropWhile isLet).length - 0 = (r.data.toList.takeWhile isLet).length by omega]
 exact take_of_while isLet _
theorem wOf_size (s : ByteArray) (a : Nat) : (wOf s a).size = ((s.data.toList.drop (wAt s a)).takeWhile isLet).length:=by
 rw [← wOf_list];rfl
theorem while_idem (p : UInt8 → Bool) : ∀ l : List UInt8,(l.dropWhile p).takeWhile p = []
 | []=>rfl
 | x :: l=>by
  by_cases h : p x = true
  · rw [List.dropWhile_cons_of_pos h];exact while_idem p l
  · rw [List.dropWhile_cons_of_neg h,List.takeWhile_cons_of_neg h]
theorem wOf_behind (s : ByteArray) (a : Nat) (h : wAt s (wAt s a + (wOf s a).size) = wAt s a + (wOf s a).size) : (wOf s (wAt s a + (wOf s a).size)).size = 0:=by
 rw [wOf_size,h,wOf_size, ← List.drop_drop,drop_of_while,while_idem]
 rfl
theorem var_pos {w : ByteArray} (h : isVarB w = true) : 0 < w.size:=(name_size (var_name h)).2

theorem join_sum (xs : List ByteArray) (h : xs ≠ []) : (joinB xs).size + 1 = (xs.map fun x=>x.size + 1).sum:=by
 unfold joinB
 rw [pack_size]
 cases xs with
 | nil=>exact absurd rfl h
 | cons x r =>
  rw [List.map_cons,Lib.join_cons,List.length_append,joinTail_len,List.map_map,List.map_cons,List.sum_cons]
  have e : ((fun x : List UInt8=>x.length + 1) ∘ fun s : ByteArray=>s.data.toList) = fun s : ByteArray=>s.size + 1:=by funext s;rfl
  rw [e]
  have : x.data.toList.length = x.size:=rfl
  omega
theorem data_back {u w : ByteArray} (h : u.data.toList = w.data.toList) : u = w:=by
 obtain ⟨d⟩:=u
 obtain ⟨d'⟩:=w
 have : d = d':=Array.toList_inj.1 h
 rw [this]
theorem app_data (u v : ByteArray) : (u ++ v).data.toList = u.data.toList ++ v.data.toList:=by simp
theorem let_range : ∀ b : UInt8,isLet b = true → 97 ≤ b.toNat ∧ b.toNat ≤ 122:=by
 intro b h
 have hm : b ∈ abcS.data.toList:=by simpa [isLet] using h
 have : ∀ b ∈ abcS.data.toList,97 ≤ b.toNat ∧ b.toNat ≤ 122:=by decide
 exact this b hm
theorem dw_nil {p : UInt8 → Bool} : ∀ {l : List UInt8},l.dropWhile p = [] → ∀ b ∈ l,p b = true
 | [],_,b,hb=>by cases hb
 | x :: l,h,b,hb=>by
  by_cases hx : p x = true
  · rw [List.dropWhile_cons_of_pos hx] at h
    rcases List.mem_cons.1 hb with rfl | hb
    · exact hx
    · exact dw_nil h b hb
  · rw [List.dropWhile_cons_of_neg hx] at h;cases h
theorem trim_let {l : List UInt8} (h : Lib.trimS l abcS.data.toList = []) : ∀ b ∈ l,isLet b = true:=by
 unfold Lib.trimS Lib.trimLeftS Lib.trimRightS at h
 have h1 : ∀ b ∈ (l.reverse.dropWhile isLet).reverse,isLet b = true:=by
  intro b hb
  have:=dw_nil h b hb
  exact this
 have h2 : l.reverse.dropWhile isLet = []:=by
  cases hd : l.reverse.dropWhile isLet with
  | nil=>rfl
  | cons c r =>
   exfalso
   have hc:=List.head?_dropWhile_not (p:=isLet) (l:=l.reverse)
   rw [hd] at hc
   simp only [List.head?_cons,Option.all_some] at hc
   have:=h1 c (by rw [hd];simp)
   simp [this] at hc
 intro b hb
 exact dw_nil h2 b (by simpa using hb)
theorem name_let {w : ByteArray} (h : isNameB w = true) : ∀ b ∈ w.data.toList,isLet b = true:=by
 unfold isNameB at h
 split at h
 · cases h
 split at h
 · cases h
 split at h
 · rename_i h3
   rw [Lib.toList_data] at h3
   unfold trimS packS at h3
   exact trim_let h3
 · cases h
theorem var_parts {w : ByteArray} (h : isVarB w = true) : isNameB w = true ∧ (w.toList == ByteArray.toList endS) = false ∧ (w.toList == ByteArray.toList recS) = false:=by
 unfold isVarB at h
 split at h
 · rename_i h1
   split at h
   · cases h
   · rename_i h2
     exact ⟨h1,by simpa using h2,by simpa using h⟩
 · cases h

def bl (n : Nat) : List UInt8:=List.replicate n 32
theorem bl_succ (n : Nat) : bl (n + 1) = 32 :: bl n:=rfl
theorem skip_bl (c : UInt8) (hc : c.toNat ≠ 32) (tl : List UInt8) : ∀ n,skipB (bl n ++ c :: tl) = n
 | 0=>by
  show skipB (c :: tl) = 0
  rw [skipB,if_neg hc]
 | n + 1=>by
  rw [bl_succ,List.cons_append,skipB,if_pos (by decide),skip_bl c hc tl n]
theorem at_sign {s : ByteArray} {a n : Nat} {c : UInt8} {tl : List UInt8} (h : s.data.toList.drop a = bl n ++ c :: tl) (hc : c.toNat ≠ 32) :
 a ≤ s.size ∧ wAt s a < s.size ∧ s.data.toList.drop (wAt s a) = c :: tl ∧ s.data.toList.drop (wAt s a + 1) = tl ∧ ∀ c',isB s a c' = (c.toNat == c'):=by
 have hw : wAt s a = a + n:=by
  unfold wAt
  rw [h,skip_bl c hc tl n]
 have hd : s.data.toList.drop (wAt s a) = c :: tl:=by
  rw [hw, ← List.drop_drop,h,List.drop_left' (by simp [bl])]
 have hl : wAt s a < s.size:=by
  have:=congrArg List.length hd
  rw [List.length_drop,sizeL,List.length_cons] at this
  omega
 have hd1 : s.data.toList.drop (wAt s a + 1) = tl:=by
  rw [← List.drop_drop,hd];rfl
 refine ⟨by rw [hw] at hl;omega,hl,hd,hd1,fun c'=>?_⟩
 unfold isB
 rw [if_pos hl]
 have:=drop_at s (wAt s a) hl
 rw [hd] at this
 have hg : s.data.toList.getD (wAt s a) 0 = c:=by
  simp only [List.cons.injEq] at this
  exact this.1.symm
 show ((s.data.toList.getD (wAt s a) 0).toNat == c') = (c.toNat == c')
 rw [hg]
def noLet (l : List UInt8) : Prop := ∀ c r,l = c :: r → isLet c = false
theorem take_word {w tl : List UInt8} (hw : ∀ b ∈ w,isLet b = true) (ht : noLet tl) : (w ++ tl).takeWhile isLet = w:=by
 induction w with
 | nil =>
  cases tl with
  | nil=>rfl
  | cons c r=>rw [List.nil_append,List.takeWhile_cons_of_neg (by simp [ht c r rfl])]
 | cons b w ih =>
  rw [List.cons_append,List.takeWhile_cons_of_pos (hw b (by simp)),ih fun b hb=>hw b (by simp [hb])]
theorem at_word {s : ByteArray} {a n : Nat} {w : ByteArray} {tl : List UInt8} (h : s.data.toList.drop a = bl n ++ (w.data.toList ++ tl)) (hw : ∀ b ∈ w.data.toList,isLet b = true) (h0 : 0 < w.size) (ht : noLet tl) :
 a ≤ s.size ∧ a ≤ wAt s a ∧ wAt s a + w.size ≤ s.size ∧ wOf s a = w ∧ s.data.toList.drop (wAt s a + w.size) = tl ∧ ∀ c',(c' < 97 ∨ 122 < c') → isB s a c' = false:=by
 cases hl : w.data.toList with
 | nil =>
  have : w.size = w.data.toList.length:=rfl
  rw [hl,List.length_nil] at this
  omega
 | cons c r =>
  have hr:=let_range c (hw c (by rw [hl];simp))
  have h' : s.data.toList.drop a = bl n ++ c :: (r ++ tl):=by rw [h,hl];rfl
  obtain ⟨h1,h2,h3,h4,h5⟩:=at_sign h' (by omega)
  have hd : s.data.toList.drop (wAt s a) = w.data.toList ++ tl:=by rw [h3,hl];rfl
  have hwo : wOf s a = w:=by
   apply data_back
   rw [wOf_list,hd]
   exact take_word hw ht
  have hin:=wOf_in s a h1
  rw [hwo] at hin
  refine ⟨h1,(wAt_in s a h1).1,hin,hwo,?_,fun c' hc'=>?_⟩
  · rw [← List.drop_drop,hd]
    exact List.drop_left' rfl
  · rw [h5]
    simp only [beq_eq_false_iff_ne]
    omega
theorem sort_facts {so : Int} (h1 : 1 ≤ so) (h3 : so ≤ 3) : idxS (sortW so).toList sortsL 0 = so ∧ (∀ b ∈ (sortW so).data.toList,isLet b = true) ∧ 0 < (sortW so).size:=by
 rcases (show so = 1 ∨ so = 2 ∨ so = 3 by omega) with rfl | rfl | rfl <;> exact ⟨by decide +kernel,by decide +kernel,by decide⟩
end Go.Proofs.YtlnmkdbcdcknjaaDoor.GG
