/- Texts: blanks, words and signs, as types' reader meets them: plain. -/
import Derived.Test.YtdcplkefmpjppaaDoorDT14
set_option linter.unusedVariables false
set_option linter.unusedSimpArgs false
namespace Go.Proofs.YtdcplkefmpjppaaDoor.GG
open Go.RowKit Go.Sw

theorem data_back {u w : ByteArray} (h : u.data.toList = w.data.toList) : u = w:=by
 obtain ⟨d⟩:=u
 obtain ⟨d'⟩:=w
 have : d = d':=Array.toList_inj.1 h
 rw [this]
theorem app_data (u v : ByteArray) : (u ++ v).data.toList = u.data.toList ++ v.data.toList:=by simp
theorem let_range : ∀ b : UInt8,isLet b = true → 97 ≤ b.toNat ∧ b.toNat ≤ 122:=by
 intro b h
 have hm : b ∈ abcS.data.toList:=by simpa [isLet] using h
 have : ∀ b ∈ abcS.data.toList,97 ≤ b.toNat ∧ b.toNat ≤ 122:=by decide
 exact this b hm
theorem dw_nil {p : UInt8 → Bool} : ∀ {l : List UInt8},l.dropWhile p = [] → ∀ b ∈ l,p b = true
 | [],_,b,hb=>by cases hb
 | x :: l,h,b,hb=>by
  by_cases hx : p x = true
  · rw [List.dropWhile_cons_of_pos hx] at h
    rcases List.mem_cons.1 hb with rfl | hb
    · exact hx
    · exact dw_nil h b hb
  · rw [List.dropWhile_cons_of_neg hx] at h;cases h
theorem trim_let {l : List UInt8} (h : Lib.trimS l abcS.data.toList = []) : ∀ b ∈ l,isLet b = true:=by
 unfold Lib.trimS Lib.trimLeftS Lib.trimRightS at h
 have h1 : ∀ b ∈ (l.reverse.dropWhile isLet).reverse,isLet b = true:=by
  intro b hb
  have:=dw_nil h b hb
  exact this
 have h2 : l.reverse.dropWhile isLet = []:=by
  cases hd : l.reverse.dropWhile isLet with
  | nil=>rfl
  | cons c r =>
   exfalso
   have hc:=List.head?_dropWhile_not (p:=isLet) (l:=l.reverse)
   rw [hd] at hc
   simp only [List.head?_cons,Option.all_some] at hc
   have:=h1 c (by rw [hd];simp)
   simp [this] at hc
 intro b hb
 exact dw_nil h2 b (by simpa using hb)
theorem name_let {w : ByteArray} (h : isNameB w = true) : ∀ b ∈ w.data.toList,isLet b = true:=by
 unfold isNameB at h
 split at h
 · cases h
 split at h
 · cases h
 split at h
 · rename_i h3
   rw [Lib.toList_data] at h3
   unfold trimS packS at h3
   exact trim_let h3
 · cases h
theorem var_parts {w : ByteArray} (h : isVarB w = true) : isNameB w = true ∧ (w.toList == ByteArray.toList endS) = false ∧ (w.toList == ByteArray.toList recS) = false:=by
 unfold isVarB at h
 split at h
 · rename_i h1
   split at h
   · cases h
   · rename_i h2
     exact ⟨h1,by simpa using h2,by simpa using h⟩
 · cases h

def bl (n : Nat) : List UInt8:=List.replicate n 32
theorem bl_app (m n : Nat) : bl m ++ bl n = bl (m + n):=by simp [bl,List.replicate_append_replicate]
theorem bl_succ (n : Nat) : bl (n + 1) = 32 :: bl n:=rfl
theorem bl_zero : bl 0 = []:=rfl
theorem skip_bl (c : UInt8) (hc : c.toNat ≠ 32) (tl : List UInt8) : ∀ n,skipB (bl n ++ c :: tl) = n
 | 0=>by
  show skipB (c :: tl) = 0
  rw [skipB,if_neg hc]
 | n + 1=>by
  rw [bl_succ,List.cons_append,skipB,if_pos (by decide),skip_bl c hc tl n]
theorem skip_all : ∀ n,skipB (bl n) = n
 | 0=>rfl
 | n + 1=>by rw [bl_succ,skipB,if_pos (by decide),skip_all n]
theorem at_sign {s : ByteArray} {a n : Nat} {c : UInt8} {tl : List UInt8} (h : s.data.toList.drop a = bl n ++ c :: tl) (hc : c.toNat ≠ 32) :
 a ≤ s.size ∧ wAt s a < s.size ∧ s.data.toList.drop (wAt s a) = c :: tl ∧ s.data.toList.drop (wAt s a + 1) = tl ∧ ∀ c',isB s a c' = (c.toNat == c'):=by
 have hw : wAt s a = a + n:=by
  unfold wAt
  rw [h,skip_bl c hc tl n]
 have hd : s.data.toList.drop (wAt s a) = c :: tl:=by
  rw [hw, ← List.drop_drop,h,List.drop_left' (by simp [bl])]
 have hl : wAt s a < s.size:=by
  have:=congrArg List.length hd
  rw [List.length_drop,sizeL,List.length_cons] at this
  omega
 have hd1 : s.data.toList.drop (wAt s a + 1) = tl:=by
  rw [← List.drop_drop,hd];rfl
 refine ⟨by rw [hw] at hl;omega,hl,hd,hd1,fun c'=>?_⟩
 unfold isB
 rw [if_pos hl]
 have:=drop_at s (wAt s a) hl
 rw [hd] at this
 have hg : s.data.toList.getD (wAt s a) 0 = c:=by
  simp only [List.cons.injEq] at this
  exact this.1.symm
 show ((s.data.toList.getD (wAt s a) 0).toNat == c') = (c.toNat == c')
 rw [hg]
theorem sign_noword {s : ByteArray} {a n : Nat} {c : UInt8} {tl : List UInt8} (h : s.data.toList.drop a = bl n ++ c :: tl) (hc : c.toNat ≠ 32) (hl : isLet c = false) : wOf s a = noB:=by
 apply data_back
 rw [wOf_list,(at_sign h hc).2.2.1,List.takeWhile_cons_of_neg (by simp [hl])]
def noLet (l : List UInt8) : Prop := ∀ c r,l = c :: r → isLet c = false
theorem take_word {w tl : List UInt8} (hw : ∀ b ∈ w,isLet b = true) (ht : noLet tl) : (w ++ tl).takeWhile isLet = w:=by
 induction w with
 | nil =>
  cases tl with
  | nil=>rfl
  | cons c r=>rw [List.nil_append,List.takeWhile_cons_of_neg (by simp [ht c r rfl])]
 | cons b w ih =>
  rw [List.cons_append,List.takeWhile_cons_of_pos (hw b (by simp)),ih fun b hb=>hw b (by simp [hb])]
theorem at_word {s : ByteArray} {a n : Nat} {w : ByteArray} {tl : List UInt8} (h : s.data.toList.drop a = bl n ++ (w.data.toList ++ tl)) (hw : ∀ b ∈ w.data.toList,isLet b = true) (h0 : 0 < w.size) (ht : noLet tl) :
 a ≤ s.size ∧ a ≤ wAt s a ∧ wAt s a + w.size ≤ s.size ∧ wOf s a = w ∧ s.data.toList.drop (wAt s a + w.size) = tl ∧ ∀ c',(c' < 97 ∨ 122 < c') → isB s a c' = false:=by
 cases hl : w.data.toList with
 | nil =>
  have : w.size = w.data.toList.length:=rfl
  rw [hl,List.length_nil] at this
  omega
 | cons c r =>
  have hr:=let_range c (hw c (by rw [hl];simp))
  have h' : s.data.toList.drop a = bl n ++ c :: (r ++ tl):=by rw [h,hl];rfl
  obtain ⟨h1,h2,h3,h4,h5⟩:=at_sign h' (by omega)
  have hd : s.data.toList.drop (wAt s a) = w.data.toList ++ tl:=by rw [h3,hl];rfl
  have hwo : wOf s a = w:=by
   apply data_back
   rw [wOf_list,hd]
   exact take_word hw ht
  have hin:=wOf_in s a h1
  rw [hwo] at hin
  refine ⟨h1,(wAt_in s a h1).1,hin,hwo,?_,fun c' hc'=>?_⟩
  · rw [← List.drop_drop,hd]
    exact List.drop_left' rfl
  · rw [h5]
    simp only [beq_eq_false_iff_ne]
    omega
theorem noLet_bl {n : Nat} {c : UInt8} {tl : List UInt8} (hc : isLet c = false) : noLet (bl n ++ c :: tl):=by
 intro d r h
 cases n with
 | zero =>
  rw [bl_zero,List.nil_append] at h
  cases h;exact hc
 | succ n =>
  rw [bl_succ,List.cons_append] at h
  cases h
  decide
def isSg (b : UInt8) : Bool:=[46,58,44,123,125,33,63,43,38].contains b
def F (n : Nat) (b : UInt8) : List UInt8:=if isSg b = true then bl n ++ b :: bl n else [b]
def fl (n : Nat) (l : List UInt8) : List UInt8:=l.flatMap (F n)
theorem fl_app (n : Nat) (u v : List UInt8) : fl n (u ++ v) = fl n u ++ fl n v:=by simp [fl]
theorem fl_nil (n : Nat) : fl n [] = []:=rfl
theorem fl_sg {n : Nat} {c : UInt8} (h : isSg c = true) (l : List UInt8) : fl n (c :: l) = bl n ++ c :: (bl n ++ fl n l):=by
 simp [fl,F,h]
theorem fl_no {n : Nat} {c : UInt8} (h : isSg c = false) (l : List UInt8) : fl n (c :: l) = c :: fl n l:=by
 simp [fl,F,h]
theorem fl_zero : ∀ l : List UInt8,fl 0 l = l
 | []=>rfl
 | b :: l=>by
  have:=fl_zero l
  simp only [fl,List.flatMap_cons,F,bl_zero,List.nil_append,ite_self] at this ⊢
  rw [this];rfl
theorem fl_let {n : Nat} : ∀ {l : List UInt8},(∀ b ∈ l,isLet b = true) → fl n l = l
 | [],_=>rfl
 | b :: l,h=>by
  have hs : isSg b = false:=by
   have hm : b ∈ abcS.data.toList:=by simpa [isLet] using h b (by simp)
   have : ∀ b ∈ abcS.data.toList,isSg b = false:=by decide
   exact this b hm
  rw [fl_no hs,fl_let fun b hb=>h b (by simp [hb])]
theorem sort_facts {so : Int} (h1 : 1 ≤ so) (h3 : so ≤ 3) : idxS (sortW so).toList sortsL 0 = so ∧ (∀ b ∈ (sortW so).data.toList,isLet b = true) ∧ 0 < (sortW so).size:=by
 rcases (show so = 1 ∨ so = 2 ∨ so = 3 by omega) with rfl | rfl | rfl <;> exact ⟨by decide +kernel,by decide +kernel,by decide⟩
end Go.Proofs.YtdcplkefmpjppaaDoor.GG
