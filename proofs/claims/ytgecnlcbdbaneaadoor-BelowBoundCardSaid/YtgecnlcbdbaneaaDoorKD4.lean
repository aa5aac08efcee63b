/- What is struck: plain. -/
import Derived.Test.YtgecnlcbdbaneaaDoorKD3
set_option linter.unusedVariables false
set_option linter.unusedSimpArgs false
namespace Go.Proofs.YtgecnlcbdbaneaaDoor
open Go.RowKit Go.Sw

def fAt (F : List Bool) (t : Int) : Bool:=F.getD t.toNat false
def badN (F : List Bool) (to : List Int) : Nat:=(to.filter (fAt F)).length
def toAt (s : Bd) (j : Nat) : List Int:=(s.ns.getD j n0).to
def strC (s : Bd) (F : List Bool) (j : Nat) : Bool := !(F.getD j false) && (decide (0 < badN F (toAt s j)) && (!(s.sm.getD j false) || decide (badN F (toAt s j) = (toAt s j).length)))
def strN (s : Bd) (F : List Bool) (j : Nat) : List Bool:=if strC s F j = true then F.set j true else F
def strR (s : Bd) (F : List Bool) : List Bool:=(List.range s.ks.length).foldl (strN s) F
def strF (s : Bd) : Nat → List Bool → List Bool
 | 0,F=>F
 | f + 1,F=>if strR s F = F then F else strF s f (strR s F)
def strikeP (s : Bd) : List Bool:=strF s (s.ks.length + 1) s.fl
def cntB : List Bool → Nat
 | []=>0
 | x :: l=>(if x = true then 1 else 0) + cntB l
theorem cnt_le : ∀ l : List Bool,cntB l ≤ l.length
 | []=>Nat.le_refl _
 | x :: l=>by
  have:=cnt_le l
  simp only [cntB,List.length_cons]
  split <;> omega
theorem cnt_set : ∀ {l : List Bool} {j : Nat},j < l.length → l.getD j false = false → cntB (l.set j true) = cntB l + 1
 | [],_,h,_=>by simp at h
 | x :: l,0,_,h=>by
  simp at h
  subst h
  simp [cntB]
  omega
 | x :: l,j + 1,h,h'=>by
  have:=cnt_set (l:=l) (j:=j) (by simpa using h) (by simpa using h')
  simp only [List.set_cons_succ,cntB,this]
  omega
def Rule (s : Bd) (B : Nat → Prop) (j : Nat) : Prop:=(s.sm.getD j false = false ∧ ∃ t ∈ toAt s j,B t.toNat) ∨ (s.sm.getD j false = true ∧ toAt s j ≠ [] ∧ ∀ t ∈ toAt s j,B t.toNat)
structure StrOK (s : Bd) (F F' : List Bool) : Prop where
 ln : F'.length = F.length
 up : ∀ j,F.getD j false = true → F'.getD j false = true
 mn : ∀ B : Nat → Prop,(∀ j,F.getD j false = true → B j) → (∀ j,j < s.ks.length → Rule s B j → B j) → ∀ j,F'.getD j false = true → B j
theorem StrOK.refl (s : Bd) (F : List Bool) : StrOK s F F:=⟨rfl,fun _ h=>h,fun _ h _=>h⟩
theorem StrOK.trans {s : Bd} {F G H : List Bool} (h : StrOK s F G) (k : StrOK s G H) : StrOK s F H:=⟨k.ln.trans h.ln,fun j hj=>k.up j (h.up j hj),fun B h1 h2=>k.mn B (h.mn B h1 h2) h2⟩
theorem getB_set {l : List Bool} {i j : Nat} {v : Bool} (hi : i < l.length) : (l.set i v).getD j false = if j = i then v else l.getD j false:=by
 by_cases h : j = i
 · subst h;simp [List.getD,hi]
 · rw [if_neg h];simp [List.getD,List.getElem?_set_ne (Ne.symm h)]
theorem StrOK.step {s : Bd} {F : List Bool} {j : Nat} (hj : j < F.length) (hn : j < s.ks.length) (hc : strC s F j = true) : StrOK s F (F.set j true):=by
 refine ⟨by simp,fun i hi=>?_,fun B h1 h2 i hi=>?_⟩
 · rw [getB_set hj];split
   · rfl
   · exact hi
 · rw [getB_set hj] at hi
   split at hi
   · rename_i e
     subst e
     refine h2 i hn ?_
     unfold strC at hc
     simp only [Bool.and_eq_true,Bool.or_eq_true,Bool.not_eq_true',decide_eq_true_eq] at hc
     obtain ⟨-,c1,c2⟩:=hc
     have hex : ∃ t ∈ toAt s i,fAt F t = true:=by
      unfold badN at c1
      obtain ⟨t,ht⟩:=List.exists_mem_of_length_pos c1
      exact ⟨t,(List.mem_filter.1 ht).1,(List.mem_filter.1 ht).2⟩
     cases hs : s.sm.getD i false with
     | false =>
      obtain ⟨t,ht,hf⟩:=hex
      exact .inl ⟨hs,t,ht,h1 _ hf⟩
     | true =>
      rw [hs] at c2
      have c2 : badN F (toAt s i) = (toAt s i).length:=by simpa using c2
      refine .inr ⟨hs,fun e=>?_,fun t ht=>h1 _ ?_⟩
      · obtain ⟨t,ht, -⟩:=hex
        rw [e] at ht;cases ht
      · unfold badN at c2
        exact (List.length_filter_eq_length_iff.1 c2) t ht
   · exact h1 i hi
theorem fold_str (s : Bd) : ∀ (l : List Nat) (F : List Bool),(∀ j ∈ l,j < F.length ∧ j < s.ks.length) → StrOK s F (l.foldl (strN s) F) ∧ (((∀ j ∈ l,strC s F j = false) ∧ l.foldl (strN s) F = F) ∨ cntB F < cntB (l.foldl (strN s) F))
 | [],F,_=>⟨StrOK.refl s F,.inl ⟨(fun _ h=>by cases h),rfl⟩⟩
 | j :: l,F,h=>by
  have hj:=h j (by simp)
  simp only [List.foldl_cons]
  by_cases hc : strC s F j = true
  · have e : strN s F j = F.set j true:=by unfold strN;rw [if_pos hc]
    rw [e]
    have ih:=fold_str s l (F.set j true) (fun i hi=>by have:=h i (by simp [hi]);simpa using this)
    have hf : F.getD j false = false:=by
     unfold strC at hc
     simp only [Bool.and_eq_true,Bool.not_eq_true'] at hc
     exact hc.1
    have hcnt:=cnt_set hj.1 hf
    refine ⟨(StrOK.step hj.1 hj.2 hc).trans ih.1,.inr ?_⟩
    rcases ih.2 with ⟨-,e⟩ | e
    · rw [e];omega
    · omega
  · have e : strN s F j = F:=by unfold strN;rw [if_neg hc]
    rw [e]
    have ih:=fold_str s l F (fun i hi=>h i (by simp [hi]))
    refine ⟨ih.1,?_⟩
    rcases ih.2 with ⟨h1,h2⟩ | h2
    · refine .inl ⟨fun i hi=>?_,h2⟩
      rcases List.mem_cons.1 hi with rfl | hi
      · simpa using hc
      · exact h1 i hi
    · exact .inr h2
theorem strF_ok (s : Bd) : ∀ (f : Nat) (F : List Bool),F.length = s.ks.length → s.ks.length + 1 ≤ f + cntB F → StrOK s F (strF s f F) ∧ ∀ j,j < s.ks.length → strC s (strF s f F) j = false
 | 0,F,hl,hf=>by
  have:=cnt_le F
  omega
 | f + 1,F,hl,hf=>by
  have h:=fold_str s (List.range s.ks.length) F (fun j hj=>by have:=List.mem_range.1 hj;omega)
  unfold strF
  by_cases he : strR s F = F
  · rw [if_pos he]
    refine ⟨StrOK.refl s F,fun j hj=>?_⟩
    rcases h.2 with ⟨h1, -⟩ | h2
    · exact h1 j (List.mem_range.2 hj)
    · unfold strR at he
      rw [he] at h2
      omega
  · rw [if_neg he]
    have h3 : cntB F < cntB (strR s F):=by
     rcases h.2 with ⟨-,h2⟩ | h2
     · exact absurd h2 he
     · exact h2
    have ih:=strF_ok s f (strR s F) (h.1.ln.trans hl) (by omega)
    exact ⟨h.1.trans ih.1,ih.2⟩
theorem strike_ok {s : Bd} (hl : s.fl.length = s.ks.length) : StrOK s s.fl (strikeP s) ∧ ∀ j,j < s.ks.length → strC s (strikeP s) j = false:=strF_ok s _ _ hl (by omega)
def sgN (s : Bd) (F : List Bool) (j : Nat) : Nd :=
 if F.getD j false = true then n0 else ⟨(s.ns.getD j n0).k,(s.ns.getD j n0).so,(((s.ns.getD j n0).ls.zip (s.ns.getD j n0).to).filter fun p => !fAt F p.2).map (·.1),(s.ns.getD j n0).to.filter fun t => !fAt F t⟩
def SG (s : Bd) (F : List Bool) : List Nd:=(List.range s.ks.length).map (sgN s F)
theorem SG_len (s : Bd) (F : List Bool) : (SG s F).length = s.ks.length:=by simp [SG]
theorem SG_at {s : Bd} {F : List Bool} {j : Nat} (hj : j < s.ks.length) : gAt (SG s F) (j : Int) = sgN s F j:=by
 unfold gAt SG
 rw [List.getD_eq_getElem?_getD,Int.toNat_natCast,List.getElem?_map,List.getElem?_range hj]
 rfl
theorem zip_filter {α β : Type} (p : β → Bool) : ∀ (l : List α) (m : List β),l.length = m.length → m.filter p = ((l.zip m).filter fun x=>p x.2).map (·.2)
 | [],[],_=>rfl
 | [],_ :: _,h=>by simp at h
 | _ :: _,[],h=>by simp at h
 | a :: l,b :: m,h=>by
  have ih:=zip_filter p l m (by simpa using h)
  simp only [List.zip_cons_cons,List.filter_cons]
  cases p b <;> simp [ih]
theorem zip_at {P : List (ByteArray × Int)} (hn : (P.map (·.1)).Nodup) {l : ByteArray} {t : Int} (h : (l,t) ∈ P) : (P.map (·.2)).getD (ixL l (P.map (·.1))).toNat 0 = t:=by
 obtain ⟨i,hi,e⟩:=List.mem_iff_getElem.1 h
 have h1 : (P.map (·.1))[i]? = some l:=by simp [hi,e]
 rw [ixL_at hn h1]
 simp [List.getD,hi,e]
end Go.Proofs.YtgecnlcbdbaneaaDoor
