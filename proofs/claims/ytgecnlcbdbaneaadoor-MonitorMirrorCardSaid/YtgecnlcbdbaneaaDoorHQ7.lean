/- A type in the place of a name: what it does; what stays right. -/
import Derived.Test.YtgecnlcbdbaneaaDoorHQ6
import Derived.Test.YtgecnlcbdbaneaaDoorHQ4
import Derived.Test.YtgecnlcbdbaneaaDoorTE
import Derived.Test.YtgecnlcbdbaneaaDoorH21
set_option linter.unusedVariables false
set_option linter.unusedSimpArgs false
namespace Go.Proofs.YtgecnlcbdbaneaaDoor
open Go.RowKit Go.Sw

theorem ok_shaped {x : Tp} (h : OkT x) : shapedB x = true:=by
 cases h with
 | nil=>exact shaped_of (.inl ⟨rfl,rfl,rfl,rfl⟩)
 | pass k so x hk h1 h3 hx=>exact shaped_of (.inr (.inl ⟨hk,⟨h1,h3⟩,rfl,rfl⟩))
 | give k x y hk hx hy=>exact shaped_of (.inr (.inr (.inl ⟨hk,rfl,rfl,rfl⟩)))
 | pick k ls l hk hl hn h=>exact shaped_of (.inr (.inr (.inr ⟨hk,rfl,hl,hn⟩)))
 | bind nm x hn hx=>simp [shapedB,kindOf,shapeB,sortB,hn]
 | var nm hn=>simp [shapedB,kindOf,shapeB,sortB,hn]
def Chk2 (x : Tp) : Prop := ∀ (b : List ByteArray) (left : Int),clT x b → cnT x → ((tchk x b left).1 = 0 ∨ (tchk x b left).1 = 2) ∧ ((x.size : Int) ≤ left → (tchk x b left).1 = 0 ∧ (tchk x b left).2 = left - x.size)
theorem chks2 : ∀ {l : List Tp},(∀ x ∈ l,Chk2 x) → ∀ (b : List ByteArray) (left : Int),clTs l b → cnTs l → ((tchks l b left).1 = 0 ∨ (tchks l b left).1 = 2) ∧ ((Tp.sizes l : Int) ≤ left → (tchks l b left).1 = 0 ∧ (tchks l b left).2 = left - Tp.sizes l)
 | [],_,b,left,_,_=>by simp [tchks,Tp.sizes]
 | x :: l,h,b,left,hcl,hcn=>by
  unfold clTs at hcl
  unfold cnTs at hcn
  have h1:=h x (by simp) b left hcl.1 hcn.1
  have h2:=fun lf=>chks2 (l:=l) (fun y hy=>h y (by simp [hy])) b lf hcl.2 hcn.2
  unfold tchks
  by_cases h0 : (tchk x b left).1 = 0
  · rw [if_neg (by simpa using h0)]
    refine ⟨(h2 _).1,fun hs=>?_⟩
    simp only [Tp.sizes] at hs ⊢
    have h3:=h1.2 (by omega)
    have h4:=(h2 (tchk x b left).2).2 (by omega)
    exact ⟨h4.1,by omega⟩
  · rw [if_pos (by simpa using h0)]
    refine ⟨h1.1,fun hs=>?_⟩
    simp only [Tp.sizes] at hs
    exact absurd (h1.2 (by omega)).1 h0
theorem chk2_of {x : Tp} (hx : OkT x) : Chk2 x:=by
 have node : ∀ (k so : Int) (nm : ByteArray) (ls : List ByteArray) (l : List Tp),shapedB (.mk k so nm ls l) = true → (k = 9 → l = []) → (∀ x ∈ l,Chk2 x) → Chk2 (.mk k so nm ls l):=fun k so nm ls l hs h9l ih b left hcl hcn=>by
  unfold clT at hcl
  unfold cnT at hcn
  unfold tchk
  by_cases hneg : left - 1 < 0
  · rw [if_pos hneg]
    exact ⟨.inr rfl,fun h=>by simp only [Tp.size] at h;omega⟩
  rw [if_neg hneg,if_neg (by rw [hs];decide)]
  by_cases h9 : k = 9
  · rw [if_pos h9,if_neg (by rw [hcl.1 h9];decide)]
    have hl:=h9l h9
    subst hl
    simp [tchks,Tp.size,Tp.sizes]
  rw [if_neg h9]
  by_cases h8 : k = 8
  · rw [if_pos h8,if_neg (hcn.1 h8)]
    rw [if_pos h8] at hcl
    have:=chks2 ih (b ++ [nm]) (left - 1) hcl.2 hcn.2
    refine ⟨this.1,fun h=>?_⟩
    simp only [Tp.size] at h ⊢
    have:=this.2 (by omega)
    exact ⟨this.1,by omega⟩
  · rw [if_neg h8]
    rw [if_neg h8] at hcl
    have:=chks2 ih b (left - 1) hcl.2 hcn.2
    refine ⟨this.1,fun h=>?_⟩
    simp only [Tp.size] at h ⊢
    have:=this.2 (by omega)
    exact ⟨this.1,by omega⟩
 have hsx:=ok_shaped hx
 induction hx with
 | nil=>exact node _ _ _ _ _ hsx (fun _=>rfl) (fun x hx=>by cases hx)
 | pass k so x hk h1 h3 hx ih=>exact node _ _ _ _ _ hsx (fun h=>by omega) (fun y hy=>by rw [show y = x by simpa using hy];exact ih (ok_shaped hx))
 | give k x y hk hx hy ih1 ih2=>exact node _ _ _ _ _ hsx (fun h=>by omega) (fun z hz=>by
  rcases List.mem_cons.1 hz with rfl | hz
  · exact ih1 (ok_shaped hx)
  · rw [show z = y by simpa using hz];exact ih2 (ok_shaped hy))
 | pick k ls l hk hl hn h ih=>exact node _ _ _ _ _ hsx (fun h=>by omega) (fun x hx=>ih x hx (ok_shaped (h x hx)))
 | bind nm x hn hx ih=>exact node _ _ _ _ _ hsx (fun h=>by omega) (fun y hy=>by rw [show y = x by simpa using hy];exact ih (ok_shaped hx))
 | var nm hn=>exact node _ _ _ _ _ hsx (fun _=>rfl) (fun x hx=>by cases hx)
theorem check_ok {x : Tp} (hx : OkT x) (hcl : clT x []) (hcn : cnT x) : (tCheck x = 0 ∨ tCheck x = 2) ∧ (x.size ≤ 60 → tCheck x = 0):=by
 have:=chk2_of hx [] 60 hcl hcn
 exact ⟨this.1,fun h=>(this.2 (by omega)).1⟩
theorem check_all {x : Tp} (h : tCheck x = 0) : OkT x ∧ clT x [] ∧ cnT x ∧ x.size ≤ 60:=by
 have h1:=ok_check h
 have h2:=cl_tchk x [] 60 h
 exact ⟨h1.1,h2.1,h2.2,h1.2⟩
end Go.Proofs.YtgecnlcbdbaneaaDoor
/- values.Check; a symbolic walk. -/
-- TYPESE
namespace Go.Proofs.YtgecnlcbdbaneaaDoor
open Go.RowKit Go.Sw

def VSok (Γ : Gl) (f : ByteArray → Bool) : Prop := ∀ s : ByteArray,s.size ≤ 100 → DFn Tryd.prog Γ 93 [sD s] (bD (f s))
def emB (s : ByteArray) : Bool:=s.toList == ByteArray.toList ⟨#[]⟩
def vchk (f : ByteArray → Bool) (s n : Int) (S : ByteArray) : Int :=
 if s = 1 then (if emB S = true then 0 else 1)
 else if s = 2 then (if emB S = true then (if n = 0 then 0 else if n = 1 then 0 else 1) else 1)
 else if s = 3 then (if n = 0 then (if 100 < S.size then 2 else if f S = true then 0 else 1) else 1)
 else 1
set_option maxHeartbeats 8000000 in
set_option maxRecDepth 100000 in
theorem vcheck_fn (Γ : Gl) {f : ByteArray → Bool} (hv : VSok Γ f) (s n : Int) (S : ByteArray) : DFn Tryd.prog Γ 81 [.agg [iD s,iD n,sD S]] (iD (vchk f s n S)):=by
 obtain ⟨R,hR⟩ : ∃ R,vchk f s n S = R:=⟨_,rfl⟩
 rw [hR]
 unfold vchk emB at hR
 by_cases h1 : s = 1
 · subst h1
   rw [if_pos rfl] at hR
   cases g2 : (S.toList == ByteArray.toList ⟨#[]⟩) with
   | true =>
    rw [g2,if_pos rfl] at hR
    subst hR
    refine fn_of_swp (N:=48) Tryd.func81 rfl (by decide) rfl rfl (by simp) (fun C h0=>?_)
    simp only [argE]
    repeat' (first|(with_reducible apply zz1)|((with_reducible refine zz4 ?_ ?_);rfl)|((with_reducible refine zz2 ?_ (fun K' hK'=>?_));rfl;simp only [WE,simprocAttr,g2,Bool.not_true,Bool.not_false,cond_true,cond_false,bne_self_eq_false,beq_self_eq_true];(repeat (refine And.intro ?_ ?_;focus (clear hK';intros;simp_all;done)));(try (refine hK' _ _ ?_;clear hK' K')))|((with_reducible refine zz3 ?_ ?_);rfl;refine ⟨_,rfl,fun h=>?_,fun h=>?_⟩ <;> try exact absurd h (by decide)))
    simp only [Kret,retL,retOne,oneV,WE,simprocAttr]
   | false =>
    rw [g2,if_neg (by decide)] at hR
    subst hR
    refine fn_of_swp (N:=48) Tryd.func81 rfl (by decide) rfl rfl (by simp) (fun C h0=>?_)
    simp only [argE]
    repeat' (first|(with_reducible apply zz1)|((with_reducible refine zz4 ?_ ?_);rfl)|((with_reducible refine zz2 ?_ (fun K' hK'=>?_));rfl;simp only [WE,simprocAttr,g2,Bool.not_true,Bool.not_false,cond_true,cond_false,bne_self_eq_false,beq_self_eq_true,Int.reduceBEq];(repeat (refine And.intro ?_ ?_;focus (clear hK';intros;simp_all;done)));(try (refine hK' _ _ ?_;clear hK' K')))|((with_reducible refine zz3 ?_ ?_);rfl;refine ⟨_,rfl,fun h=>?_,fun h=>?_⟩ <;> try exact absurd h (by decide)))
    simp only [Kret,retL,retOne,oneV,WE,simprocAttr]
 have g1 : (s == 1) = false:=by simpa using h1
 rw [if_neg h1] at hR
 by_cases h2 : s = 2
 · subst h2
   rw [if_pos rfl] at hR
   cases g2 : (S.toList == ByteArray.toList ⟨#[]⟩) with
   | true =>
    rw [g2,if_pos rfl] at hR
    by_cases h4 : n = 0
    · subst h4
      rw [if_pos rfl] at hR
      subst hR
      refine fn_of_swp (N:=48) Tryd.func81 rfl (by decide) rfl rfl (by simp) (fun C h0=>?_)
      simp only [argE]
      repeat' (first|(with_reducible apply zz1)|((with_reducible refine zz4 ?_ ?_);rfl)|((with_reducible refine zz2 ?_ (fun K' hK'=>?_));rfl;simp only [WE,simprocAttr,g2,Bool.not_true,Bool.not_false,cond_true,cond_false,bne_self_eq_false,beq_self_eq_true,Int.reduceBEq];(repeat (refine And.intro ?_ ?_;focus (clear hK';intros;simp_all;done)));(try (refine hK' _ _ ?_;clear hK' K')))|((with_reducible refine zz3 ?_ ?_);rfl;refine ⟨_,rfl,fun h=>?_,fun h=>?_⟩ <;> try exact absurd h (by decide)))
      simp only [Kret,retL,retOne,oneV,WE,simprocAttr]
    have g4 : (n == 0) = false:=by simpa using h4
    rw [if_neg h4] at hR
    by_cases h5 : n = 1
    · subst h5
      rw [if_pos rfl] at hR
      subst hR
      refine fn_of_swp (N:=48) Tryd.func81 rfl (by decide) rfl rfl (by simp) (fun C h0=>?_)
      simp only [argE]
      repeat' (first|(with_reducible apply zz1)|((with_reducible refine zz4 ?_ ?_);rfl)|((with_reducible refine zz2 ?_ (fun K' hK'=>?_));rfl;simp only [WE,simprocAttr,g2,g4,Bool.not_true,Bool.not_false,cond_true,cond_false,bne_self_eq_false,beq_self_eq_true,Int.reduceBEq];(repeat (refine And.intro ?_ ?_;focus (clear hK';intros;simp_all;done)));(try (refine hK' _ _ ?_;clear hK' K')))|((with_reducible refine zz3 ?_ ?_);rfl;refine ⟨_,rfl,fun h=>?_,fun h=>?_⟩ <;> try exact absurd h (by decide)))
      simp only [Kret,retL,retOne,oneV,WE,simprocAttr]
    have g5 : (n == 1) = false:=by simpa using h5
    rw [if_neg h5] at hR
    subst hR
    refine fn_of_swp (N:=48) Tryd.func81 rfl (by decide) rfl rfl (by simp) (fun C h0=>?_)
    simp only [argE]
    repeat' (first|(with_reducible apply zz1)|((with_reducible refine zz4 ?_ ?_);rfl)|((with_reducible refine zz2 ?_ (fun K' hK'=>?_));rfl;simp only [WE,simprocAttr,g2,g4,g5,Bool.not_true,Bool.not_false,cond_true,cond_false,bne_self_eq_false,beq_self_eq_true,Int.reduceBEq];(repeat (refine And.intro ?_ ?_;focus (clear hK';intros;simp_all;done)));(try (refine hK' _ _ ?_;clear hK' K')))|((with_reducible refine zz3 ?_ ?_);rfl;refine ⟨_,rfl,fun h=>?_,fun h=>?_⟩ <;> try exact absurd h (by decide)))
    simp only [Kret,retL,retOne,oneV,WE,simprocAttr]
   | false =>
    rw [g2,if_neg (by decide)] at hR
    subst hR
    refine fn_of_swp (N:=48) Tryd.func81 rfl (by decide) rfl rfl (by simp) (fun C h0=>?_)
    simp only [argE]
    repeat' (first|(with_reducible apply zz1)|((with_reducible refine zz4 ?_ ?_);rfl)|((with_reducible refine zz2 ?_ (fun K' hK'=>?_));rfl;simp only [WE,simprocAttr,g2,Bool.not_true,Bool.not_false,cond_true,cond_false,bne_self_eq_false,beq_self_eq_true,Int.reduceBEq];(repeat (refine And.intro ?_ ?_;focus (clear hK';intros;simp_all;done)));(try (refine hK' _ _ ?_;clear hK' K')))|((with_reducible refine zz3 ?_ ?_);rfl;refine ⟨_,rfl,fun h=>?_,fun h=>?_⟩ <;> try exact absurd h (by decide)))
    simp only [Kret,retL,retOne,oneV,WE,simprocAttr]
 have g2 : (s == 2) = false:=by simpa using h2
 rw [if_neg h2] at hR
 by_cases h3 : s = 3
 · subst h3
   rw [if_pos rfl] at hR
   by_cases h4 : n = 0
   · subst h4
     rw [if_pos rfl] at hR
     by_cases h5 : 100 < S.size
     · have g5 : (100 : Int) < (S.size : Int):=by omega
       rw [if_pos h5] at hR
       subst hR
       refine fn_of_swp (N:=48) Tryd.func81 rfl (by decide) rfl rfl (by simp) (fun C h0=>?_)
       simp only [argE]
       repeat' (first|(with_reducible apply zz1)|((with_reducible refine zz4 ?_ ?_);rfl)|((with_reducible refine zz2 ?_ (fun K' hK'=>?_));rfl;simp only [WE,simprocAttr,g5,Bool.not_true,Bool.not_false,cond_true,cond_false,bne_self_eq_false,beq_self_eq_true,Int.reduceBEq];(repeat (refine And.intro ?_ ?_;focus (clear hK';intros;simp_all;done)));(try (refine hK' _ _ ?_;clear hK' K')))|((with_reducible refine zz3 ?_ ?_);rfl;refine ⟨_,rfl,fun h=>?_,fun h=>?_⟩ <;> try exact absurd h (by decide)))
       simp only [Kret,retL,retOne,oneV,WE,simprocAttr]
     have g5 : ¬ (100 : Int) < (S.size : Int):=by omega
     rw [if_neg h5] at hR
     have hf:=hv S (by omega)
     cases g6 : f S with
     | true =>
      rw [g6,if_pos rfl] at hR
      rw [g6] at hf
      subst hR
      refine fn_of_swp (N:=48) Tryd.func81 rfl (by decide) rfl rfl (by simp) (fun C h0=>?_)
      simp only [argE]
      repeat' (first|(with_reducible apply zz1)|((with_reducible refine zz4 ?_ ?_);rfl)|((with_reducible refine zz2 ?_ (fun K' hK'=>?_));rfl;simp only [WE,simprocAttr,g5,Bool.not_true,Bool.not_false,cond_true,cond_false,bne_self_eq_false,beq_self_eq_true,Int.reduceBEq];(repeat (refine And.intro ?_ ?_;focus (clear hK';intros;simp_all;done)));(try (refine hK' _ _ ?_;clear hK' K')))|((with_reducible refine zz3 ?_ ?_);rfl;refine ⟨_,rfl,fun h=>?_,fun h=>?_⟩ <;> try exact absurd h (by decide)))
      refine stop_callF rfl (by simp only [WE,simprocAttr]) rfl rfl (hf) ?_
      simp only [WE,simprocAttr,inX,dropS,Bool.not_true,Bool.not_false,cond_true,cond_false,bne_self_eq_false,beq_self_eq_true]
      (repeat (refine And.intro ?_ ?_;focus (clear hK';intros;simp_all;done)))
      (try (refine hK' _ _ ?_;clear hK' K'))
      repeat' (first|(with_reducible apply zz1)|((with_reducible refine zz4 ?_ ?_);rfl)|((with_reducible refine zz2 ?_ (fun K' hK'=>?_));rfl;simp only [WE,simprocAttr,Bool.not_true,Bool.not_false,cond_true,cond_false,bne_self_eq_false,beq_self_eq_true];(repeat (refine And.intro ?_ ?_;focus (clear hK';intros;simp_all;done)));(try (refine hK' _ _ ?_;clear hK' K')))|((with_reducible refine zz3 ?_ ?_);rfl;refine ⟨_,rfl,fun h=>?_,fun h=>?_⟩ <;> try exact absurd h (by decide)))
      simp only [Kret,retL,retOne,oneV,WE,simprocAttr]
     | false =>
      rw [g6,if_neg (by decide)] at hR
      rw [g6] at hf
      subst hR
      refine fn_of_swp (N:=48) Tryd.func81 rfl (by decide) rfl rfl (by simp) (fun C h0=>?_)
      simp only [argE]
      repeat' (first|(with_reducible apply zz1)|((with_reducible refine zz4 ?_ ?_);rfl)|((with_reducible refine zz2 ?_ (fun K' hK'=>?_));rfl;simp only [WE,simprocAttr,g5,Bool.not_true,Bool.not_false,cond_true,cond_false,bne_self_eq_false,beq_self_eq_true,Int.reduceBEq];(repeat (refine And.intro ?_ ?_;focus (clear hK';intros;simp_all;done)));(try (refine hK' _ _ ?_;clear hK' K')))|((with_reducible refine zz3 ?_ ?_);rfl;refine ⟨_,rfl,fun h=>?_,fun h=>?_⟩ <;> try exact absurd h (by decide)))
      refine stop_callF rfl (by simp only [WE,simprocAttr]) rfl rfl (hf) ?_
      simp only [WE,simprocAttr,inX,dropS,Bool.not_true,Bool.not_false,cond_true,cond_false,bne_self_eq_false,beq_self_eq_true]
      (repeat (refine And.intro ?_ ?_;focus (clear hK';intros;simp_all;done)))
      (try (refine hK' _ _ ?_;clear hK' K'))
      repeat' (first|(with_reducible apply zz1)|((with_reducible refine zz4 ?_ ?_);rfl)|((with_reducible refine zz2 ?_ (fun K' hK'=>?_));rfl;simp only [WE,simprocAttr,Bool.not_true,Bool.not_false,cond_true,cond_false,bne_self_eq_false,beq_self_eq_true];(repeat (refine And.intro ?_ ?_;focus (clear hK';intros;simp_all;done)));(try (refine hK' _ _ ?_;clear hK' K')))|((with_reducible refine zz3 ?_ ?_);rfl;refine ⟨_,rfl,fun h=>?_,fun h=>?_⟩ <;> try exact absurd h (by decide)))
      simp only [Kret,retL,retOne,oneV,WE,simprocAttr]
   have g4 : (n == 0) = false:=by simpa using h4
   rw [if_neg h4] at hR
   subst hR
   refine fn_of_swp (N:=48) Tryd.func81 rfl (by decide) rfl rfl (by simp) (fun C h0=>?_)
   simp only [argE]
   repeat' (first|(with_reducible apply zz1)|((with_reducible refine zz4 ?_ ?_);rfl)|((with_reducible refine zz2 ?_ (fun K' hK'=>?_));rfl;simp only [WE,simprocAttr,g4,Bool.not_true,Bool.not_false,cond_true,cond_false,bne_self_eq_false,beq_self_eq_true,Int.reduceBEq];(repeat (refine And.intro ?_ ?_;focus (clear hK';intros;simp_all;done)));(try (refine hK' _ _ ?_;clear hK' K')))|((with_reducible refine zz3 ?_ ?_);rfl;refine ⟨_,rfl,fun h=>?_,fun h=>?_⟩ <;> try exact absurd h (by decide)))
   simp only [Kret,retL,retOne,oneV,WE,simprocAttr]
 have g3 : (s == 3) = false:=by simpa using h3
 rw [if_neg h3] at hR
 subst hR
 refine fn_of_swp (N:=48) Tryd.func81 rfl (by decide) rfl rfl (by simp) (fun C h0=>?_)
 simp only [argE]
 repeat' (first|(with_reducible apply zz1)|((with_reducible refine zz4 ?_ ?_);rfl)|((with_reducible refine zz2 ?_ (fun K' hK'=>?_));rfl;simp only [WE,simprocAttr,g1,g2,g3,Bool.not_true,Bool.not_false,cond_true,cond_false,bne_self_eq_false,beq_self_eq_true,Int.reduceBEq];(repeat (refine And.intro ?_ ?_;focus (clear hK';intros;simp_all;done)));(try (refine hK' _ _ ?_;clear hK' K')))|((with_reducible refine zz3 ?_ ?_);rfl;refine ⟨_,rfl,fun h=>?_,fun h=>?_⟩ <;> try exact absurd h (by decide)))
 simp only [Kret,retL,retOne,oneV,WE,simprocAttr]
structure Ev where
 kd : Int
 vs : Int
 vn : Int
 vS : ByteArray
 c : Tp
 lab : ByteArray
def evD (kd vs vn : Int) (vS : ByteArray) (c : Tp) (lab : ByteArray) : D:=match c with
 | .mk k so nm ls l=>.agg [iD kd,iD vs,iD vn,sD vS,iD k,iD so,sD nm,.slc (ls.map sD),.slc (Tp.ds l),sD lab]
def Ev.d (x : Ev) : D:=evD x.kd x.vs x.vn x.vS x.c x.lab
def EvFn (Γ : Gl) (kd vs vn : Int) (vS : ByteArray) (c : Tp) (lab : ByteArray) (r : Int) : Prop:=DFn Tryd.prog Γ 69 [evD kd vs vn vS c lab] (iD r)
end Go.Proofs.YtgecnlcbdbaneaaDoor
