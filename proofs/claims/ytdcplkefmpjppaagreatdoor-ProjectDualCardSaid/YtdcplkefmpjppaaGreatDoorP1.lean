/- What a role does; two of those, merged: plain. -/
import Derived.Test.YtdcplkefmpjppaaGreatDoorP0
import Derived.Test.YtdcplkefmpjppaaGreatDoorU6
set_option linter.unusedVariables false
set_option linter.unusedSimpArgs false
namespace Go.Proofs.YtdcplkefmpjppaaGreatDoor.GG
open Go.RowKit Go.Sw

inductive Lt where
 | mk (k : Int) (wi : ByteArray) (so : Int) (nm : ByteArray) (ls : List ByteArray) (kids : List Lt)
mutual
def Lt.d : Lt → D
 | .mk k wi so nm ls l=>.agg [.v (.int .i64 k),.v (.string wi),.v (.int .i64 so),.v (.string nm),.slc (ls.map fun b=>.v (.string b)),.slc (Lt.ds l)]
def Lt.ds : List Lt → List D
 | []=>[]
 | x :: l=>Lt.d x :: Lt.ds l
end
theorem Lt.ds_len : ∀ l : List Lt,(Lt.ds l).length = l.length
 | []=>rfl
 | x :: l=>by simp [Lt.ds,Lt.ds_len l]
theorem Lt.ds_map : ∀ l : List Lt,Lt.ds l = l.map Lt.d
 | []=>rfl
 | x :: l=>by simp [Lt.ds,Lt.ds_map l]
theorem Lt.ds_get (l : List Lt) (j : Nat) (x : Lt) (h : l[j]? = some x) : (Lt.ds l).getD j default = x.d:=by
 rw [Lt.ds_map];simp [List.getD,h]
theorem Lt.ds_app (a b : List Lt) : Lt.ds (a ++ b) = Lt.ds a ++ Lt.ds b:=by simp [Lt.ds_map]
mutual
def Lt.size : Lt → Nat
 | .mk _ _ _ _ _ l=>Lt.sizes l + 1
def Lt.sizes : List Lt → Nat
 | []=>0
 | x :: l=>x.size + Lt.sizes l
end
theorem Lt.size_pos : ∀ x : Lt,0 < x.size
 | .mk _ _ _ _ _ l=>by simp [Lt.size]
theorem Lt.size_mem : ∀ {l : List Lt} {x : Lt},x ∈ l → x.size ≤ Lt.sizes l
 | y :: l,x,h=>by
  unfold Lt.sizes
  rcases List.mem_cons.1 h with rfl | h
  · omega
  · have:=Lt.size_mem h;omega
theorem Lt.sizes_app (a b : List Lt) : Lt.sizes (a ++ b) = Lt.sizes a + Lt.sizes b:=by
 induction a with
 | nil=>simp [Lt.sizes]
 | cons x a ih=>simp only [List.cons_append,Lt.sizes,ih];omega
def Lt.zero : Lt:=.mk 0 noB 0 noB [] []

inductive OkL : Lt → Prop
 | nil : OkL (.mk 1 noB 0 noB [] [])
 | pass (k so : Int) (wi : ByteArray) (x : Lt) (hk : k = 2 ∨ k = 3) (hw : isRoleB wi = true) (h1 : 1 ≤ so) (h3 : so ≤ 3) (hx : OkL x) : OkL (.mk k wi so noB [] [x])
 | pick (k : Int) (wi : ByteArray) (ls : List ByteArray) (l : List Lt) (hk : k = 6 ∨ k = 7) (hw : isRoleB wi = true) (hl : labelsB ls = true) (hn : l.length = ls.length) (h : ∀ x ∈ l,OkL x) : OkL (.mk k wi 0 noB ls l)
 | bind (nm : ByteArray) (x : Lt) (hn : isVarB nm = true) (hx : OkL x) : OkL (.mk 8 noB 0 nm [] [x])
 | var (nm : ByteArray) (hn : isVarB nm = true) : OkL (.mk 9 noB 0 nm [] [])
theorem okL_kids {k : Int} {wi : ByteArray} {so : Int} {nm : ByteArray} {ls : List ByteArray} {l : List Lt} (h : OkL (.mk k wi so nm ls l)) : l.length ≤ 6 ∧ ls.length ≤ 6 ∧ ∀ x ∈ l,OkL x:=by
 cases h with
 | nil=>simp
 | pass _ _ _ x _ _ _ _ hx=>simpa using hx
 | pick _ _ _ _ _ _ hl hn hx=>exact ⟨by have:=labels_len hl;omega,labels_len hl,hx⟩
 | bind _ x _ hx=>simpa using hx
 | var=>simp

mutual
def sameP : Lt → Lt → Bool
 | .mk k wi so nm ls l,.mk k' wi' so' nm' ls' l'=>bif k == k' then (bif wi.toList == wi'.toList then (bif so == so' then (bif nm.toList == nm'.toList then (bif eqS ls ls' then samePs l l' else false) else false) else false) else false) else false
def samePs : List Lt → List Lt → Bool
 | [],[]=>true
 | x :: l,y :: l'=>bif sameP x y then samePs l l' else false
 | _,_=>false
end
mutual
theorem sameP_iff : ∀ (a b : Lt),sameP a b = true ↔ a = b
 | .mk k wi so nm ls l,.mk k' wi' so' nm' ls' l'=>by
  unfold sameP
  have:=samePs_iff l l'
  constructor
  · intro h
    simp only [Bool.cond_eq_true_distrib,Bool.cond_false_right,Bool.and_eq_true,beq_iff_eq] at h
    obtain ⟨h1,h2,h3,h4,h5,h6⟩:=h
    rw [h1,toList_inj h2,h3,toList_inj h4,eqS_iff.1 h5,this.1 h6]
  · intro h
    cases h
    simp [eqS_iff.2 rfl,this.2 rfl]
theorem samePs_iff : ∀ (a b : List Lt),samePs a b = true ↔ a = b
 | [],[]=>by simp [samePs]
 | [],_ :: _=>by simp [samePs]
 | _ :: _,[]=>by simp [samePs]
 | x :: l,y :: l'=>by
  unfold samePs
  have h1:=sameP_iff x y
  have h2:=samePs_iff l l'
  constructor
  · intro h
    simp only [Bool.cond_false_right,Bool.and_eq_true] at h
    rw [h1.1 h.1,h2.1 h.2]
  · intro h
    rw [List.cons.injEq] at h
    simp [h1.2 h.1,h2.2 h.2]
end
theorem samePs_len : ∀ {a b : List Lt},a.length ≠ b.length → samePs a b = false:=fun {a b} h=>by
 cases e : samePs a b with
 | false=>rfl
 | true=>exact absurd (congrArg List.length ((samePs_iff a b).1 e)) h

def getL : List ByteArray → List Lt → ByteArray → Option Lt
 | a :: ls,x :: l,s=>if s.toList = a.toList then some x else getL ls l s
 | _,_,_=>none
def omM (m : Lt → Lt → Option Lt) : Option Lt → Option Lt → Option Lt
 | none,y=>y
 | some x,none=>some x
 | some x,some y=>m x y
def allO {α : Type} (f : α → Option Lt) : List α → Option (List Lt)
 | []=>some []
 | x :: l=>match f x with
  | some y=>match allO f l with | some ys=>some (y :: ys) | none=>none
  | none=>none
def zipO (m : Lt → Lt → Option Lt) : List Lt → List Lt → Option (List Lt)
 | x :: l,y :: l'=>match m x y with
  | some z=>match zipO m l l' with | some zs=>some (z :: zs) | none=>none
  | none=>none
 | _,_=>some []
def mo1 (m : Lt → Lt → Option Lt) : Lt → Lt → Option Lt
 | .mk k wi so nm ls l,.mk k' wi' so' nm' ls' l' =>
  if k = k' ∧ wi.toList = wi'.toList ∧ so = so' ∧ nm.toList = nm'.toList ∧ (k = 6 → eqS ls ls' = true) then
   (if ls = [] then (match zipO m l l' with | some r=>some (.mk k wi so nm [] r) | none=>none)
   else match allO (fun s=>omM m (getL ls l s) (getL ls' l' s)) (uniL ls ls') with
    | some r=>if (uniL ls ls').length ≤ 6 then some (.mk k wi so nm (uniL ls ls') r) else none
    | none=>none)
  else none
theorem mo1_eq (m : Lt → Lt → Option Lt) (k : Int) (wi : ByteArray) (so : Int) (nm : ByteArray) (ls : List ByteArray) (l : List Lt) (k' : Int) (wi' : ByteArray) (so' : Int) (nm' : ByteArray) (ls' : List ByteArray) (l' : List Lt) : mo1 m (.mk k wi so nm ls l) (.mk k' wi' so' nm' ls' l') =
 if k = k' ∧ wi.toList = wi'.toList ∧ so = so' ∧ nm.toList = nm'.toList ∧ (k = 6 → eqS ls ls' = true) then
  (if ls = [] then (match zipO m l l' with | some r=>some (.mk k wi so nm [] r) | none=>none)
  else match allO (fun s=>omM m (getL ls l s) (getL ls' l' s)) (uniL ls ls') with
   | some r=>if (uniL ls ls').length ≤ 6 then some (.mk k wi so nm (uniL ls ls') r) else none
   | none=>none)
 else none:=rfl
def mo : Nat → Lt → Lt → Option Lt
 | 0,_,_=>none
 | n + 1,a,b=>if sameP a b = true then some a else mo1 (mo n) a b
def ms : Nat → Lt → Lt → Option Lt
 | 0,_,_=>none
 | n + 1,a,b=>mo1 (ms n) a b

theorem allO_some {α : Type} {f : α → Option Lt} : ∀ {l : List α} {r : List Lt},allO f l = some r ↔ r.length = l.length ∧ ∀ (j : Nat) x y,l[j]? = some x → r[j]? = some y → f x = some y
 | [], r=>by
  unfold allO
  constructor
  · intro h;cases h;exact ⟨rfl,fun j x y h=>by simp at h⟩
  · rintro ⟨h, -⟩
    rw [List.length_nil] at h
    rw [List.eq_nil_of_length_eq_zero h]
 | x :: l, r=>by
  unfold allO
  constructor
  · intro h
    cases hx : f x with
    | none=>rw [hx] at h;cases h
    | some y =>
     rw [hx] at h
     cases hl : allO f l with
     | none=>rw [hl] at h;cases h
     | some ys =>
      rw [hl] at h
      cases h
      obtain ⟨h1,h2⟩:=allO_some.1 hl
      refine ⟨by simp [h1],fun j a b ha hb=>?_⟩
      cases j with
      | zero=>simp at ha hb;rw [← ha, ← hb];exact hx
      | succ j=>exact h2 j a b (by simpa using ha) (by simpa using hb)
  · rintro ⟨h1,h2⟩
    match r,h1 with
    | y :: ys,h1 =>
     rw [h2 0 x y rfl rfl,allO_some.2 ⟨by simpa using h1,fun j a b ha hb=>h2 (j + 1) a b (by simpa using ha) (by simpa using hb)⟩]
theorem allO_congr {α : Type} {f g : α → Option Lt} : ∀ {l : List α},(∀ x ∈ l,f x = g x) → allO f l = allO g l
 | [],_=>rfl
 | x :: l,h=>by
  unfold allO
  rw [h x (by simp),allO_congr fun y hy=>h y (by simp [hy])]
theorem allO_take {α : Type} {f : α → Option Lt} : ∀ {l : List α} {j : Nat} {x : α} {r : List Lt},l[j]? = some x → allO f (l.take j) = some r → allO f (l.take (j + 1)) = match f x with | some y=>some (r ++ [y]) | none=>none
 | a :: l,0,x,r,h,h'=>by
  simp at h;subst h
  simp only [List.take_zero,allO] at h'
  cases h'
  simp only [List.take_succ_cons,List.take_zero,allO]
  cases f a <;> rfl
 | a :: l,j + 1,x,r,h,h'=>by
  simp only [List.take_succ_cons] at h' ⊢
  unfold allO at h' ⊢
  cases ha : f a with
  | none=>rw [ha] at h';cases h'
  | some y =>
   rw [ha] at h'
   cases hl : allO f (l.take j) with
   | none=>rw [hl] at h';cases h'
   | some ys =>
    rw [hl] at h'
    cases h'
    simp only
    rw [allO_take (by simpa using h) hl]
    cases f x <;> rfl
theorem allO_none {α : Type} {f : α → Option Lt} : ∀ {l : List α} {j : Nat},allO f (l.take j) = none → allO f l = none
 | [],j,h=>by simp [allO] at h
 | a :: l,0,h=>by simp [allO] at h
 | a :: l,j + 1,h=>by
  simp only [List.take_succ_cons] at h
  unfold allO at h ⊢
  cases ha : f a with
  | none=>rfl
  | some y =>
   rw [ha] at h
   simp only at h ⊢
   cases hl : allO f (l.take j) with
   | none=>rw [allO_none hl]
   | some ys=>rw [hl] at h;cases h
theorem getL_some : ∀ {ls : List ByteArray} {l : List Lt} {s : ByteArray} {x : Lt},getL ls l s = some x → ∃ j,ls[j]? = some s ∧ l[j]? = some x ∧ s ∉ ls.take j
 | [],l,s,x,h=>by simp [getL] at h
 | a :: ls,[],s,x,h=>by simp [getL] at h
 | a :: ls,y :: l,s,x,h=>by
  unfold getL at h
  by_cases e : s.toList = a.toList
  · rw [if_pos e] at h
    cases h
    exact ⟨0,by rw [toList_inj e];rfl,rfl,by simp⟩
  · rw [if_neg e] at h
    obtain ⟨j,h1,h2,h3⟩:=getL_some h
    refine ⟨j + 1,by simpa using h1,by simpa using h2,?_⟩
    rw [List.take_succ_cons]
    simp [h3,show s ≠ a from fun q=>e (by rw [q])]
theorem getL_none : ∀ {ls : List ByteArray} {l : List Lt} {s : ByteArray},ls.length = l.length → (getL ls l s = none ↔ s ∉ ls)
 | [],[],s,h=>by simp [getL]
 | a :: ls,y :: l,s,h=>by
  unfold getL
  by_cases e : s.toList = a.toList
  · rw [if_pos e];simp [toList_inj e]
  · rw [if_neg e,getL_none (by simpa using h)]
    simp [show s ≠ a from fun q=>e (by rw [q])]
theorem getL_at : ∀ {ls : List ByteArray} {l : List Lt} {j : Nat} {s : ByteArray} {x : Lt},ls[j]? = some s → l[j]? = some x → s ∉ ls.take j → getL ls l s = some x
 | a :: ls,y :: l,0,s,x,h1,h2,h3=>by
  simp at h1 h2;subst h1 h2
  unfold getL;rw [if_pos rfl]
 | a :: ls,y :: l,j + 1,s,x,h1,h2,h3=>by
  rw [List.take_succ_cons] at h3
  simp only [List.mem_cons,not_or] at h3
  unfold getL
  rw [if_neg (fun q=>h3.1 (toList_inj q))]
  exact getL_at (by simpa using h1) (by simpa using h2) h3.2
end Go.Proofs.YtdcplkefmpjppaaGreatDoor.GG
