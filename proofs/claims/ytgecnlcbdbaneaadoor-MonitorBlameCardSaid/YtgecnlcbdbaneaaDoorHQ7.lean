/- A type in the place of a name: what it does; what stays right. -/
import Derived.Test.YtgecnlcbdbaneaaDoorHQ6
import Derived.Test.YtgecnlcbdbaneaaDoorH16
set_option linter.unusedVariables false
set_option linter.unusedSimpArgs false
namespace Go.Proofs.YtgecnlcbdbaneaaDoor
open Go.RowKit Go.Sw

mutual
def freeB : Tp → ByteArray → Bool
 | .mk k so nm ls l,a=>if k = 9 then nm.toList == a.toList else if k = 8 ∧ nm.toList = a.toList then false else freeBs l a
def freeBs : List Tp → ByteArray → Bool
 | [],_=>false
 | x :: l,a=>if freeB x a = true then true else freeBs l a
end
def freeF (l : List Tp) (a : ByteArray) : Bool:=match l with | []=>false | x :: _=>freeB x a
mutual
def putP (a : ByteArray) (s : Tp) (c : ByteArray) : Tp → Tp × Bool
 | .mk k so nm ls l=>if k = 9 ∧ nm.toList = a.toList then (s,true) else if k = 8 ∧ nm.toList = a.toList then (.mk k so nm ls l,true)
  else if k = 8 ∧ nm.toList = c.toList ∧ freeF l a = true then (.mk k so nm ls l,false)
  else match putL a s c l with | some l'=>(.mk k so nm ls l',true) | none=>(.mk k so nm ls l,false)
def putL (a : ByteArray) (s : Tp) (c : ByteArray) : List Tp → Option (List Tp)
 | []=>some []
 | x :: l=>if (putP a s c x).2 = true then (putL a s c l).map fun l'=>(putP a s c x).1 :: l' else none
end
theorem putL_some {a : ByteArray} {s : Tp} {c : ByteArray} : ∀ {l l' : List Tp},putL a s c l = some l' → (∀ x ∈ l,(putP a s c x).2 = true) ∧ l' = l.map fun x=>(putP a s c x).1
 | [],l',h=>by
  unfold putL at h
  cases h
  exact ⟨fun x hx=>(by cases hx),rfl⟩
 | x :: l,l',h=>by
  unfold putL at h
  split at h
  · rename_i hx
    cases hl : putL a s c l with
    | none=>rw [hl] at h;cases h
    | some l2 =>
     rw [hl] at h
     cases h
     have ih:=putL_some hl
     refine ⟨fun y hy=>?_,by rw [ih.2];rfl⟩
     rcases List.mem_cons.1 hy with rfl | hy
     · exact hx
     · exact ih.1 y hy
  · cases h
theorem putP_node {a : ByteArray} {s : Tp} {c : ByteArray} {k so : Int} {nm : ByteArray} {ls : List ByteArray} {l : List Tp} (h9 : k ≠ 9) (h8 : k ≠ 8) (h : (putP a s c (.mk k so nm ls l)).2 = true) :
 (∀ x ∈ l,(putP a s c x).2 = true) ∧ (putP a s c (.mk k so nm ls l)).1 = .mk k so nm ls (l.map fun x=>(putP a s c x).1):=by
 rw [putP] at h ⊢
 rw [if_neg (fun h=>h9 h.1),if_neg (fun h=>h8 h.1),if_neg (fun h=>h8 h.1)] at h ⊢
 cases hl : putL a s c l with
 | none=>rw [hl] at h;cases h
 | some l' =>
  have:=putL_some hl
  exact ⟨this.1,by rw [← this.2]⟩
theorem putP_bind {a : ByteArray} {s : Tp} {c : ByteArray} {so : Int} {nm : ByteArray} {ls : List ByteArray} {x : Tp} (h : (putP a s c (.mk 8 so nm ls [x])).2 = true) :
 (nm = a ∧ (putP a s c (.mk 8 so nm ls [x])).1 = .mk 8 so nm ls [x]) ∨ (nm ≠ a ∧ (nm = c → freeB x a = false) ∧ (putP a s c x).2 = true ∧ (putP a s c (.mk 8 so nm ls [x])).1 = .mk 8 so nm ls [(putP a s c x).1]):=by
 rw [putP] at h ⊢
 rw [if_neg (fun h=>absurd h.1 (by decide))] at h ⊢
 by_cases ha : nm.toList = a.toList
 · rw [if_pos ⟨rfl,ha⟩]
   exact .inl ⟨tl_inj ha,rfl⟩
 · rw [if_neg (fun h=>ha h.2)] at h ⊢
   by_cases hc : nm.toList = c.toList ∧ freeF [x] a = true
   · rw [if_pos ⟨rfl,hc⟩] at h;cases h
   · rw [if_neg (fun h=>hc h.2)] at h ⊢
     cases hl : putL a s c [x] with
     | none=>rw [hl] at h;cases h
     | some l' =>
      have:=putL_some hl
      refine .inr ⟨fun e=>ha (congrArg _ e),fun e=>?_,this.1 x (by simp),by rw [this.2];rfl⟩
      cases hf : freeB x a with
      | false=>rfl
      | true=>exact absurd ⟨congrArg _ e,hf⟩ hc
theorem putP_var {a : ByteArray} {s : Tp} {c : ByteArray} {so : Int} {nm : ByteArray} {ls : List ByteArray} : putP a s c (.mk 9 so nm ls []) = if nm = a then (s,true) else (.mk 9 so nm ls [],true):=by
 rw [putP]
 by_cases ha : nm = a
 · rw [if_pos ⟨rfl,congrArg _ ha⟩,if_pos ha]
 · rw [if_neg (fun h=>ha (tl_inj h.2)),if_neg (fun h=>absurd h.1 (by decide)),if_neg (fun h=>absurd h.1 (by decide)),if_neg ha]
   simp [putL]
theorem den_free {x : Tp} (hx : OkT x) : ∀ (a : ByteArray) (ρ : Env) (V : Beh),freeB x a = false → den x (updE ρ a V) = den x ρ := by
 have fs : ∀ {l : List Tp} {a : ByteArray},freeBs l a = false → ∀ x ∈ l,freeB x a = false:=fun {l}=>by
  induction l with
  | nil=>intro a _ x hx;cases hx
  | cons y l ih =>
   intro a h x hx
   unfold freeBs at h
   split at h
   · cases h
   · rename_i hy
     rcases List.mem_cons.1 hx with rfl | hx
     · simpa using hy
     · exact ih h x hx
 have node : ∀ (k so : Int) (nm : ByteArray) (ls : List ByteArray) (l : List Tp),k ≠ 9 → k ≠ 8 → (∀ x ∈ l, ∀ (a : ByteArray) (ρ : Env) (V : Beh),freeB x a = false → den x (updE ρ a V) = den x ρ) → ∀ (a : ByteArray) (ρ : Env) (V : Beh),freeB (.mk k so nm ls l) a = false → den (.mk k so nm ls l) (updE ρ a V) = den (.mk k so nm ls l) ρ := fun k so nm ls l h9 h8 ih a ρ V h=>by
  unfold freeB at h
  rw [if_neg h9,if_neg (fun h=>h8 h.1)] at h
  funext m
  cases m with
  | zero=>rw [(den_node h9 h8 _ 0).2,(den_node h9 h8 ρ 0).2]
  | succ m =>
   rw [(den_node h9 h8 _ m).1,(den_node h9 h8 ρ m).1]
   congr 1
   exact List.map_congr_left fun x hx=>by rw [ih x hx a ρ V (fs h x hx)]
 induction hx with
 | nil=>exact node _ _ _ _ _ (by decide) (by decide) (fun x hx=>by cases hx)
 | pass k so x hk h1 h3 hx ih=>exact node _ _ _ _ _ (by omega) (by omega) (fun y hy=>by rw [show y = x by simpa using hy];exact ih)
 | give k x y hk hx hy ih1 ih2=>exact node _ _ _ _ _ (by omega) (by omega) (fun z hz=>by
  rcases List.mem_cons.1 hz with rfl | hz
  · exact ih1
  · rw [show z = y by simpa using hz];exact ih2)
 | pick k ls l hk hl hn h ih=>exact node _ _ _ _ _ (by omega) (by omega) ih
 | bind nm x hn hx ih =>
  intro a ρ V h
  rw [den_rec,den_rec]
  congr 1
  funext X
  by_cases ha : nm = a
  · subst ha
    congr 1
    funext b
    unfold updE
    split <;> rfl
  · unfold freeB at h
    rw [if_neg (by decide),if_neg (fun h=>ha (tl_inj h.2))] at h
    have e : updE (updE ρ a V) nm X = updE (updE ρ nm X) a V:=by
     funext b
     unfold updE
     by_cases h1 : b = nm
     · rw [if_pos h1,if_neg (fun e=>ha (h1.symm.trans e)),if_pos h1]
     · rw [if_neg h1]
       by_cases h2 : b = a
       · rw [if_pos h2,if_pos h2]
       · rw [if_neg h2,if_neg h2,if_neg h1]
    rw [e]
    exact ih a _ V (fs h x (by simp))
 | var nm hn =>
  intro a ρ V h
  rw [den_var,den_var]
  unfold freeB at h
  rw [if_pos rfl] at h
  unfold updE
  rw [if_neg]
  intro e
  rw [e] at h
  simp at h
theorem den_put {a c : ByteArray} {s t : Tp} (ht : OkT t) (hs : ∀ ρ ρ' : Env, ρ c = ρ' c → den s ρ = den s ρ') : (putP a s c t).2 = true → ∀ ρ : Env,den (putP a s c t).1 ρ = den t (updE ρ a (den s ρ)):=by
 have node : ∀ (k so : Int) (nm : ByteArray) (ls : List ByteArray) (l : List Tp),k ≠ 9 → k ≠ 8 → (∀ x ∈ l,(putP a s c x).2 = true → ∀ ρ : Env,den (putP a s c x).1 ρ = den x (updE ρ a (den s ρ))) →
  (putP a s c (.mk k so nm ls l)).2 = true → ∀ ρ : Env,den (putP a s c (.mk k so nm ls l)).1 ρ = den (.mk k so nm ls l) (updE ρ a (den s ρ)):=fun k so nm ls l h9 h8 ih h ρ => by
  obtain ⟨h1,h2⟩:=putP_node h9 h8 h
  rw [h2]
  funext m
  cases m with
  | zero=>rw [(den_node h9 h8 _ 0).2,(den_node h9 h8 _ 0).2]
  | succ m =>
   rw [(den_node h9 h8 _ m).1,(den_node h9 h8 _ m).1,List.map_map]
   congr 1
   exact List.map_congr_left fun x hx=>by
    simp only [Function.comp]
    rw [ih x hx (h1 x hx) ρ]
 induction ht with
 | nil=>exact node _ _ _ _ _ (by decide) (by decide) (fun x hx=>by cases hx)
 | pass k so x hk h1 h3 hx ih=>exact node _ _ _ _ _ (by omega) (by omega) (fun y hy=>by rw [show y = x by simpa using hy];exact ih)
 | give k x y hk hx hy ih1 ih2=>exact node _ _ _ _ _ (by omega) (by omega) (fun z hz=>by
  rcases List.mem_cons.1 hz with rfl | hz
  · exact ih1
  · rw [show z = y by simpa using hz];exact ih2)
 | pick k ls l hk hl hn h ih=>exact node _ _ _ _ _ (by omega) (by omega) ih
 | bind nm x hn hx ih =>
  intro h ρ
  rcases putP_bind h with ⟨rfl,e⟩ | ⟨hne,hfc,h2,e⟩
  · rw [e,den_rec,den_rec]
    congr 1
    funext X
    congr 1
    funext b
    unfold updE
    split <;> rfl
  · rw [e,den_rec,den_rec]
    congr 1
    funext X
    have comm : ∀ V : Beh,updE (updE ρ a V) nm X = updE (updE ρ nm X) a V:=fun V=>by
     funext b
     unfold updE
     by_cases h1 : b = nm
     · rw [if_pos h1,if_neg (fun e=>hne (h1.symm.trans e)),if_pos h1]
     · rw [if_neg h1]
       by_cases h2 : b = a
       · rw [if_pos h2,if_pos h2]
       · rw [if_neg h2,if_neg h2,if_neg h1]
    rw [ih h2,comm]
    by_cases hc : nm = c
    · rw [den_free hx a _ _ (hfc hc),den_free hx a _ _ (hfc hc)]
    · rw [hs (updE ρ nm X) ρ (by unfold updE;rw [if_neg (fun e=>hc e.symm)])]
 | var nm hn =>
  intro h ρ
  rw [putP_var]
  rw [den_var]
  by_cases ha : nm = a
  · rw [if_pos ha]
    unfold updE
    rw [if_pos ha]
  · rw [if_neg ha]
    unfold updE
    rw [if_neg ha,den_var]
theorem put_ok {a c : ByteArray} {s t : Tp} (ht : OkT t) (hs : OkT s) : (putP a s c t).2 = true → OkT (putP a s c t).1:=by
 induction ht with
 | nil=>intro h;rw [(putP_node (by decide) (by decide) h).2];exact .nil
 | pass k so x hk h1 h3 hx ih =>
  intro h
  obtain ⟨a1,a2⟩:=putP_node (by omega) (by omega) h
  rw [a2]
  exact .pass k so _ hk h1 h3 (ih (a1 x (by simp)))
 | give k x y hk hx hy ih1 ih2 =>
  intro h
  obtain ⟨a1,a2⟩:=putP_node (by omega) (by omega) h
  rw [a2]
  exact .give k _ _ hk (ih1 (a1 x (by simp))) (ih2 (a1 y (by simp)))
 | pick k ls l hk hl hn h ih =>
  intro h
  obtain ⟨a1,a2⟩:=putP_node (by omega) (by omega) h
  rw [a2]
  refine .pick k ls _ hk hl (by rw [List.length_map];exact hn) fun y hy=>?_
  obtain ⟨x,hx,rfl⟩:=List.mem_map.1 hy
  exact ih x hx (a1 x hx)
 | bind nm x hn hx ih =>
  intro h
  rcases putP_bind h with ⟨rfl,e⟩ | ⟨hne,hfc,h2,e⟩
  · rw [e];exact .bind nm x hn hx
  · rw [e];exact .bind nm _ hn (ih h2)
 | var nm hn =>
  intro h
  rw [putP_var]
  split
  · exact hs
  · exact .var nm hn
theorem cnTs_of {l : List Tp} (h : ∀ x ∈ l,cnT x) : cnTs l:=by
 induction l with
 | nil=>trivial
 | cons x l ih=>exact ⟨h x (by simp),ih fun y hy=>h y (by simp [hy])⟩
theorem put_cn {a c : ByteArray} {s t : Tp} (ht : OkT t) (hs : cnT s) : cnT t → (putP a s c t).2 = true → cnT (putP a s c t).1 ∧ (stripK t ≠ 9 → stripK (putP a s c t).1 ≠ 9):=by
 have node : ∀ (k so : Int) (nm : ByteArray) (ls : List ByteArray) (l : List Tp),k ≠ 9 → k ≠ 8 → (∀ x ∈ l,cnT x → (putP a s c x).2 = true → cnT (putP a s c x).1 ∧ (stripK x ≠ 9 → stripK (putP a s c x).1 ≠ 9)) →
  cnT (.mk k so nm ls l) → (putP a s c (.mk k so nm ls l)).2 = true → cnT (putP a s c (.mk k so nm ls l)).1 ∧ (stripK (.mk k so nm ls l) ≠ 9 → stripK (putP a s c (.mk k so nm ls l)).1 ≠ 9):=fun k so nm ls l h9 h8 ih hc h=>by
  obtain ⟨a1,a2⟩:=putP_node h9 h8 h
  unfold cnT at hc
  rw [a2]
  refine ⟨⟨fun h=>absurd h h8,cnTs_of fun y hy=>?_⟩,fun _=>by simp only [stripK,if_neg h8];exact h9⟩
  obtain ⟨x,hx,rfl⟩:=List.mem_map.1 hy
  exact (ih x hx (cnTs_mem hc.2 x hx) (a1 x hx)).1
 induction ht with
 | nil=>exact node _ _ _ _ _ (by decide) (by decide) (fun x hx=>by cases hx)
 | pass k so x hk h1 h3 hx ih=>exact node _ _ _ _ _ (by omega) (by omega) (fun y hy=>by rw [show y = x by simpa using hy];exact ih)
 | give k x y hk hx hy ih1 ih2=>exact node _ _ _ _ _ (by omega) (by omega) (fun z hz=>by
  rcases List.mem_cons.1 hz with rfl | hz
  · exact ih1
  · rw [show z = y by simpa using hz];exact ih2)
 | pick k ls l hk hl hn h ih=>exact node _ _ _ _ _ (by omega) (by omega) ih
 | bind nm x hn hx ih =>
  intro hc h
  rcases putP_bind h with ⟨rfl,e⟩ | ⟨hne,hfc,h2,e⟩
  · rw [e];exact ⟨hc,id⟩
  · rw [e]
    unfold cnT at hc
    have h9 : stripK x ≠ 9:=hc.1 rfl
    have:=ih hc.2.1 h2
    refine ⟨⟨fun _=>this.2 h9,this.1,trivial⟩,fun _=>?_⟩
    show stripK (putP a s c x).1 ≠ 9
    exact this.2 h9
 | var nm hn =>
  intro hc h
  rw [putP_var]
  split
  · exact ⟨hs,fun h=>absurd (by simp [stripK]) h⟩
  · exact ⟨hc,id⟩
theorem cl_mono {x : Tp} (hx : OkT x) : ∀ b b' : List ByteArray,(∀ n ∈ b,n ∈ b') → clT x b → clT x b':=by
 have node : ∀ (k so : Int) (nm : ByteArray) (ls : List ByteArray) (l : List Tp),k ≠ 9 → k ≠ 8 → (∀ x ∈ l, ∀ b b' : List ByteArray,(∀ n ∈ b,n ∈ b') → clT x b → clT x b') → ∀ b b' : List ByteArray,(∀ n ∈ b,n ∈ b') → clT (.mk k so nm ls l) b → clT (.mk k so nm ls l) b':=fun k so nm ls l h9 h8 ih b b' hb h=>by
  unfold clT at h ⊢
  rw [if_neg h8] at h ⊢
  refine ⟨fun h=>absurd h h9,?_⟩
  have h2:=h.2
  clear h
  induction l with
  | nil=>trivial
  | cons x l ihl =>
   unfold clTs at h2 ⊢
   exact ⟨ih x (by simp) b b' hb h2.1,ihl (fun y hy=>ih y (by simp [hy])) h2.2⟩
 induction hx with
 | nil=>exact node _ _ _ _ _ (by decide) (by decide) (fun x hx=>by cases hx)
 | pass k so x hk h1 h3 hx ih=>exact node _ _ _ _ _ (by omega) (by omega) (fun y hy=>by rw [show y = x by simpa using hy];exact ih)
 | give k x y hk hx hy ih1 ih2=>exact node _ _ _ _ _ (by omega) (by omega) (fun z hz=>by
  rcases List.mem_cons.1 hz with rfl | hz
  · exact ih1
  · rw [show z = y by simpa using hz];exact ih2)
 | pick k ls l hk hl hn h ih=>exact node _ _ _ _ _ (by omega) (by omega) ih
 | bind nm x hn hx ih =>
  intro b b' hb h
  unfold clT at h ⊢
  rw [if_pos rfl] at h ⊢
  refine ⟨fun h=>absurd h (by decide),ih (b ++ [nm]) (b' ++ [nm]) (fun n hn=>?_) h.2.1,trivial⟩
  rcases List.mem_append.1 hn with hn | hn
  · exact List.mem_append_left _ (hb n hn)
  · exact List.mem_append_right _ hn
 | var nm hn =>
  intro b b' hb h
  unfold clT at h ⊢
  refine ⟨fun _=>inL_iff.2 (hb nm (inL_iff.1 (h.1 rfl))),trivial⟩
theorem put_cl {a c : ByteArray} {s t : Tp} (ht : OkT t) (hs : OkT s) : ∀ b b' : List ByteArray,(∀ n ∈ b,n = a ∨ n ∈ b') → clT s b' → clT t b → (putP a s c t).2 = true → clT (putP a s c t).1 b':=by
 have node : ∀ (k so : Int) (nm : ByteArray) (ls : List ByteArray) (l : List Tp),k ≠ 9 → k ≠ 8 → (∀ x ∈ l, ∀ b b' : List ByteArray,(∀ n ∈ b,n = a ∨ n ∈ b') → clT s b' → clT x b → (putP a s c x).2 = true → clT (putP a s c x).1 b') →
  ∀ b b' : List ByteArray,(∀ n ∈ b,n = a ∨ n ∈ b') → clT s b' → clT (.mk k so nm ls l) b → (putP a s c (.mk k so nm ls l)).2 = true → clT (putP a s c (.mk k so nm ls l)).1 b':=fun k so nm ls l h9 h8 ih b b' hb hsb h hp=>by
  obtain ⟨a1,a2⟩:=putP_node h9 h8 hp
  rw [a2]
  unfold clT at h ⊢
  rw [if_neg h8] at h ⊢
  refine ⟨fun h=>absurd h h9,?_⟩
  have h2:=h.2
  clear h a2 hp
  induction l with
  | nil=>trivial
  | cons x l ihl =>
   unfold clTs at h2
   rw [List.map_cons]
   unfold clTs
   exact ⟨ih x (by simp) b b' hb hsb h2.1 (a1 x (by simp)),ihl (fun y hy=>ih y (by simp [hy])) (fun y hy=>a1 y (by simp [hy])) h2.2⟩
 induction ht with
 | nil=>exact node _ _ _ _ _ (by decide) (by decide) (fun x hx=>by cases hx)
 | pass k so x hk h1 h3 hx ih=>exact node _ _ _ _ _ (by omega) (by omega) (fun y hy=>by rw [show y = x by simpa using hy];exact ih)
 | give k x y hk hx hy ih1 ih2=>exact node _ _ _ _ _ (by omega) (by omega) (fun z hz=>by
  rcases List.mem_cons.1 hz with rfl | hz
  · exact ih1
  · rw [show z = y by simpa using hz];exact ih2)
 | pick k ls l hk hl hn h ih=>exact node _ _ _ _ _ (by omega) (by omega) ih
 | bind nm x hn hx ih =>
  intro b b' hb hsb h hp
  rcases putP_bind hp with ⟨rfl,e⟩ | ⟨hne,hfc,h2,e⟩
  · rw [e]
    unfold clT at h ⊢
    rw [if_pos rfl] at h ⊢
    refine ⟨fun h=>absurd h (by decide),cl_mono hx (b ++ [nm]) (b' ++ [nm]) (fun n hn=>?_) h.2.1,trivial⟩
    rcases List.mem_append.1 hn with hn | hn
    · rcases hb n hn with rfl | hn
      · simp
      · exact List.mem_append_left _ hn
    · exact List.mem_append_right _ hn
  · rw [e]
    unfold clT at h ⊢
    rw [if_pos rfl] at h ⊢
    refine ⟨fun h=>absurd h (by decide),ih (b ++ [nm]) (b' ++ [nm]) (fun n hn=>?_) (cl_mono hs b' _ (fun n hn=>List.mem_append_left _ hn) hsb) h.2.1 h2,trivial⟩
    rcases List.mem_append.1 hn with hn | hn
    · rcases hb n hn with rfl | hn
      · exact .inl rfl
      · exact .inr (List.mem_append_left _ hn)
    · exact .inr (List.mem_append_right _ hn)
 | var nm hn =>
  intro b b' hb hsb h hp
  rw [putP_var]
  split
  · exact hsb
  · rename_i hne
    unfold clT at h ⊢
    refine ⟨fun _=>inL_iff.2 ?_,trivial⟩
    rcases hb nm (inL_iff.1 (h.1 rfl)) with h | h
    · exact absurd h hne
    · exact h
theorem check_all {x : Tp} (h : tCheck x = 0) : OkT x ∧ clT x [] ∧ cnT x ∧ x.size ≤ 60:=by
 have h1:=ok_check h
 have h2:=cl_tchk x [] 60 h
 exact ⟨h1.1,h2.1,h2.2,h1.2⟩
end Go.Proofs.YtgecnlcbdbaneaaDoor
