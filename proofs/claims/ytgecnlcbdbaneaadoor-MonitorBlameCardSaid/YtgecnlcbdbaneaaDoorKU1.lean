/- types.Unfold in plain words: how long a type gets, and that it does the same. -/
import Derived.Test.YtgecnlcbdbaneaaDoorHQ8
set_option linter.unusedVariables false
set_option linter.unusedSimpArgs false
namespace Go.Proofs.YtgecnlcbdbaneaaDoor
open Go.RowKit Go.Sw

mutual
def fvT : Tp → List ByteArray
 | .mk k so nm ls l=>if k = 9 then [nm] else if k = 8 then (fvTs l).filter (fun b => !decide (b = nm)) else fvTs l
def fvTs : List Tp → List ByteArray
 | []=>[]
 | x :: l=>fvT x ++ fvTs l
end
mutual
theorem fv_len : ∀ x : Tp,(fvT x).length ≤ x.size
 | .mk k so nm ls l=>by
  have:=fvs_len l
  unfold fvT
  simp only [Tp.size]
  split
  · simp
  split
  · have:=List.length_filter_le (fun b => !decide (b = nm)) (fvTs l)
    omega
  · omega
theorem fvs_len : ∀ l : List Tp,(fvTs l).length ≤ Tp.sizes l
 | []=>by simp [fvTs,Tp.sizes]
 | x :: l=>by
  have h1:=fv_len x
  have h2:=fvs_len l
  simp only [fvTs,Tp.sizes,List.length_append]
  omega
end
mutual
theorem fv_cl : ∀ (x : Tp) (b : List ByteArray),clT x b → ∀ a ∈ fvT x,a ∈ b
 | .mk k so nm ls l,b,h,a,ha=>by
  unfold clT at h
  unfold fvT at ha
  split at ha
  · rename_i h9
    rw [show a = nm by simpa using ha]
    exact inL_iff.1 (h.1 h9)
  split at ha
  · rename_i h8
    rw [if_pos h8] at h
    obtain ⟨a1,a2⟩:=List.mem_filter.1 ha
    have:=fvs_cl l _ h.2 a a1
    rcases List.mem_append.1 this with h | h
    · exact h
    · have : a = nm:=by simpa using h
      simp [this] at a2
  · rename_i h8
    rw [if_neg h8] at h
    exact fvs_cl l _ h.2 a ha
theorem fvs_cl : ∀ (l : List Tp) (b : List ByteArray),clTs l b → ∀ a ∈ fvTs l,a ∈ b
 | [],b,h,a,ha=>by simp [fvTs] at ha
 | x :: l,b,h,a,ha=>by
  unfold clTs at h
  simp only [fvTs,List.mem_append] at ha
  rcases ha with ha | ha
  · exact fv_cl x b h.1 a ha
  · exact fvs_cl l b h.2 a ha
end
theorem fv_closed {x : Tp} (h : clT x []) : fvT x = []:=by
 cases he : fvT x with
 | nil=>rfl
 | cons a l=>exact absurd (fv_cl x [] h a (by rw [he];simp)) (by simp)
def putT (a : ByteArray) (s t : Tp) : Tp:=(putP a s noB t).1
theorem putT_var {a nm : ByteArray} {s : Tp} {so : Int} {ls : List ByteArray} : putT a s (.mk 9 so nm ls []) = if nm = a then s else .mk 9 so nm ls []:=by
 unfold putT
 rw [putP_var]
 split <;> rfl
theorem putT_node {a nm : ByteArray} {s : Tp} {k so : Int} {ls : List ByteArray} {l : List Tp} (h9 : k ≠ 9) (h8 : k ≠ 8) (h : OkT (.mk k so nm ls l)) : putT a s (.mk k so nm ls l) = .mk k so nm ls (l.map (putT a s)) :=
 (putP_node h9 h8 (put_true h)).2
theorem putT_bind {a nm : ByteArray} {s x : Tp} {so : Int} {ls : List ByteArray} (h : OkT (.mk 8 so nm ls [x])) : putT a s (.mk 8 so nm ls [x]) = if nm = a then .mk 8 so nm ls [x] else .mk 8 so nm ls [putT a s x]:=by
 rcases putP_bind (put_true (a:=a) (s:=s) h) with ⟨e,h⟩ | ⟨e, -, -,h⟩
 · rw [if_pos e];exact h
 · rw [if_neg e];exact h
def cntN (a : ByteArray) : List ByteArray → Nat
 | []=>0
 | b :: l=>(if b = a then 1 else 0) + cntN a l
theorem cntN_app (a : ByteArray) : ∀ l l' : List ByteArray,cntN a (l ++ l') = cntN a l + cntN a l'
 | [],l'=>by simp [cntN]
 | b :: l,l'=>by simp only [List.cons_append,cntN,cntN_app a l l'];omega
theorem fvTs_one (x : Tp) : fvTs [x] = fvT x:=by simp [fvTs]
theorem fv_node {k so : Int} {nm : ByteArray} {ls : List ByteArray} {l : List Tp} (h9 : k ≠ 9) (h8 : k ≠ 8) : fvT (.mk k so nm ls l) = fvTs l:=by
 conv=>lhs;unfold fvT
 rw [if_neg h9,if_neg h8]
theorem fv_bind {so : Int} {nm : ByteArray} {ls : List ByteArray} {x : Tp} : fvT (.mk 8 so nm ls [x]) = (fvT x).filter (fun b => !decide (b = nm)):=by
 conv=>lhs;unfold fvT
 rw [if_neg (by decide),if_pos rfl,fvTs_one]
theorem cnt_filter (a nm : ByteArray) : ∀ l : List ByteArray,cntN a (l.filter fun b => !decide (b = nm)) = if a = nm then 0 else cntN a l
 | []=>by simp [cntN]
 | b :: l=>by
  have ih:=cnt_filter a nm l
  rw [List.filter_cons]
  by_cases hb : b = nm
  · subst hb
    simp only [decide_true,Bool.not_true,Bool.false_eq_true,if_false,cntN]
    rw [ih]
    split
    · rfl
    · rename_i h
      rw [if_neg (Ne.symm h)]
      omega
  · simp only [hb,decide_false,Bool.not_false,if_true,cntN]
    rw [ih]
    by_cases ha : a = nm
    · subst ha;simp [hb]
    · rw [if_neg ha,if_neg ha]
theorem len_filter (nm : ByteArray) : ∀ l : List ByteArray,(l.filter fun b => !decide (b = nm)).length + cntN nm l = l.length
 | []=>by simp [cntN]
 | b :: l=>by
  have ih:=len_filter nm l
  rw [List.filter_cons]
  by_cases hb : b = nm
  · subst hb;simp [cntN];omega
  · simp [cntN,hb];omega
theorem cnts_map {a : ByteArray} {s : Tp} {y : ByteArray} : ∀ {l : List Tp},(∀ x ∈ l,(cntN y (fvT (putT a s x))) ≤ (cntN y (fvT x))) → (cntN y (fvTs (l.map (putT a s)))) ≤ (cntN y (fvTs l))
 | [],_=>by simp [fvTs]
 | x :: l,h=>by
  have h1:=h x (by simp)
  have h2:=cnts_map (l:=l) fun y hy=>h y (by simp [hy])
  simp only [List.map_cons,fvTs,cntN_app]
  omega
theorem fv_put {a : ByteArray} {s t : Tp} (ht : OkT t) (hs : fvT s = []) (y : ByteArray) : (cntN y (fvT (putT a s t))) ≤ (cntN y (fvT t)):=by
 have node : ∀ (k so : Int) (nm : ByteArray) (ls : List ByteArray) (l : List Tp),k ≠ 9 → k ≠ 8 → OkT (.mk k so nm ls l) → (∀ x ∈ l,(cntN y (fvT (putT a s x))) ≤ (cntN y (fvT x))) → (cntN y (fvT (putT a s (.mk k so nm ls l)))) ≤ (cntN y (fvT (.mk k so nm ls l))):=fun k so nm ls l h9 h8 ho ih=>by
  rw [putT_node h9 h8 ho,fv_node h9 h8,fv_node h9 h8]
  exact cnts_map ih
 induction ht with
 | nil=>exact node _ _ _ _ _ (by decide) (by decide) .nil (fun x hx=>by cases hx)
 | pass k so x hk h1 h3 hx ih=>exact node _ _ _ _ _ (by omega) (by omega) (.pass k so x hk h1 h3 hx) (fun y hy=>by rw [show y = x by simpa using hy];exact ih)
 | give k x y hk hx hy ih1 ih2=>exact node _ _ _ _ _ (by omega) (by omega) (.give k x y hk hx hy) (fun z hz=>by
  rcases List.mem_cons.1 hz with rfl | hz
  · exact ih1
  · rw [show z = y by simpa using hz];exact ih2)
 | pick k ls l hk hl hn h ih=>exact node _ _ _ _ _ (by omega) (by omega) (.pick k ls l hk hl hn h) ih
 | bind nm x hn hx ih =>
  rw [putT_bind (.bind nm x hn hx)]
  split
  · exact Nat.le_refl _
  · rw [fv_bind,fv_bind,cnt_filter,cnt_filter]
    split
    · exact Nat.le_refl _
    · exact ih
 | var nm hn =>
  rw [putT_var]
  split
  · rw [hs];simp [cntN]
  · exact Nat.le_refl _
theorem sizes_map {a : ByteArray} {s : Tp} : ∀ {l : List Tp},(∀ x ∈ l,(putT a s x).size ≤ x.size + (cntN a (fvT x)) * s.size) → Tp.sizes (l.map (putT a s)) ≤ Tp.sizes l + (cntN a (fvTs l)) * s.size
 | [],_=>by simp [Tp.sizes]
 | x :: l,h=>by
  have h1:=h x (by simp)
  have h2:=sizes_map (l:=l) fun y hy=>h y (by simp [hy])
  simp only [List.map_cons,fvTs,cntN_app,Tp.sizes,Nat.add_mul]
  omega
theorem put_len {a : ByteArray} {s t : Tp} (ht : OkT t) : (putT a s t).size ≤ t.size + (cntN a (fvT t)) * s.size:=by
 have node : ∀ (k so : Int) (nm : ByteArray) (ls : List ByteArray) (l : List Tp),k ≠ 9 → k ≠ 8 → OkT (.mk k so nm ls l) → (∀ x ∈ l,(putT a s x).size ≤ x.size + (cntN a (fvT x)) * s.size) → (putT a s (.mk k so nm ls l)).size ≤ (Tp.mk k so nm ls l).size + (cntN a (fvT (.mk k so nm ls l))) * s.size:=fun k so nm ls l h9 h8 ho ih=>by
  rw [putT_node h9 h8 ho,fv_node h9 h8]
  have:=sizes_map ih
  simp only [Tp.size]
  omega
 induction ht with
 | nil=>exact node _ _ _ _ _ (by decide) (by decide) .nil (fun x hx=>by cases hx)
 | pass k so x hk h1 h3 hx ih=>exact node _ _ _ _ _ (by omega) (by omega) (.pass k so x hk h1 h3 hx) (fun y hy=>by rw [show y = x by simpa using hy];exact ih)
 | give k x y hk hx hy ih1 ih2=>exact node _ _ _ _ _ (by omega) (by omega) (.give k x y hk hx hy) (fun z hz=>by
  rcases List.mem_cons.1 hz with rfl | hz
  · exact ih1
  · rw [show z = y by simpa using hz];exact ih2)
 | pick k ls l hk hl hn h ih=>exact node _ _ _ _ _ (by omega) (by omega) (.pick k ls l hk hl hn h) ih
 | bind nm x hn hx ih =>
  rw [putT_bind (.bind nm x hn hx)]
  split
  · exact Nat.le_add_right _ _
  · rename_i hne
    rw [fv_bind,cnt_filter,if_neg (Ne.symm hne)]
    simp only [Tp.size,Tp.sizes]
    omega
 | var nm hn =>
  rw [putT_var]
  have : fvT (.mk 9 0 nm [] []) = [nm]:=by unfold fvT;rw [if_pos rfl]
  rw [this]
  split
  · rename_i e
    subst e
    simp [cntN,Tp.size,Tp.sizes]
  · exact Nat.le_add_right _ _
mutual
def hrT : Tp → Nat
 | .mk k so nm ls l=>if k = 8 then 1 + hrF l else 0
def hrF : List Tp → Nat
 | []=>0
 | x :: _=>hrT x
end
mutual
def wT : Tp → Nat
 | .mk k so nm ls l=>if k = 8 then (1 + (cntN nm (fvTs l))) * wF l else 1
def wF : List Tp → Nat
 | []=>1
 | x :: _=>wT x
end
mutual
def tT : Tp → Nat
 | .mk k so nm ls l=>if k = 8 then (cntN nm (fvTs l)) + tF l else 0
def tF : List Tp → Nat
 | []=>0
 | x :: _=>tT x
end
theorem hr_bind {so : Int} {nm : ByteArray} {ls : List ByteArray} {x : Tp} : hrT (.mk 8 so nm ls [x]) = 1 + hrT x:=by simp [hrT,hrF]
theorem w_bind {so : Int} {nm : ByteArray} {ls : List ByteArray} {x : Tp} : wT (.mk 8 so nm ls [x]) = (1 + (cntN nm (fvT x))) * wT x:=by simp [wT,wF,fvTs_one]
theorem t_bind {so : Int} {nm : ByteArray} {ls : List ByteArray} {x : Tp} : tT (.mk 8 so nm ls [x]) = (cntN nm (fvT x)) + tT x:=by simp [tT,tF,fvTs_one]
theorem ahead_none {k so : Int} {nm : ByteArray} {ls : List ByteArray} {l : List Tp} (h8 : k ≠ 8) : hrT (.mk k so nm ls l) = 0 ∧ wT (.mk k so nm ls l) = 1 ∧ tT (.mk k so nm ls l) = 0:=by simp [hrT,wT,tT,h8]
theorem ahead_len {x : Tp} (hx : OkT x) : tT x + (fvT x).length + hrT x ≤ x.size:=by
 have node : ∀ (k so : Int) (nm : ByteArray) (ls : List ByteArray) (l : List Tp),k ≠ 8 → tT (.mk k so nm ls l) + (fvT (.mk k so nm ls l)).length + hrT (.mk k so nm ls l) ≤ (Tp.mk k so nm ls l).size:=fun k so nm ls l h8=>by
  obtain ⟨a,b,c⟩:=ahead_none (so:=so) (nm:=nm) (ls:=ls) (l:=l) h8
  have:=fv_len (.mk k so nm ls l)
  omega
 induction hx with
 | nil=>exact node _ _ _ _ _ (by decide)
 | pass k so x hk h1 h3 hx ih=>exact node _ _ _ _ _ (by omega)
 | give k x y hk hx hy ih1 ih2=>exact node _ _ _ _ _ (by omega)
 | pick k ls l hk hl hn h ih=>exact node _ _ _ _ _ (by omega)
 | var nm hn=>exact node _ _ _ _ _ (by decide)
 | bind nm x hn hx ih =>
  rw [t_bind,hr_bind,fv_bind]
  have:=len_filter nm (fvT x)
  simp only [Tp.size,Tp.sizes]
  omega
theorem cube_four : ∀ n : Nat,(1 + n) ^ 3 ≤ 4 ^ (1 + n)
 | 0=>by decide
 | 1=>by decide
 | n + 2=>by
  have ih:=cube_four (n + 1)
  have e : 4 ^ (1 + (n + 2)) = 4 * 4 ^ (1 + (n + 1)):=by rw [show 1 + (n + 2) = (1 + (n + 1)) + 1 by omega,Nat.pow_succ,Nat.mul_comm]
  rw [e]
  refine Nat.le_trans ?_ (Nat.mul_le_mul_left 4 ih)
  have a : ∀ m : Nat,m ^ 3 = m * m * m:=fun m=>by rw [Nat.pow_succ,Nat.pow_succ,Nat.pow_one]
  rw [a,a]
  have key : ∀ m : Nat,2 ≤ m → (m + 1) * (m + 1) * (m + 1) ≤ 4 * (m * m * m):=fun m hm=>by
   have h1 : 2 * m ≤ m * m:=Nat.mul_le_mul_right m hm
   have h2 : 2 * (m * m) ≤ m * (m * m):=Nat.mul_le_mul_right (m * m) hm
   have h3 : (m + 1) * (m + 1) * (m + 1) = m * (m * m) + 3 * (m * m) + 3 * m + 1:=by
    rw [Nat.mul_add (m + 1) m 1,Nat.add_mul m 1 m,Nat.mul_one,Nat.one_mul,Nat.mul_add _ m 1,Nat.mul_one,Nat.add_mul,Nat.add_mul,Nat.add_mul,Nat.mul_assoc m m m,Nat.one_mul]
    omega
   rw [h3,Nat.mul_assoc m m m]
   generalize m * (m * m) = c at *
   generalize m * m = d at *
   omega
  have:=key (n + 2) (by omega)
  rw [show 1 + (n + 2) = n + 2 + 1 by omega,show 1 + (n + 1) = n + 2 by omega]
  exact this
theorem w_cube {x : Tp} (hx : OkT x) : wT x ^ 3 ≤ 4 ^ (tT x + hrT x):=by
 have node : ∀ (k so : Int) (nm : ByteArray) (ls : List ByteArray) (l : List Tp),k ≠ 8 → wT (.mk k so nm ls l) ^ 3 ≤ 4 ^ (tT (.mk k so nm ls l) + hrT (.mk k so nm ls l)):=fun k so nm ls l h8=>by
  obtain ⟨a,b,c⟩:=ahead_none (so:=so) (nm:=nm) (ls:=ls) (l:=l) h8
  rw [a,b,c]
  decide
 induction hx with
 | nil=>exact node _ _ _ _ _ (by decide)
 | pass k so x hk h1 h3 hx ih=>exact node _ _ _ _ _ (by omega)
 | give k x y hk hx hy ih1 ih2=>exact node _ _ _ _ _ (by omega)
 | pick k ls l hk hl hn h ih=>exact node _ _ _ _ _ (by omega)
 | var nm hn=>exact node _ _ _ _ _ (by decide)
 | bind nm x hn hx ih =>
  rw [t_bind,hr_bind,w_bind,Nat.mul_pow,show (cntN nm (fvT x)) + tT x + (1 + hrT x) = (1 + (cntN nm (fvT x))) + (tT x + hrT x) by omega,Nat.pow_add]
  exact Nat.mul_le_mul (cube_four _) ih
theorem w_small {x : Tp} (hx : OkT x) (h : x.size ≤ 60) : wT x ≤ 1099511627776:=by
 have h1:=w_cube hx
 have h2:=ahead_len hx
 have h3 : (4 : Nat) ^ (tT x + hrT x) ≤ 4 ^ 60:=Nat.pow_le_pow_right (by decide) (by omega)
 have h4:=Nat.le_trans h1 h3
 rcases Nat.lt_or_ge 1099511627776 (wT x) with h | h
 · have : (1099511627776 + 1) ^ 3 ≤ wT x ^ 3:=Nat.pow_le_pow_left h 3
   have h5:=Nat.le_trans this h4
   exact absurd h5 (by decide)
 · exact h
theorem hr_put {a : ByteArray} {s t : Tp} (ht : OkT t) : stripK t ≠ 9 → hrT (putT a s t) = hrT t:=by
 have node : ∀ (k so : Int) (nm : ByteArray) (ls : List ByteArray) (l : List Tp),k ≠ 9 → k ≠ 8 → OkT (.mk k so nm ls l) → hrT (putT a s (.mk k so nm ls l)) = hrT (.mk k so nm ls l):=fun k so nm ls l h9 h8 ho=>by
  rw [putT_node h9 h8 ho,(ahead_none h8).1,(ahead_none h8).1]
 induction ht with
 | nil=>exact fun _=>node _ _ _ _ _ (by decide) (by decide) .nil
 | pass k so x hk h1 h3 hx ih=>exact fun _=>node _ _ _ _ _ (by omega) (by omega) (.pass k so x hk h1 h3 hx)
 | give k x y hk hx hy ih1 ih2=>exact fun _=>node _ _ _ _ _ (by omega) (by omega) (.give k x y hk hx hy)
 | pick k ls l hk hl hn h ih=>exact fun _=>node _ _ _ _ _ (by omega) (by omega) (.pick k ls l hk hl hn h)
 | bind nm x hn hx ih =>
  intro h
  rw [putT_bind (.bind nm x hn hx)]
  split
  · rfl
  · rw [hr_bind,hr_bind,ih h]
 | var nm hn=>exact fun h=>absurd (by simp [stripK]) h
theorem w_put {a : ByteArray} {s t : Tp} (ht : OkT t) (hs : fvT s = []) : stripK t ≠ 9 → wT (putT a s t) ≤ wT t:=by
 have node : ∀ (k so : Int) (nm : ByteArray) (ls : List ByteArray) (l : List Tp),k ≠ 9 → k ≠ 8 → OkT (.mk k so nm ls l) → wT (putT a s (.mk k so nm ls l)) ≤ wT (.mk k so nm ls l):=fun k so nm ls l h9 h8 ho=>by
  rw [putT_node h9 h8 ho,(ahead_none h8).2.1,(ahead_none h8).2.1]
  exact Nat.le_refl _
 induction ht with
 | nil=>exact fun _=>node _ _ _ _ _ (by decide) (by decide) .nil
 | pass k so x hk h1 h3 hx ih=>exact fun _=>node _ _ _ _ _ (by omega) (by omega) (.pass k so x hk h1 h3 hx)
 | give k x y hk hx hy ih1 ih2=>exact fun _=>node _ _ _ _ _ (by omega) (by omega) (.give k x y hk hx hy)
 | pick k ls l hk hl hn h ih=>exact fun _=>node _ _ _ _ _ (by omega) (by omega) (.pick k ls l hk hl hn h)
 | bind nm x hn hx ih =>
  intro h
  rw [putT_bind (.bind nm x hn hx)]
  split
  · exact Nat.le_refl _
  · rw [w_bind,w_bind]
    exact Nat.mul_le_mul (Nat.add_le_add_left (fv_put hx hs nm) 1) (ih h)
 | var nm hn=>exact fun h=>absurd (by simp [stripK]) h
structure Unf (x t : Tp) : Prop where
 ok : OkT t
 cl : clT t []
 cn : cnT t
 dn : ∀ ρ : Env,den t ρ = den x ρ
 sz : t.size * wT t ≤ x.size * wT x
theorem Unf.refl {x : Tp} (h : tCheck x = 0) : Unf x x:=⟨(check_all h).1,(check_all h).2.1,(check_all h).2.2.1,fun _=>rfl,Nat.le_refl _⟩
theorem Unf.step {x b : Tp} {so : Int} {nm : ByteArray} {ls : List ByteArray} (h : Unf x (.mk 8 so nm ls [b])) : Unf x (putT nm (.mk 8 so nm ls [b]) b) ∧ hrT (putT nm (.mk 8 so nm ls [b]) b) + 1 = hrT (.mk 8 so nm ls [b]):=by
 obtain ⟨ok,cl,cn,dn,sz⟩:=h
 have hfv:=fv_closed cl
 have hob : OkT b:=by
  cases ok with
  | pass k so x hk h1 h3 hx=>omega
  | pick k ls l hk hl hn h=>omega
  | bind nm x hn hx=>exact hx
 have hcn:=cn
 unfold cnT at hcn
 have h9 : stripK b ≠ 9:=hcn.1 rfl
 have hcnb : cnT b:=hcn.2.1
 have hcl:=cl
 unfold clT at hcl
 rw [if_pos rfl] at hcl
 have hclb : clT b [nm]:=hcl.2.1
 have htr:=put_true (a:=nm) (s:=.mk 8 so nm ls [b]) hob
 refine ⟨⟨put_ok hob ok htr,put_cl hob ok [nm] [] (fun n hn=>.inl (by simpa using hn)) cl hclb htr,(put_cn hob cn hcnb htr).1,fun ρ => ?_,?_⟩,?_⟩
 · rw [← dn ρ]
   have e:=den_put (a:=nm) (c:=noB) (s:=.mk 8 so nm ls [b]) hob (fun ρ ρ' _=>den_cl ok [] ρ ρ' cl (fun a ha=>by cases ha)) htr ρ
   unfold putT
   rw [e]
   exact (den_unfold hob hcnb h9 so ls ρ).symm
 · refine Nat.le_trans ?_ sz
   have a1:=put_len (a:=nm) (s:=.mk 8 so nm ls [b]) hob
   have a2:=w_put (a:=nm) (s:=.mk 8 so nm ls [b]) hob hfv h9
   rw [w_bind]
   have a3 : (putT nm (.mk 8 so nm ls [b]) b).size ≤ (Tp.mk 8 so nm ls [b]).size * (1 + (cntN nm (fvT b))):=by
    rw [Nat.mul_add,Nat.mul_one,Nat.mul_comm (Tp.mk 8 so nm ls [b]).size]
    have : b.size ≤ (Tp.mk 8 so nm ls [b]).size:=by simp only [Tp.size,Tp.sizes];omega
    omega
   calc _ ≤ (Tp.mk 8 so nm ls [b]).size * (1 + (cntN nm (fvT b))) * wT b:=Nat.mul_le_mul a3 a2
    _ = _:=by rw [Nat.mul_assoc]
 · rw [hr_put hob h9,hr_bind]
   omega
def unfF : Nat → Tp → Tp
 | 0,t=>t
 | n + 1,.mk k so nm ls l=>if k = 8 then (match l with | []=>.mk k so nm ls l | b :: _=>unfF n (putT nm (.mk k so nm ls l) b)) else .mk k so nm ls l
def unfP (x : Tp) : Tp:=unfF (hrT x) x
def Tp.kd : Tp → Int
 | .mk k _ _ _ _=>k
theorem unf_bind {so : Int} {nm : ByteArray} {ls : List ByteArray} {b : Tp} {x : Tp} (h : Unf x (.mk 8 so nm ls [b])) : unfP (.mk 8 so nm ls [b]) = unfP (putT nm (.mk 8 so nm ls [b]) b):=by
 have h2:=h.step.2
 conv=>lhs;unfold unfP
 rw [← h2]
 unfold unfF
 rw [if_pos rfl]
 rfl
theorem unf_node {t : Tp} (h8 : t.kd ≠ 8) : unfP t = t:=by
 obtain ⟨k,so,nm,ls,l⟩:=t
 have h8 : k ≠ 8:=h8
 unfold unfP
 rw [(ahead_none h8).1]
 rfl
theorem unf_all {x : Tp} : ∀ (n : Nat) (t : Tp),hrT t ≤ n → Unf x t → Unf x (unfP t) ∧ (unfP t).kd ≠ 8:=fun n=>by
 induction n with
 | zero =>
  intro t hn h
  obtain ⟨k,so,nm,ls,l⟩:=t
  by_cases h8 : k = 8
  · subst h8
    have : hrT (.mk 8 so nm ls l) = 1 + hrF l:=by simp [hrT]
    omega
  · rw [unf_node (by exact h8)]
    exact ⟨h,h8⟩
 | succ n ih =>
  intro t hn h
  obtain ⟨k,so,nm,ls,l⟩:=t
  by_cases h8 : k = 8
  · subst h8
    have hl : ∃ b,l = [b]:=by
     have:=h.ok
     cases this with
     | pass k so x hk h1 h3 hx=>omega
     | give k x y hk hx hy=>omega
     | pick k ls l hk hl hn h=>omega
     | bind nm x hn hx=>exact ⟨x,rfl⟩
    obtain ⟨b,rfl⟩:=hl
    rw [unf_bind h]
    have h2:=h.step
    exact ih _ (by omega) h2.1
  · rw [unf_node (by exact h8)]
    exact ⟨h,h8⟩
theorem Unf.small {x t : Tp} (hx : tCheck x = 0) (h : Unf x t) : t.size ≤ 65970697666560:=by
 have a:=check_all hx
 have b:=w_small a.1 a.2.2.2
 have c : 1 ≤ wT t:=by
  rcases Nat.eq_zero_or_pos (wT t) with e | e
  · exfalso
    have : ∀ t : Tp,OkT t → 1 ≤ wT t:=fun t ht=>by
     induction ht with
     | nil=>exact Nat.le_of_eq (ahead_none (by decide)).2.1.symm
     | pass k so x hk h1 h3 hx ih=>exact Nat.le_of_eq (ahead_none (by omega)).2.1.symm
     | give k x y hk hx hy ih1 ih2=>exact Nat.le_of_eq (ahead_none (by omega)).2.1.symm
     | pick k ls l hk hl hn h ih=>exact Nat.le_of_eq (ahead_none (by omega)).2.1.symm
     | var nm hn=>exact Nat.le_of_eq (ahead_none (by decide)).2.1.symm
     | bind nm x hn hx ih=>rw [w_bind];exact Nat.mul_le_mul (by omega : 1 ≤ 1 + (cntN nm (fvT x))) ih
    have:=this t h.ok
    omega
  · exact e
 have d:=h.sz
 calc t.size = t.size * 1:=(Nat.mul_one _).symm
  _ ≤ t.size * wT t:=Nat.mul_le_mul_left _ c
  _ ≤ x.size * wT x:=d
  _ ≤ 60 * 1099511627776:=Nat.mul_le_mul a.2.2.2 b
  _ = 65970697666560:=by decide
end Go.Proofs.YtgecnlcbdbaneaaDoor
