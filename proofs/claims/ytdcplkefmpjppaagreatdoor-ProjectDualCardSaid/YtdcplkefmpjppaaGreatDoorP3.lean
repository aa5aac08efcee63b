/- What a role does, checked: plain. -/
import Derived.Test.YtdcplkefmpjppaaGreatDoorP2
set_option linter.unusedVariables false
set_option linter.unusedSimpArgs false
namespace Go.Proofs.YtdcplkefmpjppaaGreatDoor.GG
open Go.RowKit Go.Sw

mutual
def stripLK : Lt → Int
 | .mk k _ _ _ _ l=>if k = 8 then stripLL l k else k
def stripLL : List Lt → Int → Int
 | [],k=>k
 | x :: l,k=>match l with | []=>stripLK x | _=>k
end
def stripLF : List Lt → Int
 | []=>0
 | x :: _=>stripLK x
def endT : Tp:=.mk 1 0 noB [] []
def badH (k : Int) (wi : ByteArray) : Bool:=(decide (2 ≤ k ∧ k ≤ 7) != isRoleB wi) || ((!(decide (2 ≤ k ∧ k ≤ 7)) && !emptyB wi) || (decide (k = 4) || decide (k = 5)))
mutual
def lchk : Lt → List ByteArray → Int → Int × Int
 | .mk k wi so nm ls l,b,left=>if left - 1 < 0 then (2,left - 1) else if badH k wi = true then (1,left - 1)
  else if k = 9 then (if isVarB nm = false ∨ so ≠ 0 ∨ 0 < ls.length + l.length then (1,left - 1) else if inL b nm = false then (4,left - 1) else (0,left - 1))
  else if tCheck (.mk k so nm ls (List.replicate l.length endT)) ≠ 0 then (1,left - 1)
  else if k = 8 then (if stripLF l = 9 then (7,left - 1) else lchks l (b ++ [nm]) (left - 1))
  else lchks l b (left - 1)
def lchks : List Lt → List ByteArray → Int → Int × Int
 | [],_,left=>(0,left)
 | x :: l,b,left=>if (lchk x b left).1 ≠ 0 then lchk x b left else lchks l b (lchk x b left).2
end
mutual
theorem lchk_left : ∀ (x : Lt) (b : List ByteArray) (left : Int),0 ≤ left → (lchk x b left).2 < left ∧ ((lchk x b left).1 = 0 → 0 ≤ (lchk x b left).2)
 | .mk k wi so nm ls l,b,left,h=>by
  have k1:=fun h'=>lchks_left l b (left - 1) h'
  have k2:=fun h'=>lchks_left l (b ++ [nm]) (left - 1) h'
  unfold lchk
  by_cases h1 : left - 1 < 0
  · rw [if_pos h1];exact ⟨by simp only;omega,fun q=>by simp at q⟩
  rw [if_neg h1]
  (repeat' split) <;> first
   | (exact ⟨by simp only;omega,fun q=>by simp only;omega⟩)
   | (have:=k1 (by omega);exact ⟨by omega,this.2⟩)
   | (have:=k2 (by omega);exact ⟨by omega,this.2⟩)
theorem lchks_left : ∀ (l : List Lt) (b : List ByteArray) (left : Int),0 ≤ left → (lchks l b left).2 ≤ left ∧ ((lchks l b left).1 = 0 → 0 ≤ (lchks l b left).2)
 | [],b,left,h=>by unfold lchks;exact ⟨Int.le_refl _,fun _=>h⟩
 | x :: l,b,left,h=>by
  unfold lchks
  have h1:=lchk_left x b left h
  split
  · rename_i he
    exact ⟨by omega,fun q=>absurd q he⟩
  · rename_i he
    have h2:=lchks_left l b _ (h1.2 (by omega))
    exact ⟨by omega,h2.2⟩
end
mutual
def clB : Lt → List ByteArray → Bool
 | .mk k wi so nm ls l,b=>if k = 9 then inL b nm else if k = 8 then (if stripLF l = 9 then false else clBs l (b ++ [nm])) else clBs l b
def clBs : List Lt → List ByteArray → Bool
 | [],_=>true
 | x :: l,b=>if clB x b = true then clBs l b else false
end
theorem clBs_iff : ∀ {l : List Lt} {b : List ByteArray},clBs l b = true ↔ ∀ x ∈ l,clB x b = true
 | [],b=>by simp [clBs]
 | x :: l,b=>by
  unfold clBs
  by_cases h : clB x b = true
  · rw [if_pos h,clBs_iff];simp [h]
  · rw [if_neg h];simp [h]
theorem okL_head {k so : Int} {wi nm : ByteArray} {ls : List ByteArray} {l : List Lt} (h : badH k wi = false) : (2 ≤ k → k ≤ 7 → isRoleB wi = true) ∧ (¬ (2 ≤ k ∧ k ≤ 7) → wi = noB) ∧ k ≠ 4 ∧ k ≠ 5:=by
 unfold badH at h
 simp only [Bool.or_eq_false_iff,decide_eq_false_iff_not,bne_eq_false_iff_eq,Bool.and_eq_false_imp,Bool.not_eq_true',Bool.not_eq_false'] at h
 obtain ⟨h1,h2,h3,h4⟩:=h
 refine ⟨fun a b=>?_,fun a=>?_,h3,h4⟩
 · rw [← h1];simp [a,b]
 · exact empty_of (h2 (by simpa using a))
theorem rep_one {x : Tp} {n : Nat} (h : List.replicate n endT = [x]) : n = 1:=by
 have:=congrArg List.length h
 simpa using this
theorem rep_nil {n : Nat} (h : List.replicate n endT = []) : n = 0:=by
 have:=congrArg List.length h
 simpa using this
theorem okL_shape {k so : Int} {wi nm : ByteArray} {ls : List ByteArray} {l : List Lt} (hb : badH k wi = false) (h9 : k ≠ 9) (ht : tCheck (.mk k so nm ls (List.replicate l.length endT)) = 0) (hl : ∀ x ∈ l,OkL x) : OkL (.mk k wi so nm ls l):=by
 obtain ⟨q1,q2,q4,q5⟩:=okL_head (so:=so) (nm:=nm) (ls:=ls) (l:=l) hb
 have hok:=(ok_check ht).1
 generalize hR : List.replicate l.length endT = R at hok
 cases hok with
 | nil =>
  rw [List.eq_nil_of_length_eq_zero (rep_nil hR),q2 (by omega)]
  exact .nil
 | pass _ _ x hk h1 h3 hx =>
  obtain ⟨y,rfl⟩:=len_one (rep_one hR)
  exact .pass k so wi y hk (q1 (by omega) (by omega)) h1 h3 (hl y (by simp))
 | give _ _ _ hk=>omega
 | pick _ _ _ hk hlb hn _ =>
  refine .pick k wi ls l hk (q1 (by omega) (by omega)) hlb ?_ hl
  rw [← hn, ← hR];simp
 | bind _ x hn hx =>
  obtain ⟨y,rfl⟩:=len_one (rep_one hR)
  rw [q2 (by omega)]
  exact .bind nm y hn (hl y (by simp))
 | var=>exact absurd rfl h9
mutual
theorem ok_lchk : ∀ (x : Lt) (b : List ByteArray) (left : Int),0 ≤ left → (lchk x b left).1 = 0 → OkL x ∧ clB x b = true ∧ (lchk x b left).2 = left - x.size
 | .mk k wi so nm ls l,b,left,h0,h=>by
  unfold lchk at h ⊢
  by_cases h1 : left - 1 < 0
  · rw [if_pos h1] at h;simp at h
  rw [if_neg h1] at h ⊢
  by_cases h2 : badH k wi = true
  · rw [if_pos h2] at h;simp at h
  rw [if_neg h2] at h ⊢
  have h2 : badH k wi = false:=by simpa using h2
  by_cases h9 : k = 9
  · subst h9
    rw [if_pos rfl] at h ⊢
    split at h
    · simp at h
    rename_i h3
    rw [if_neg h3]
    split at h
    · simp at h
    rename_i h4
    rw [if_neg h4]
    simp only [not_or,Bool.not_eq_false,Nat.not_lt] at h3
    obtain ⟨h5,h6,h7⟩:=h3
    have h6 : so = 0:=by omega
    have e1 : ls = []:=List.eq_nil_of_length_eq_zero (by omega)
    have e2 : l = []:=List.eq_nil_of_length_eq_zero (by omega)
    subst h6 e1 e2
    rw [(okL_head (so:=0) (nm:=nm) (ls:=[]) (l:=[]) h2).2.1 (by omega)]
    refine ⟨.var nm h5,?_,by simp [Lt.size,Lt.sizes]⟩
    unfold clB
    rw [if_pos rfl]
    simpa using h4
  rw [if_neg h9] at h ⊢
  by_cases h3 : tCheck (.mk k so nm ls (List.replicate l.length endT)) ≠ 0
  · rw [if_pos h3] at h;simp at h
  rw [if_neg h3] at h ⊢
  have h3 : tCheck (.mk k so nm ls (List.replicate l.length endT)) = 0:=by simpa using h3
  have key : ∀ b',(lchks l b' (left - 1)).1 = 0 → OkL (.mk k wi so nm ls l) ∧ clBs l b' = true ∧ (lchks l b' (left - 1)).2 = left - ((Lt.sizes l + 1 : Nat) : Int):=fun b' hb=>by
   have:=oks_lchk l b' (left - 1) (by omega) hb
   exact ⟨okL_shape h2 h9 h3 this.1,this.2.1,by rw [this.2.2];omega⟩
  unfold clB
  rw [if_neg h9]
  simp only [Lt.size]
  by_cases h5 : k = 8
  · rw [if_pos h5] at h ⊢
    rw [if_pos h5]
    by_cases h6 : stripLF l = 9
    · rw [if_pos h6] at h;simp at h
    · rw [if_neg h6] at h ⊢
      rw [if_neg h6]
      exact key _ h
  · rw [if_neg h5] at h ⊢
    rw [if_neg h5]
    exact key _ h
theorem oks_lchk : ∀ (l : List Lt) (b : List ByteArray) (left : Int),0 ≤ left → (lchks l b left).1 = 0 → (∀ x ∈ l,OkL x) ∧ clBs l b = true ∧ (lchks l b left).2 = left - Lt.sizes l
 | [],b,left,h0,h=>⟨fun x hx=>(by cases hx),rfl,by simp [lchks,Lt.sizes]⟩
 | x :: l,b,left,h0,h=>by
  unfold lchks at h ⊢
  split at h
  · rename_i he;exact absurd h he
  · rename_i he
    rw [if_neg he]
    have h1:=ok_lchk x b left h0 (by omega)
    have h2:=(lchk_left x b left h0).2 (by omega)
    have h3:=oks_lchk l b _ h2 h
    refine ⟨fun y hy=>?_,by unfold clBs;rw [if_pos h1.2.1];exact h3.2.1,?_⟩
    · rcases List.mem_cons.1 hy with rfl | hy
      · exact h1.1
      · exact h3.1 y hy
    · rw [h3.2.2,h1.2.2]
      simp only [Lt.sizes]
      omega
end
def lCheck (x : Lt) : Int:=(lchk x [] 60).1
theorem okL_check {x : Lt} (h : lCheck x = 0) : OkL x ∧ clB x [] = true ∧ x.size ≤ 60:=by
 have h1:=ok_lchk x [] 60 (by omega) h
 have h2:=(lchk_left x [] 60 (by omega)).2 h
 exact ⟨h1.1,h1.2.1,by omega⟩

theorem endT_chks : ∀ (n : Nat) (b : List ByteArray) (left : Int),(n : Int) ≤ left → (tchks (List.replicate n endT) b left).1 = 0
 | 0,b,left,h=>rfl
 | n + 1,b,left,h=>by
  have e : tchk endT b left = (0,left - 1):=by
   unfold endT tchk
   rw [if_neg (by omega),if_neg (by decide +kernel),if_neg (by decide),if_neg (by decide)]
   rfl
  rw [List.replicate_succ,tchks,e,if_neg (by simp)]
  exact endT_chks n b (left - 1) (by omega)
theorem head_chk {k so : Int} {nm : ByteArray} {ls : List ByteArray} {n : Nat} (h : shapedB (.mk k so nm ls (List.replicate n endT)) = true) (h9 : k ≠ 9) (hn : n ≤ 6) (h8 : k = 8 → n = 1) : tCheck (.mk k so nm ls (List.replicate n endT)) = 0:=by
 unfold tCheck tchk
 rw [if_neg (by omega),if_neg (by simpa using h),if_neg h9]
 by_cases e : k = 8
 · rw [if_pos e]
   have:=h8 e
   subst this
   rw [if_neg (by decide)]
   exact endT_chks 1 _ _ (by omega)
 · rw [if_neg e]
   exact endT_chks n _ _ (by omega)
theorem okL_tCheck {k so : Int} {wi nm : ByteArray} {ls : List ByteArray} {l : List Lt} (h : OkL (.mk k wi so nm ls l)) (h9 : k ≠ 9) : badH k wi = false ∧ tCheck (.mk k so nm ls (List.replicate l.length endT)) = 0:=by
 have hne : isRoleB noB = false:=by decide +kernel
 have he : emptyB noB = true:=by decide +kernel
 cases h with
 | nil=>exact ⟨by simp [badH,hne,he],head_chk (by decide +kernel) h9 (by simp) (fun e=>by omega)⟩
 | pass _ _ _ x hk hw h1 h3 hx =>
  refine ⟨?_,head_chk ?_ h9 (by simp) (fun e=>by omega)⟩
  · rcases hk with rfl | rfl <;> simp [badH,hw]
  · rcases hk with rfl | rfl <;> simp [shapedB,kindOf,shapeB,sortB,h1,h3,he]
 | pick _ _ _ _ hk hw hl hn hx =>
  refine ⟨?_,head_chk ?_ h9 (by have:=labels_len hl;omega) (fun e=>by omega)⟩
  · rcases hk with rfl | rfl <;> simp [badH,hw]
  · rcases hk with rfl | rfl <;> simp [shapedB,kindOf,shapeB,sortB,hl,he,hn]
 | bind _ x hn hx =>
  refine ⟨by simp [badH,hne,he],head_chk ?_ h9 (by simp) (fun e=>by simp)⟩
  simp [shapedB,kindOf,shapeB,sortB,hn]
 | var=>exact absurd rfl h9
mutual
theorem lchk_eq : ∀ (x : Lt) (b : List ByteArray) (left : Int),0 ≤ left → OkL x → clB x b = true → if (x.size : Int) ≤ left then lchk x b left = (0,left - x.size) else (lchk x b left).1 = 2
 | .mk k wi so nm ls l,b,left,h0,ho,hc=>by
  by_cases h1 : left - 1 < 0
  · have e : lchk (.mk k wi so nm ls l) b left = (2,left - 1):=by unfold lchk;rw [if_pos h1]
    rw [e,if_neg (by simp only [Lt.size];omega)]
  by_cases h9 : k = 9
  · subst h9
    have hne : isRoleB noB = false:=by decide +kernel
    have he : emptyB noB = true:=by decide +kernel
    unfold clB at hc
    rw [if_pos rfl] at hc
    cases ho with
    | pass _ _ _ _ hk=>omega
    | pick _ _ _ _ hk=>omega
    | var _ hn =>
     have e : lchk (.mk 9 noB 0 nm [] []) b left = (0,left - 1):=by
      unfold lchk
      rw [if_neg h1,if_neg (by simp [badH,hne,he]),if_pos rfl,if_neg (by simp [hn]),if_neg (by simp [hc])]
     rw [e,if_pos (by simp only [Lt.size,Lt.sizes];omega)]
     simp [Lt.size,Lt.sizes]
  obtain ⟨g1,g2⟩:=okL_tCheck ho h9
  unfold clB at hc
  rw [if_neg h9] at hc
  have hk:=(okL_kids ho).2.2
  have key : ∀ b',clBs l b' = true → lchk (.mk k wi so nm ls l) b left = lchks l b' (left - 1) → if ((Lt.mk k wi so nm ls l).size : Int) ≤ left then lchk (.mk k wi so nm ls l) b left = (0,left - (Lt.mk k wi so nm ls l).size) else (lchk (.mk k wi so nm ls l) b left).1 = 2:=fun b' hb e=>by
   have:=lchks_eq l b' (left - 1) (by omega) hk hb
   have hz : (Lt.mk k wi so nm ls l).size = Lt.sizes l + 1:=by rw [Lt.size]
   rw [e,hz]
   by_cases hq : ((Lt.sizes l + 1 : Nat) : Int) ≤ left
   · rw [if_pos (by omega)] at this
     rw [if_pos hq,this]
     congr 1
     omega
   · rw [if_neg (by omega)] at this
     rw [if_neg hq]
     exact this
  by_cases h5 : k = 8
  · rw [if_pos h5] at hc
    by_cases h6 : stripLF l = 9
    · rw [if_pos h6] at hc;cases hc
    · rw [if_neg h6] at hc
      refine key _ hc ?_
      unfold lchk
      rw [if_neg h1,if_neg (by simpa using g1),if_neg h9,if_neg (by simpa using g2),if_pos h5,if_neg h6]
  · rw [if_neg h5] at hc
    refine key _ hc ?_
    unfold lchk
    rw [if_neg h1,if_neg (by simpa using g1),if_neg h9,if_neg (by simpa using g2),if_neg h5]
theorem lchks_eq : ∀ (l : List Lt) (b : List ByteArray) (left : Int),0 ≤ left → (∀ x ∈ l,OkL x) → clBs l b = true → if (Lt.sizes l : Int) ≤ left then lchks l b left = (0,left - Lt.sizes l) else (lchks l b left).1 = 2
 | [],b,left,h0,ho,hc=>by simp [Lt.sizes,lchks,h0]
 | x :: l,b,left,h0,ho,hc=>by
  have h1:=lchk_eq x b left h0 (ho x (by simp)) (clBs_iff.1 hc x (by simp))
  have hz : Lt.sizes (x :: l) = x.size + Lt.sizes l:=rfl
  rw [hz]
  unfold lchks
  by_cases hx : (x.size : Int) ≤ left
  · rw [if_pos hx] at h1
    have e0 : (if (lchk x b left).1 ≠ 0 then lchk x b left else lchks l b (lchk x b left).2) = lchks l b (left - x.size):=by rw [h1,if_neg (by simp)]
    rw [e0]
    show if ((x.size + Lt.sizes l : Nat) : Int) ≤ left then lchks l b (left - x.size) = (0,left - ((x.size + Lt.sizes l : Nat) : Int)) else (lchks l b (left - x.size)).1 = 2
    have h2:=lchks_eq l b (left - x.size) (by omega) (fun y hy=>ho y (by simp [hy])) (clBs_iff.2 fun y hy=>clBs_iff.1 hc y (by simp [hy]))
    by_cases hq : ((x.size + Lt.sizes l : Nat) : Int) ≤ left
    · rw [if_pos (by omega)] at h2
      rw [if_pos hq,h2]
      congr 1
      omega
    · rw [if_neg (by omega)] at h2
      rw [if_neg hq]
      exact h2
  · rw [if_neg hx] at h1
    rw [if_neg (by omega),if_pos (by rw [h1];decide)]
    exact h1
end
theorem strip_one (nm wi : ByteArray) (so : Int) (ls : List ByteArray) (x : Lt) : stripLK (.mk 8 wi so nm ls [x]) = stripLK x:=by
 rw [stripLK,if_pos rfl,stripLL]
theorem strip_not {k so : Int} {wi nm : ByteArray} {ls : List ByteArray} {l : List Lt} (h : k ≠ 8) : stripLK (.mk k wi so nm ls l) = k:=by
 rw [stripLK,if_neg h]
theorem clB_node {k so : Int} {wi nm : ByteArray} {ls : List ByteArray} {l : List Lt} {b : List ByteArray} (h9 : k ≠ 9) (h8 : k ≠ 8) : clB (.mk k wi so nm ls l) b = true ↔ ∀ x ∈ l,clB x b = true:=by
 rw [clB,if_neg h9,if_neg h8,clBs_iff]
theorem clB_bind {so : Int} {wi nm : ByteArray} {ls : List ByteArray} {x : Lt} {b : List ByteArray} : clB (.mk 8 wi so nm ls [x]) b = true ↔ stripLK x ≠ 9 ∧ clB x (b ++ [nm]) = true:=by
 have e2 : clB (.mk 8 wi so nm ls [x]) b = if stripLF [x] = 9 then false else clBs [x] (b ++ [nm]):=by rw [clB,if_neg (by decide),if_pos rfl]
 rw [e2]
 have e : stripLF [x] = stripLK x:=rfl
 by_cases h : stripLF [x] = 9
 · rw [if_pos h];rw [e] at h;simp [h]
 · rw [if_neg h,clBs_iff];rw [e] at h;simp [h]
end Go.Proofs.YtdcplkefmpjppaaGreatDoor.GG
