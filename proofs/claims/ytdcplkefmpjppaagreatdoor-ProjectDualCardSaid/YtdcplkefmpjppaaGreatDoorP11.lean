/- What a role does in a conversation: plain. -/
import Derived.Test.YtdcplkefmpjppaaGreatDoorP7
import Derived.Test.YtdcplkefmpjppaaGreatDoorG5
-- TYPESA
set_option linter.unusedVariables false
set_option linter.unusedSimpArgs false
namespace Go.Proofs.YtdcplkefmpjppaaGreatDoor.GG
open Go.RowKit Go.Sw

def Lt.kd : Lt → Int
 | .mk k _ _ _ _ _=>k
mutual
def innL : Lt → Lt
 | .mk k wi so nm ls l=>if k = 8 then innLs l (.mk k wi so nm ls l) else .mk k wi so nm ls l
def innLs : List Lt → Lt → Lt
 | [],y=>y
 | x :: _,_=>innL x
end
def Lt.nm : Lt → ByteArray
 | .mk _ _ _ nm _ _=>nm
def varL (nm : ByteArray) : Lt:=.mk 9 noB 0 nm [] []
def recL (nm : ByteArray) (x : Lt) : Lt:=if x.kd = 1 then x else if (innL x).kd = 9 then (if (innL x).nm.toList = nm.toList then endL else x) else .mk 8 noB 0 nm [] [x]
def fold1 : Lt → List Lt → Option Lt
 | x,[]=>some x
 | x,y :: l=>match ms 60 x y with | some z=>fold1 z l | none=>none
def foldL : List Lt → Option Lt
 | []=>none
 | x :: l=>fold1 x l
def comL (r : ByteArray) (k : Int) (fr to : ByteArray) (so : Int) (ls : List ByteArray) (xs : List Lt) : Option Lt :=
 if r.toList = fr.toList ∨ r.toList = to.toList then some (if r.toList = to.toList then .mk (k + 1) fr so noB ls xs else .mk k to so noB ls xs) else foldL xs
mutual
def ofP (r : ByteArray) : Gt → Option Lt
 | .mk k fr to so nm ls l=>if k = 1 then some endL else if k = 9 then some (varL nm) else if k = 8 then (match ofPF r l with | some x=>some (recL nm x) | none=>none) else match ofPs r l with | some xs=>comL r k fr to so ls xs | none=>none
def ofPs (r : ByteArray) : List Gt → Option (List Lt)
 | []=>some []
 | x :: l=>match ofP r x with
  | some y=>match ofPs r l with | some ys=>some (y :: ys) | none=>none
  | none=>none
def ofPF (r : ByteArray) : List Gt → Option Lt
 | []=>none
 | x :: _=>ofP r x
end
theorem ofP_eq (r : ByteArray) (k : Int) (fr to : ByteArray) (so : Int) (nm : ByteArray) (ls : List ByteArray) (l : List Gt) : ofP r (.mk k fr to so nm ls l) = if k = 1 then some endL else if k = 9 then some (varL nm) else if k = 8 then (match ofPF r l with | some x=>some (recL nm x) | none=>none) else match ofPs r l with | some xs=>comL r k fr to so ls xs | none=>none:=by rw [ofP]
theorem ofPs_some {r : ByteArray} : ∀ {l : List Gt} {xs : List Lt},ofPs r l = some xs → xs.length = l.length ∧ ∀ (j : Nat) x y,l[j]? = some x → xs[j]? = some y → ofP r x = some y
 | [],xs,h=>by
  unfold ofPs at h
  cases h
  exact ⟨rfl,fun j x y h=>by simp at h⟩
 | x :: l,xs,h=>by
  unfold ofPs at h
  cases hx : ofP r x with
  | none=>rw [hx] at h;cases h
  | some y =>
   rw [hx] at h
   cases hl : ofPs r l with
   | none=>rw [hl] at h;cases h
   | some ys =>
    rw [hl] at h
    cases h
    obtain ⟨h1,h2⟩:=ofPs_some hl
    refine ⟨by simp [h1],fun j a b ha hb=>?_⟩
    cases j with
    | zero=>simp at ha hb;rw [← ha, ← hb];exact hx
    | succ j=>exact h2 j a b (by simpa using ha) (by simpa using hb)
theorem ofPs_take {r : ByteArray} : ∀ {l : List Gt} {j : Nat} {x : Gt} {ys : List Lt},l[j]? = some x → ofPs r (l.take j) = some ys → ofPs r (l.take (j + 1)) = match ofP r x with | some y=>some (ys ++ [y]) | none=>none
 | a :: l,0,x,ys,h,h'=>by
  simp at h;subst h
  simp only [List.take_zero,ofPs] at h'
  cases h'
  simp only [List.take_succ_cons,List.take_zero,ofPs]
  cases ofP r a <;> rfl
 | a :: l,j + 1,x,ys,h,h'=>by
  simp only [List.take_succ_cons] at h' ⊢
  unfold ofPs at h' ⊢
  cases ha : ofP r a with
  | none=>rw [ha] at h';cases h'
  | some y =>
   rw [ha] at h'
   cases hl : ofPs r (l.take j) with
   | none=>rw [hl] at h';cases h'
   | some zs =>
    rw [hl] at h'
    cases h'
    simp only
    rw [ofPs_take (by simpa using h) hl]
    cases ofP r x <;> rfl
theorem ofPs_none {r : ByteArray} : ∀ {l : List Gt} {j : Nat},ofPs r (l.take j) = none → ofPs r l = none
 | [],j,h=>by simp [ofPs] at h
 | a :: l,0,h=>by simp [ofPs] at h
 | a :: l,j + 1,h=>by
  simp only [List.take_succ_cons] at h
  unfold ofPs at h ⊢
  cases ha : ofP r a with
  | none=>rfl
  | some y =>
   rw [ha] at h
   simp only at h ⊢
   cases hl : ofPs r (l.take j) with
   | none=>rw [ofPs_none hl]
   | some ys=>rw [hl] at h;cases h

theorem fold1_ok : ∀ (l : List Lt) (x z : Lt),OkL x → (∀ y ∈ l,OkL y) → fold1 x l = some z → OkL z ∧ z.size ≤ x.size + Lt.sizes l
 | [],x,z,hx,_,h=>by
  unfold fold1 at h
  cases h
  exact ⟨hx,by simp [Lt.sizes]⟩
 | y :: l,x,z,hx,hl,h=>by
  unfold fold1 at h
  cases hm : ms 60 x y with
  | none=>rw [hm] at h;cases h
  | some w =>
   rw [hm] at h
   obtain ⟨h1,h2⟩:=ms_ok 60 x y w hx (hl y (by simp)) hm
   obtain ⟨h3,h4⟩:=fold1_ok l w z h1 (fun y hy=>hl y (by simp [hy])) h
   exact ⟨h3,by simp only [Lt.sizes];omega⟩
theorem recL_ok {nm : ByteArray} {x : Lt} (hn : isVarB nm = true) (h : OkL x) : OkL (recL nm x) ∧ (recL nm x).size ≤ x.size + 1:=by
 unfold recL
 split
 · exact ⟨h,by omega⟩
 split
 · split
   · exact ⟨.nil,by have:=x.size_pos;simp [endL,Lt.size,Lt.sizes]⟩
   · exact ⟨h,by omega⟩
 · exact ⟨.bind nm x hn h,by simp [Lt.size,Lt.sizes]⟩
theorem ofP_ok {r : ByteArray} {g : Gt} (h : OkG g) : ∀ x,ofP r g = some x → OkL x ∧ x.size ≤ g.size:=by
 have sum : ∀ (l : List Gt) (xs : List Lt),(∀ y ∈ l, ∀ x,ofP r y = some x → OkL x ∧ x.size ≤ y.size) → ofPs r l = some xs → (∀ x ∈ xs,OkL x) ∧ Lt.sizes xs ≤ Gt.sizes l:=by
  intro l
  induction l with
  | nil=>intro xs _ h;unfold ofPs at h;cases h;exact ⟨fun x hx=>(by cases hx),by simp [Lt.sizes]⟩
  | cons y l ih =>
   intro xs hh h
   unfold ofPs at h
   cases hx : ofP r y with
   | none=>rw [hx] at h;cases h
   | some z =>
    rw [hx] at h
    cases hl : ofPs r l with
    | none=>rw [hl] at h;cases h
    | some zs =>
     rw [hl] at h
     cases h
     obtain ⟨h1,h2⟩:=ih zs (fun y hy=>hh y (by simp [hy])) hl
     obtain ⟨h3,h4⟩:=hh y (by simp) z hx
     refine ⟨fun w hw=>?_,by simp only [Lt.sizes,Gt.sizes];omega⟩
     rcases List.mem_cons.1 hw with rfl | hw
     · exact h3
     · exact h1 w hw
 have fold : ∀ (xs : List Lt) z,(∀ x ∈ xs,OkL x) → foldL xs = some z → OkL z ∧ z.size ≤ Lt.sizes xs:=fun xs z hx h=>by
  cases xs with
  | nil=>cases h
  | cons x xs =>
   obtain ⟨h1,h2⟩:=fold1_ok xs x z (hx x (by simp)) (fun y hy=>hx y (by simp [hy])) h
   exact ⟨h1,by simp only [Lt.sizes];omega⟩
 induction h with
 | nil =>
  intro x h
  rw [ofP_eq,if_pos rfl] at h
  cases h
  exact ⟨.nil,by simp [endL,Lt.size,Lt.sizes,Gt.size,Gt.sizes]⟩
 | send fr to so x hr h1 h3 hx ih =>
  intro z h
  obtain ⟨r1,r2⟩:=roles_two hr
  rw [ofP_eq,if_neg (by decide),if_neg (by decide),if_neg (by decide)] at h
  cases hs : ofPs r [x] with
  | none=>rw [hs] at h;cases h
  | some xs =>
   rw [hs] at h
   obtain ⟨k1,k2⟩:=sum [x] xs (fun y hy=>by rw [show y = x by simpa using hy];exact ih) hs
   have kl:=(ofPs_some hs).1
   simp only [Gt.sizes] at k2
   simp only [comL] at h
   split at h
   · obtain ⟨y,rfl⟩:=len_one kl
     cases h
     simp only [Lt.sizes] at k2
     split
     · exact ⟨.pass 3 so fr y (.inr rfl) r1 h1 h3 (k1 y (by simp)),by simp only [Lt.size,Lt.sizes,Gt.size,Gt.sizes];omega⟩
     · exact ⟨.pass 2 so to y (.inl rfl) r2 h1 h3 (k1 y (by simp)),by simp only [Lt.size,Lt.sizes,Gt.size,Gt.sizes];omega⟩
   · obtain ⟨q1,q2⟩:=fold xs z k1 h
     exact ⟨q1,by simp only [Gt.size,Gt.sizes];omega⟩
 | pick fr to ls l hr hl hn hx ih =>
  intro z h
  obtain ⟨r1,r2⟩:=roles_two hr
  rw [ofP_eq,if_neg (by decide),if_neg (by decide),if_neg (by decide)] at h
  cases hs : ofPs r l with
  | none=>rw [hs] at h;cases h
  | some xs =>
   rw [hs] at h
   obtain ⟨k1,k2⟩:=sum l xs ih hs
   have kl:=(ofPs_some hs).1
   simp only [comL] at h
   split at h
   · cases h
     split
     · exact ⟨.pick 7 fr ls xs (.inr rfl) r1 hl (by omega) k1,by simp only [Lt.size,Gt.size];omega⟩
     · exact ⟨.pick 6 to ls xs (.inl rfl) r2 hl (by omega) k1,by simp only [Lt.size,Gt.size];omega⟩
   · obtain ⟨q1,q2⟩:=fold xs z k1 h
     exact ⟨q1,by simp only [Gt.size];omega⟩
 | bind nm x hn hx ih =>
  intro z h
  rw [ofP_eq,if_neg (by decide),if_neg (by decide),if_pos rfl] at h
  simp only [ofPF] at h
  cases hs : ofP r x with
  | none=>rw [hs] at h;cases h
  | some y =>
   rw [hs] at h
   cases h
   obtain ⟨k1,k2⟩:=ih y hs
   obtain ⟨q1,q2⟩:=recL_ok hn k1
   exact ⟨q1,by simp only [Gt.size,Gt.sizes];omega⟩
 | var nm hn =>
  intro z h
  rw [ofP_eq,if_neg (by decide),if_pos rfl] at h
  cases h
  exact ⟨.var nm hn,by simp [varL,Lt.size,Lt.sizes,Gt.size,Gt.sizes]⟩
end Go.Proofs.YtdcplkefmpjppaaGreatDoor.GG
/- What a role does hangs on no names; one that has no part does nothing: plain. -/
-- TYPESA
namespace Go.Proofs.YtdcplkefmpjppaaGreatDoor.GG
open Go.RowKit Go.Sw

structure Sg (σ : ByteArray → ByteArray) : Prop where
 two : ∀ s, σ (σ s) = s
 emp : σ noB = noB
 role : ∀ s,isRoleB (σ s) = isRoleB s
theorem ofPs_ok {r : ByteArray} {l : List Gt} {xs : List Lt} (h : ∀ y ∈ l,OkG y) (hs : ofPs r l = some xs) : ∀ x ∈ xs,OkL x:=fun x hx=>by
 obtain ⟨h1,h2⟩:=ofPs_some hs
 obtain ⟨j,hj,rfl⟩:=List.getElem_of_mem hx
 exact (ofP_ok (h _ (List.getElem_mem (l:=l) (n:=j) (by omega))) _ (h2 j _ _ (List.getElem?_eq_getElem (by omega)) (List.getElem?_eq_getElem hj))).1
end Go.Proofs.YtdcplkefmpjppaaGreatDoor.GG
/- A role that has no part does nothing: plain; project.inner walked. -/
-- TYPESA
namespace Go.Proofs.YtdcplkefmpjppaaGreatDoor.GG
open Go.RowKit Go.Sw

theorem gchks_each : ∀ {l : List Gt} {b : List ByteArray} {left : Int},0 ≤ left → (gchks l b left).1 = 0 → ∀ x ∈ l, ∃ left',0 ≤ left' ∧ (gchk x b left').1 = 0
 | [],b,left,h0,h,x,hx=>by cases hx
 | y :: l,b,left,h0,h,x,hx=>by
  unfold gchks at h
  split at h
  · rename_i he;exact absurd h he
  · rename_i he
    have he : (gchk y b left).1 = 0:=by omega
    rcases List.mem_cons.1 hx with rfl | hx
    · exact ⟨left,h0,he⟩
    · exact gchks_each ((gchk_left y b left h0).2 he) h x hx
theorem gchk_node {k : Int} {fr to : ByteArray} {so : Int} {nm : ByteArray} {ls : List ByteArray} {l : List Gt} {b : List ByteArray} {left : Int} (h0 : 0 ≤ left) (h : (gchk (.mk k fr to so nm ls l) b left).1 = 0) :
 (k = 9 → nm ∈ b) ∧ ∀ x ∈ l, ∃ left',0 ≤ left' ∧ (gchk x (if k = 8 then b ++ [nm] else b) left').1 = 0:=by
 unfold gchk at h
 by_cases h1 : left - 1 < 0
 · rw [if_pos h1] at h;simp at h
 rw [if_neg h1] at h
 by_cases h2 : shapedG (.mk k fr to so nm ls l) = false
 · rw [if_pos h2] at h;simp at h
 rw [if_neg h2] at h
 by_cases h3 : k = 9
 · subst h3
   rw [if_pos rfl] at h
   rw [if_neg (by decide)]
   by_cases h4 : inL b nm = false
   · rw [if_pos h4] at h;simp at h
   · rw [if_neg h4] at h
     exact ⟨fun _=>inL_iff.1 (by simpa using h4),gchks_each (by omega) h⟩
 rw [if_neg h3] at h
 by_cases h5 : k = 8
 · subst h5
   rw [if_pos rfl] at h
   rw [if_pos rfl]
   by_cases h6 : stripGF l = 9
   · rw [if_pos h6] at h;simp at h
   · rw [if_neg h6] at h
     exact ⟨fun e=>absurd e h3,gchks_each (by omega) h⟩
 · rw [if_neg h5] at h
   rw [if_neg h5]
   exact ⟨fun e=>absurd e h3,gchks_each (by omega) h⟩
set_option maxHeartbeats 8000000 in
set_option maxRecDepth 100000 in
theorem inner_fn (Γ : Gl) {x : Lt} (hx : OkL x) : DFn Tryz.prog Γ 64 [x.d] (innL x).d:=by
 obtain ⟨R,hR⟩ : ∃ R,innL x = R:=⟨_,rfl⟩
 rw [hR]
 obtain ⟨k,wi,so,nm,ls,l⟩:=x
 simp only [Lt.d]
 obtain ⟨rk,rw',rs,rn,rls,rl⟩:=R
 refine fn_of_swp (N:=11) Tryz.func64 rfl (by decide) rfl rfl (by simp) (fun C h0=>?_)
 simp only [argE]
 repeat' (first|(with_reducible apply zz1)|((with_reducible apply zz2);rfl;intro K' hK';simp only [WA,simprocAttr];(repeat (constructor;focus (clear hK';intros;simp_all;done)));(try (apply hK';clear hK' K')))|((with_reducible apply zz3);rfl;all_goals (intro h;try exact absurd h (by decide))))
 refine swp_loop (α := Lt) (fun y=>[(1,.ref 0 0),(2,.ref 1 0)]) (fun y=>[(0,.cells y.cs),(1,.cells [.d (iD 0),.d (sD noB),.d (iD 0),.d (sD noB),.nil,.nil])])
  (fun y=>innL y = .mk rk rw' rs rn rls rl ∧ OkL y) Lt.size (.mk k wi so nm ls l) ⟨hR,hx⟩ (by simp only [Lt.cs];refine sub_of h0 ?_ ?_ ?_ <;> simp only [US,WA,simprocAttr]) (fun y hy=>?_)
 obtain ⟨hy,oy⟩:=hy
 clear hR hx
 obtain ⟨yk,yw,ys,yn,yls,yl⟩:=y
 simp only [Lt.cs]
 by_cases h8 : yk = 8
 · subst h8
   obtain ⟨z,rfl⟩ : ∃ z,yl = [z]:=by
    cases oy with
    | pass _ _ _ _ hk=>omega
    | pick _ _ _ _ hk=>omega
    | bind _ x=>exact ⟨x,rfl⟩
   have oz : OkL z:=(okL_kids oy).2.2 z (by simp)
   have hz : innL z = .mk rk rw' rs rn rls rl:=by
    rw [innL,if_pos rfl,innLs] at hy
    exact hy
   obtain ⟨zk,zw,zs,zn,zls,zl⟩:=z
   simp only [Lt.ds,Lt.d]
   repeat' (first|(with_reducible apply zz1)|((with_reducible apply zz2);rfl;intro K' hK';simp only [WA,simprocAttr,List.getD_cons_zero,List.length_cons,List.length_nil];(repeat (constructor;focus (clear hK';intros;simp_all;done)));(try (apply hK';clear hK' K')))|((with_reducible apply zz3);rfl;all_goals (intro h;try exact absurd h (by decide))))
   refine ⟨.mk zk zw zs zn zls zl,⟨hz,oz⟩,by simp only [Lt.size,Lt.sizes];omega,by simp only [Lt.cs];refine sub_of h0 ?_ ?_ ?_ <;> simp only [US,WA,simprocAttr]⟩
 · have g8 : (yk == 8) = false:=by simpa using h8
   rw [innL,if_neg h8] at hy
   cases hy
   repeat' (first|(with_reducible apply zz1)|((with_reducible apply zz2);rfl;intro K' hK';simp only [WA,simprocAttr,g8];(repeat (constructor;focus (clear hK';intros;simp_all;done)));(try (apply hK';clear hK' K')))|((with_reducible apply zz3);rfl;all_goals (intro h;try exact absurd h (by decide))))
   simp only [Kret,retL,retOne,oneV,WA,simprocAttr,Lt.d]
end Go.Proofs.YtdcplkefmpjppaaGreatDoor.GG
