/- Conversations that are right; roles, and other names for them: plain. -/
import Derived.Test.YtlnmkdbcdcknjaaDoorG4
import Derived.Test.YtlnmkdbcdcknjaaDoorU6
import Derived.Test.YtlnmkdbcdcknjaaDoorU7
set_option linter.unusedVariables false
set_option linter.unusedSimpArgs false
namespace Go.Proofs.YtlnmkdbcdcknjaaDoor.GG
open Go.RowKit Go.Sw

inductive OkG : Gt → Prop
 | nil : OkG (.mk 1 noB noB 0 noB [] [])
 | send (fr to : ByteArray) (so : Int) (x : Gt) (hr : rolesB true fr to = true) (h1 : 1 ≤ so) (h3 : so ≤ 3) (hx : OkG x) : OkG (.mk 2 fr to so noB [] [x])
 | pick (fr to : ByteArray) (ls : List ByteArray) (l : List Gt) (hr : rolesB true fr to = true) (hl : labelsB ls = true) (hn : l.length = ls.length) (h : ∀ x ∈ l,OkG x) : OkG (.mk 6 fr to 0 noB ls l)
 | bind (nm : ByteArray) (x : Gt) (hn : isVarB nm = true) (hx : OkG x) : OkG (.mk 8 noB noB 0 nm [] [x])
 | var (nm : ByteArray) (hn : isVarB nm = true) : OkG (.mk 9 noB noB 0 nm [] [])
theorem roles_none {fr to : ByteArray} (h : rolesB false fr to = true) : fr = noB ∧ to = noB:=by
 simp [rolesB] at h
 exact ⟨empty_of h.1,empty_of h.2⟩
theorem okG_shape {k : Int} {fr to : ByteArray} {so : Int} {nm : ByteArray} {ls : List ByteArray} {l : List Gt} (h : shapedG (.mk k fr to so nm ls l) = true) (hl : ∀ x ∈ l,OkG x) : OkG (.mk k fr to so nm ls l):=by
 simp only [shapedG] at h
 split at h
 · rename_i i hi
   simp only [shapeG] at h
   split at h
   · rename_i hn
     unfold kindG at hi
     split at hi
     · cases hi
       simp only [Bool.if_false_right,Bool.and_eq_true,Bool.false_eq_true,if_false,decide_eq_true_eq,List.length_eq_zero_iff,if_true] at h hn
       obtain ⟨h1,h2,h3,h4⟩:=h
       obtain ⟨rfl,rfl⟩:=roles_none h4
       rename_i hk
       rw [sort_none h1,empty_of h2,h3,hn,hk]
       exact .nil
     split at hi
     · cases hi
       simp only [Bool.if_false_right,Bool.and_eq_true,Bool.false_eq_true,if_false,decide_eq_true_eq,List.length_eq_zero_iff,if_true] at h hn
       obtain ⟨h1,h2,h3,h4⟩:=h
       obtain ⟨x,rfl⟩:=len_one hn
       rename_i hk
       rw [empty_of h2,h3,hk]
       exact .send fr to so x h4 (sort_some h1).1 (sort_some h1).2 (hl x (by simp))
     split at hi
     · cases hi
       simp only [Bool.if_false_right,Bool.and_eq_true,Bool.false_eq_true,if_false,decide_eq_true_eq,List.length_eq_zero_iff,if_true] at h hn
       obtain ⟨h1,h2,h3,h4⟩:=h
       rename_i hk
       rw [sort_none h1,empty_of h2,hk]
       exact .pick fr to ls l h4 h3 hn hl
     split at hi
     · cases hi
       simp only [Bool.if_false_right,Bool.and_eq_true,Bool.false_eq_true,if_false,decide_eq_true_eq,List.length_eq_zero_iff,if_true] at h hn
       obtain ⟨h1,h2,h3,h4⟩:=h
       obtain ⟨rfl,rfl⟩:=roles_none h4
       obtain ⟨x,rfl⟩:=len_one hn
       rename_i hk
       rw [sort_none h1,h3,hk]
       exact .bind nm x h2 (hl x (by simp))
     split at hi
     · cases hi
       simp only [Bool.if_false_right,Bool.and_eq_true,Bool.false_eq_true,if_false,decide_eq_true_eq,List.length_eq_zero_iff,if_true] at h hn
       obtain ⟨h1,h2,h3,h4⟩:=h
       obtain ⟨rfl,rfl⟩:=roles_none h4
       rename_i hk
       rw [sort_none h1,h3,hn,hk]
       exact .var nm h2
     · cases hi
   · cases h
 · cases h
mutual
theorem ok_gchk : ∀ (x : Gt) (b : List ByteArray) (left : Int),0 ≤ left → (gchk x b left).1 = 0 → OkG x ∧ (gchk x b left).2 = left - x.size
 | .mk k fr to so nm ls l,b,left,h0,h=>by
  unfold gchk at h ⊢
  by_cases h1 : left - 1 < 0
  · rw [if_pos h1] at h;simp at h
  rw [if_neg h1] at h ⊢
  by_cases h2 : shapedG (.mk k fr to so nm ls l) = false
  · rw [if_pos h2] at h;simp at h
  rw [if_neg h2] at h ⊢
  have key : ∀ b',(gchks l b' (left - 1)).1 = 0 → OkG (.mk k fr to so nm ls l) ∧ (gchks l b' (left - 1)).2 = left - ((Gt.sizes l + 1 : Nat) : Int):=fun b' hb=>by
   have:=oks_gchk l b' (left - 1) (by omega) hb
   exact ⟨okG_shape (by simpa using h2) this.1,by rw [this.2];omega⟩
  simp only [Gt.size]
  by_cases h3 : k = 9
  · rw [if_pos h3] at h ⊢
    by_cases h4 : inL b nm = false
    · rw [if_pos h4] at h;simp at h
    · rw [if_neg h4] at h ⊢;exact key _ h
  rw [if_neg h3] at h ⊢
  by_cases h5 : k = 8
  · rw [if_pos h5] at h ⊢
    by_cases h6 : stripGF l = 9
    · rw [if_pos h6] at h;simp at h
    · rw [if_neg h6] at h ⊢;exact key _ h
  · rw [if_neg h5] at h ⊢;exact key _ h
theorem oks_gchk : ∀ (l : List Gt) (b : List ByteArray) (left : Int),0 ≤ left → (gchks l b left).1 = 0 → (∀ x ∈ l,OkG x) ∧ (gchks l b left).2 = left - Gt.sizes l
 | [],b,left,h0,h=>by
  refine ⟨fun x hx=>(by cases hx),?_⟩
  simp [gchks,Gt.sizes]
 | x :: l,b,left,h0,h=>by
  unfold gchks at h ⊢
  split at h
  · rename_i he;exact absurd h he
  · rename_i he
    rw [if_neg he]
    have h1:=ok_gchk x b left h0 (by omega)
    have h2:=(gchk_left x b left h0).2 (by omega)
    have h3:=oks_gchk l b _ h2 h
    refine ⟨fun y hy=>?_,?_⟩
    · rcases List.mem_cons.1 hy with rfl | hy
      · exact h1.1
      · exact h3.1 y hy
    · rw [h3.2,h1.2]
      simp only [Gt.sizes]
      omega
end
theorem okG_check {x : Gt} (h : gCheck x = 0) : OkG x ∧ x.size ≤ 60:=by
 have h1:=ok_gchk x [] 60 (by omega) h
 have h2:=(gchk_left x [] 60 (by omega)).2 h
 exact ⟨h1.1,by omega⟩

mutual
def ren (σ : ByteArray → ByteArray) : Gt → Gt
 | .mk k fr to so nm ls l=>.mk k (σ fr) (σ to) so nm ls (rens σ l)
def rens (σ : ByteArray → ByteArray) : List Gt → List Gt
 | []=>[]
 | x :: l=>ren σ x :: rens σ l
end
theorem role_size {s : ByteArray} (h : isRoleB s = true) : s.size = 1:=by
 unfold isRoleB at h
 cases e : ((s.size : Int) == 1) with
 | true=>have:=eq_of_beq e;omega
 | false=>rw [e] at h;simp at h
theorem roles_two {fr to : ByteArray} (h : rolesB true fr to = true) : isRoleB fr = true ∧ isRoleB to = true:=by
 simp [rolesB] at h
 exact ⟨h.1,h.2.1⟩
end Go.Proofs.YtlnmkdbcdcknjaaDoor.GG
