/- Types as they are written: plain. -/
import Derived.Test.YtdcplkefmpjppaaGreatDoorU6
import Derived.Lib.Join
import Derived.Test.YtdcplkefmpjppaaGreatDoorG4
import Derived.Test.YtdcplkefmpjppaaGreatDoorSwC
import Derived.Test.YtdcplkefmpjppaaGreatDoorFrame
set_option linter.unusedVariables false
set_option linter.unusedSimpArgs false
namespace Go.Proofs.YtdcplkefmpjppaaGreatDoor.GG
open Go.RowKit Go.Sw

theorem labGo_names : ∀ (l : List ByteArray) (p : ByteArray),labGo p l = true → ∀ s ∈ l,isNameB s = true
 | [],p,h,s,hs=>by cases hs
 | x :: l,p,h,s,hs=>by
  rw [labGo] at h
  by_cases hx : isNameB x = true
  · rw [if_pos hx] at h
    by_cases hp : leB x p = true
    · rw [if_pos hp] at h;cases h
    · rw [if_neg hp] at h
      rcases List.mem_cons.1 hs with rfl | hs
      · exact hx
      · exact labGo_names l x h s hs
  · rw [if_neg hx] at h;cases h
theorem labels_names {ls : List ByteArray} (h : labelsB ls = true) : ∀ s ∈ ls,isNameB s = true:=by
 unfold labelsB at h
 split at h
 · cases h
 split at h
 · cases h
 cases ls with
 | nil=>intro s hs;cases hs
 | cons x l =>
  rw [labAll] at h
  by_cases hx : isNameB x = true
  · rw [if_pos hx] at h
    intro s hs
    rcases List.mem_cons.1 hs with rfl | hs
    · exact hx
    · exact labGo_names l x h s hs
  · rw [if_neg hx] at h;cases h
theorem labels_pos {ls : List ByteArray} (h : labelsB ls = true) : 1 ≤ ls.length:=by
 unfold labelsB at h
 (repeat' split at h) <;> first | omega | cases h
end Go.Proofs.YtdcplkefmpjppaaGreatDoor.GG
/- Conversations that are right; roles, and other names for them: plain. -/
namespace Go.Proofs.YtdcplkefmpjppaaGreatDoor.GG
open Go.RowKit Go.Sw

inductive OkG : Gt → Prop
 | nil : OkG (.mk 1 noB noB 0 noB [] [])
 | send (fr to : ByteArray) (so : Int) (x : Gt) (hr : rolesB true fr to = true) (h1 : 1 ≤ so) (h3 : so ≤ 3) (hx : OkG x) : OkG (.mk 2 fr to so noB [] [x])
 | pick (fr to : ByteArray) (ls : List ByteArray) (l : List Gt) (hr : rolesB true fr to = true) (hl : labelsB ls = true) (hn : l.length = ls.length) (h : ∀ x ∈ l,OkG x) : OkG (.mk 6 fr to 0 noB ls l)
 | bind (nm : ByteArray) (x : Gt) (hn : isVarB nm = true) (hx : OkG x) : OkG (.mk 8 noB noB 0 nm [] [x])
 | var (nm : ByteArray) (hn : isVarB nm = true) : OkG (.mk 9 noB noB 0 nm [] [])
theorem roles_none {fr to : ByteArray} (h : rolesB false fr to = true) : fr = noB ∧ to = noB:=by
 simp [rolesB] at h
 exact ⟨empty_of h.1,empty_of h.2⟩
theorem okG_shape {k : Int} {fr to : ByteArray} {so : Int} {nm : ByteArray} {ls : List ByteArray} {l : List Gt} (h : shapedG (.mk k fr to so nm ls l) = true) (hl : ∀ x ∈ l,OkG x) : OkG (.mk k fr to so nm ls l):=by
 simp only [shapedG] at h
 split at h
 · rename_i i hi
   simp only [shapeG] at h
   split at h
   · rename_i hn
     unfold kindG at hi
     split at hi
     · cases hi
       simp only [Bool.if_false_right,Bool.and_eq_true,Bool.false_eq_true,if_false,decide_eq_true_eq,List.length_eq_zero_iff,if_true] at h hn
       obtain ⟨h1,h2,h3,h4⟩:=h
       obtain ⟨rfl,rfl⟩:=roles_none h4
       rename_i hk
       rw [sort_none h1,empty_of h2,h3,hn,hk]
       exact .nil
     split at hi
     · cases hi
       simp only [Bool.if_false_right,Bool.and_eq_true,Bool.false_eq_true,if_false,decide_eq_true_eq,List.length_eq_zero_iff,if_true] at h hn
       obtain ⟨h1,h2,h3,h4⟩:=h
       obtain ⟨x,rfl⟩:=len_one hn
       rename_i hk
       rw [empty_of h2,h3,hk]
       exact .send fr to so x h4 (sort_some h1).1 (sort_some h1).2 (hl x (by simp))
     split at hi
     · cases hi
       simp only [Bool.if_false_right,Bool.and_eq_true,Bool.false_eq_true,if_false,decide_eq_true_eq,List.length_eq_zero_iff,if_true] at h hn
       obtain ⟨h1,h2,h3,h4⟩:=h
       rename_i hk
       rw [sort_none h1,empty_of h2,hk]
       exact .pick fr to ls l h4 h3 hn hl
     split at hi
     · cases hi
       simp only [Bool.if_false_right,Bool.and_eq_true,Bool.false_eq_true,if_false,decide_eq_true_eq,List.length_eq_zero_iff,if_true] at h hn
       obtain ⟨h1,h2,h3,h4⟩:=h
       obtain ⟨rfl,rfl⟩:=roles_none h4
       obtain ⟨x,rfl⟩:=len_one hn
       rename_i hk
       rw [sort_none h1,h3,hk]
       exact .bind nm x h2 (hl x (by simp))
     split at hi
     · cases hi
       simp only [Bool.if_false_right,Bool.and_eq_true,Bool.false_eq_true,if_false,decide_eq_true_eq,List.length_eq_zero_iff,if_true] at h hn
       obtain ⟨h1,h2,h3,h4⟩:=h
       obtain ⟨rfl,rfl⟩:=roles_none h4
       rename_i hk
       rw [sort_none h1,h3,hn,hk]
       exact .var nm h2
     · cases hi
   · cases h
 · cases h
mutual
theorem ok_gchk : ∀ (x : Gt) (b : List ByteArray) (left : Int),0 ≤ left → (gchk x b left).1 = 0 → OkG x ∧ (gchk x b left).2 = left - x.size
 | .mk k fr to so nm ls l,b,left,h0,h=>by
  unfold gchk at h ⊢
  by_cases h1 : left - 1 < 0
  · rw [if_pos h1] at h;simp at h
  rw [if_neg h1] at h ⊢
  by_cases h2 : shapedG (.mk k fr to so nm ls l) = false
  · rw [if_pos h2] at h;simp at h
  rw [if_neg h2] at h ⊢
  have key : ∀ b',(gchks l b' (left - 1)).1 = 0 → OkG (.mk k fr to so nm ls l) ∧ (gchks l b' (left - 1)).2 = left - ((Gt.sizes l + 1 : Nat) : Int):=fun b' hb=>by
   have:=oks_gchk l b' (left - 1) (by omega) hb
   exact ⟨okG_shape (by simpa using h2) this.1,by rw [this.2];omega⟩
  simp only [Gt.size]
  by_cases h3 : k = 9
  · rw [if_pos h3] at h ⊢
    by_cases h4 : inL b nm = false
    · rw [if_pos h4] at h;simp at h
    · rw [if_neg h4] at h ⊢;exact key _ h
  rw [if_neg h3] at h ⊢
  by_cases h5 : k = 8
  · rw [if_pos h5] at h ⊢
    by_cases h6 : stripGF l = 9
    · rw [if_pos h6] at h;simp at h
    · rw [if_neg h6] at h ⊢;exact key _ h
  · rw [if_neg h5] at h ⊢;exact key _ h
theorem oks_gchk : ∀ (l : List Gt) (b : List ByteArray) (left : Int),0 ≤ left → (gchks l b left).1 = 0 → (∀ x ∈ l,OkG x) ∧ (gchks l b left).2 = left - Gt.sizes l
 | [],b,left,h0,h=>by
  refine ⟨fun x hx=>(by cases hx),?_⟩
  simp [gchks,Gt.sizes]
 | x :: l,b,left,h0,h=>by
  unfold gchks at h ⊢
  split at h
  · rename_i he;exact absurd h he
  · rename_i he
    rw [if_neg he]
    have h1:=ok_gchk x b left h0 (by omega)
    have h2:=(gchk_left x b left h0).2 (by omega)
    have h3:=oks_gchk l b _ h2 h
    refine ⟨fun y hy=>?_,?_⟩
    · rcases List.mem_cons.1 hy with rfl | hy
      · exact h1.1
      · exact h3.1 y hy
    · rw [h3.2,h1.2]
      simp only [Gt.sizes]
      omega
end
theorem okG_check {x : Gt} (h : gCheck x = 0) : OkG x ∧ x.size ≤ 60:=by
 have h1:=ok_gchk x [] 60 (by omega) h
 have h2:=(gchk_left x [] 60 (by omega)).2 h
 exact ⟨h1.1,by omega⟩

mutual
def rolesL : Gt → List ByteArray
 | .mk _ fr to _ _ _ l=>(if emptyB fr = true then [] else [fr,to]) ++ rolesLs l
def rolesLs : List Gt → List ByteArray
 | []=>[]
 | x :: l=>rolesL x ++ rolesLs l
end
mutual
def ren (σ : ByteArray → ByteArray) : Gt → Gt
 | .mk k fr to so nm ls l=>.mk k (σ fr) (σ to) so nm ls (rens σ l)
def rens (σ : ByteArray → ByteArray) : List Gt → List Gt
 | []=>[]
 | x :: l=>ren σ x :: rens σ l
end
theorem rolesLs_flat : ∀ l,rolesLs l = l.flatMap rolesL
 | []=>rfl
 | x :: l=>by simp [rolesLs,rolesLs_flat l]
mutual
theorem roles_len : ∀ x : Gt,(rolesL x).length ≤ 2 * x.size
 | .mk _ fr to _ _ _ l=>by
  have:=roless_len l
  simp only [rolesL,List.length_append,Gt.size]
  split <;> simp <;> omega
theorem roless_len : ∀ l : List Gt,(rolesLs l).length ≤ 2 * Gt.sizes l
 | []=>by simp [rolesLs,Gt.sizes]
 | x :: l=>by
  have:=roles_len x
  have:=roless_len l
  simp only [rolesLs,List.length_append,Gt.sizes]
  omega
end
theorem role_size {s : ByteArray} (h : isRoleB s = true) : s.size = 1:=by
 unfold isRoleB at h
 cases e : ((s.size : Int) == 1) with
 | true=>have:=eq_of_beq e;omega
 | false=>rw [e] at h;simp at h
theorem role_some {s : ByteArray} (h : isRoleB s = true) : emptyB s = false:=by
 cases e : emptyB s with
 | false=>rfl
 | true =>
  have h1:=role_size h
  rw [empty_of e] at h1
  exact absurd h1 (by decide)
theorem roles_two {fr to : ByteArray} (h : rolesB true fr to = true) : isRoleB fr = true ∧ isRoleB to = true:=by
 simp [rolesB] at h
 exact ⟨h.1,h.2.1⟩
end Go.Proofs.YtdcplkefmpjppaaGreatDoor.GG
/- Arguments that are types, conversations, what roles do, lists of texts, texts. -/
-- TYPESA
namespace Go.Proofs.YtdcplkefmpjppaaGreatDoor
open Go.RowKit Go.Sw

def GW (W : World) : Gl:=⟨W.heap.size,fun w => ∀ b,b < W.heap.size → w.heap[b]? = W.heap[b]?,fun w w' h g b hb=>(h b hb).trans (g b hb)⟩
def TY : List TypeId:=[38,36,25,23,22,9,3]
theorem TY_ok : TY.all (okT Tryz.prog TY) = true:=by kernel_rfl
theorem gds_map : ∀ l : List GG.Gt,GG.Gt.ds l = l.map GG.Gt.d
 | []=>rfl
 | x :: l=>by simp [GG.Gt.ds,gds_map l]
set_option maxRecDepth 100000 in
theorem tyStrs {m : Nat} {ds : List D} (h : Ty Tryz.prog m 22 ds) : ∃ ls : List ByteArray,ds = [.slc (ls.map sD)] ∧ ls.length ≤ reachBytes:=by
 obtain ⟨L,m2,hm2,rfl,hb,hx⟩:=ty_slc un22 h
 obtain ⟨ls,rfl, -⟩:=map_of (f:=sD) (p:=fun _=>True) (L:=L) fun x hm=>by
  obtain ⟨xs,h6,rfl⟩:=hx x hm
  obtain ⟨y,rfl, -⟩:=ty_str un9 h6
  exact ⟨y,mkD_one (by simp [un9]) _,trivial⟩
 refine ⟨ls,rfl,?_⟩
 rw [List.length_map,show Tryz.prog.bytesOf 9 = 16 by kernel_rfl] at hb
 omega
set_option maxRecDepth 100000 in
theorem tyG : ∀ (m : Nat) {ds : List D},Ty Tryz.prog m 25 ds → ∃ x : GG.Gt,D.agg ds = x.d
 | 0,ds,h=>h.elim
 | m + 1,ds,h=>by
  obtain ⟨m',hm,a,b,rfl,h1,a2,b2,rfl,h2,a3,b3,rfl,h3,a4,b4,rfl,h4,a5,b5,rfl,h5,a6,b6,rfl,h6,a7,b7,rfl,h7,rfl⟩:=ty_struct Tryz.underlying25 h
  obtain rfl : m' = m:=by omega
  obtain ⟨k,rfl, -⟩:=ty_int un3 h1
  obtain ⟨fr,rfl, -⟩:=ty_str un9 h2
  obtain ⟨to,rfl, -⟩:=ty_str un9 h3
  obtain ⟨so,rfl, -⟩:=ty_int un3 h4
  obtain ⟨nm,rfl, -⟩:=ty_str un9 h5
  obtain ⟨ls,rfl, -⟩:=tyStrs h6
  obtain ⟨L2,m3,hm3,rfl, -,hx2⟩:=ty_slc un23 h7
  obtain ⟨l,rfl, -⟩:=map_of (f:=GG.Gt.d) (p:=fun _=>True) (L:=L2) fun x hm=>by
   obtain ⟨xs,h8,rfl⟩:=hx2 x hm
   subst hm3
   obtain ⟨y,h9⟩:=tyG m3 h8
   exact ⟨y,by rw [mkD_struct Tryz.underlying25,h9],trivial⟩
  exact ⟨.mk k fr to so nm ls l,by rw [← gds_map];simp only [GG.Gt.d,List.append_nil,List.cons_append,List.nil_append]⟩
section
variable {H : Type} {enc : TypeId × Value → H} {W : World} {r : Reach} {base b0 : Nat} {sp : Nat → Bool} {held : Bool} {v : Value} {d : DataW H} {p : List MemPlace}
set_option maxRecDepth 100000 in
theorem openGlobal (hv : Value.okWide Tryz.prog W r base 25 v) (h : DataW.Trod enc Tryz.prog W b0 sp held 25 v d p) (hw : (d.weights Tryz.prog 25).all (· ≤ reachBytes) = true) : ∃ x : GG.Gt,RpD W M0 (.d x.d v) ∧ True:=by
 obtain ⟨m,xs,h1,h2⟩:=open_top TY_ok (by decide) hv h hw
 rw [mkD_struct Tryz.underlying25] at h2
 obtain ⟨x,h3⟩:=tyG m h1
 rw [h3] at h2
 exact ⟨x,h2,trivial⟩
end
end Go.Proofs.YtdcplkefmpjppaaGreatDoor
