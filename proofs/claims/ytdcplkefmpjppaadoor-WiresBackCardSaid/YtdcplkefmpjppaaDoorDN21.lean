/- wires: lists of events, written and read; plain. -/
-- TYPESE
import Derived.Test.YtdcplkefmpjppaaDoorDN20
set_option linter.unusedVariables false
set_option linter.unusedSimpArgs false
namespace Go.Proofs.YtdcplkefmpjppaaDoor.GG
open Go.RowKit Go.Sw

theorem enc_head (x : Ev) : ∃ tl,encE x = b8 x.kd :: tl:=by
 unfold encE
 split
 · exact ⟨_,rfl⟩
 · split
   · exact ⟨_,rfl⟩
   · exact ⟨_,rfl⟩
theorem encs_cons (x : Ev) (l : List Ev) : encs (x :: l) = encE x ++ encs l:=by simp [encs]
theorem encs_nil : encs [] = []:=rfl
theorem encs_append (l m : List Ev) : encs (l ++ m) = encs l ++ encs m:=by simp [encs]
theorem enc_pos (x : Ev) : 0 < (encE x).length:=by
 obtain ⟨t,e⟩:=enc_head x
 rw [e];simp
theorem wrE_zero {f : ByteArray → Bool} : ∀ {l : List Ev},wrE f l = 0 ↔ ∀ x ∈ l,evChk f x = 0
 | []=>by simp [wrE]
 | x :: l=>by
  unfold wrE
  by_cases h : evChk f x = 0
  · rw [if_neg (by simpa using h),wrE_zero]
    simp [h]
  · rw [if_pos h]
    simp [h]
theorem wrR_zero {f : ByteArray → Bool} {l : List Ev} (h : (wrR f l).2 = 0) : l.length ≤ 200 ∧ (∀ x ∈ l,evChk f x = 0) ∧ (wrR f l).1.data.toList = encs l:=by
 unfold wrR at h ⊢
 by_cases h1 : 200 < l.length
 · rw [if_pos h1] at h;cases h
 · rw [if_neg h1] at h ⊢
   by_cases h2 : wrE f l = 0
   · rw [if_neg (by simpa using h2)]
     exact ⟨by omega,wrE_zero.1 h2,by simp⟩
   · rw [if_pos h2] at h;exact absurd h h2
theorem wrR_bad {f : ByteArray → Bool} {l : List Ev} (h : (wrR f l).2 ≠ 0) : (wrR f l).1 = noB:=by
 unfold wrR at h ⊢
 by_cases h1 : 200 < l.length
 · rw [if_pos h1]
 · rw [if_neg h1] at h ⊢
   by_cases h2 : wrE f l = 0
   · rw [if_neg (by simpa using h2)] at h;exact absurd rfl h
   · rw [if_pos h2]
theorem wrR_of {f : ByteArray → Bool} {l : List Ev} (h1 : l.length ≤ 200) (h2 : ∀ x ∈ l,evChk f x = 0) : wrR f l = (⟨(encs l).toArray⟩,0):=by
 unfold wrR
 rw [if_neg (by omega),if_neg (by simpa using wrE_zero.2 h2)]
theorem drop_len (s : ByteArray) (a : Nat) : (s.data.toList.drop a).length = s.size - a:=by simp
theorem drop_end {s : ByteArray} {a : Nat} (ha : a ≤ s.size) (h : s.data.toList.drop a = []) : ¬ a < s.size:=by
 have:=drop_len s a
 rw [h] at this
 simp at this
 omega
section
variable (Γ : Gl) {f : ByteArray → Bool} (hf : VSok Γ f) (hG : GD Tryd.prog Γ 1 22 (.slc (sortsL.map sD))) (s : ByteArray) (hs : s.size ≤ 140737488355328)
include hf hG hs
theorem reads_enc : ∀ (l : List Ev),(∀ x ∈ l,evChk f x = 0 ∧ Rng x) → ∀ (L : List Ev) (a : Nat),a ≤ s.size → L.length + l.length ≤ 200 → s.data.toList.drop a = encs l → Reads Γ s L a (.ok (L ++ l.map bareE))
 | [],_,L,a,ha,hl,hd=>by
  rw [List.map_nil,List.append_nil]
  exact .done L a (drop_end ha hd)
 | x :: l,h,L,a,ha,hl,hd=>by
  rw [encs_cons] at hd
  have hx:=h x (by simp)
  have hp:=enc_pos x
  have hlen:=congrArg List.length hd
  rw [drop_len,List.length_append] at hlen
  simp only [List.length_cons] at hl
  have ih:=reads_enc l (fun y hy=>h y (by simp [hy])) (L ++ [bareE x]) (a + (encE x).length) (by omega) (by simp only [List.length_append,List.length_cons,List.length_nil];omega) (drop_add hd)
  rw [List.append_assoc] at ih
  exact .more L a (by omega) (by omega) (bareE x) _ (by omega) (by omega) (rd_enc Γ hf hG s hs x hx.1 hx.2 a _ hd) _ ih
def GoodR (L : List Ev) (a : Nat) : RL → Prop
 | .ok X => ∃ l,X = L ++ l ∧ (∀ x ∈ l,evChk f x = 0 ∧ Rng x ∧ bareE x = x) ∧ X.length ≤ 200 ∧ s.data.toList.drop a = encs l
 | .big p=>True
 | .bad p=>p ≤ s.size
theorem reads_tot : ∀ (n : Nat) (L : List Ev) (a : Nat),s.size - a ≤ n → a ≤ s.size → L.length ≤ 200 → ∃ R,Reads Γ s L a R ∧ GoodR (f:=f) s L a R:=by
 intro n
 induction n with
 | zero =>
  intro L a hn ha hL
  refine ⟨_,.done L a (by omega),[],by simp,by simp,hL,?_⟩
  rw [encs_nil,List.drop_of_length_le (by simpa using (by omega : s.size ≤ a))]
 | succ n ih =>
  intro L a hn ha hL
  by_cases h : a < s.size
  rotate_left
  · refine ⟨_,.done L a h,[],by simp,by simp,hL,?_⟩
    rw [encs_nil,List.drop_of_length_le (by simpa using (by omega : s.size ≤ a))]
  by_cases hl : L.length = 200
  · exact ⟨_,.big L a h hl,trivial⟩
  obtain ⟨o,hr,hg⟩:=rd_all Γ hf hG s hs a h
  cases o with
  | no p b=>exact ⟨_,.bad L a h hl p b hr,hg⟩
  | ok x b =>
   obtain ⟨g1,g2,g3,g4,g5,g6⟩:=hg
   obtain ⟨R,hR,hgR⟩:=ih (L ++ [x]) b (by omega) g2 (by simp only [List.length_append,List.length_cons,List.length_nil];omega)
   refine ⟨R,.more L a h hl x b g1 g2 hr R hR,?_⟩
   cases R with
   | ok X =>
    obtain ⟨l,h1,h2,h3,h4⟩:=hgR
    refine ⟨x :: l,by rw [h1];simp,?_,h3,by rw [encs_cons,g6,h4]⟩
    intro y hy
    rcases List.mem_cons.1 hy with rfl | hy
    · exact ⟨g3,g4,g5⟩
    · exact h2 y hy
   | big p=>trivial
   | bad p=>exact hgR
end
end Go.Proofs.YtdcplkefmpjppaaDoor.GG
