/- wires: lists of events, written and read; plain. -/
-- TYPESE
import Derived.Test.YtdcplkefmpjppaaDoorDN20
set_option linter.unusedVariables false
set_option linter.unusedSimpArgs false
namespace Go.Proofs.YtdcplkefmpjppaaDoor.GG
open Go.RowKit Go.Sw

theorem txt_pf {s t : ByteArray} {u v : List UInt8} (h : txtB s ++ u = txtB t ++ v) : u = v:=by
 unfold txtB at h
 rw [List.append_assoc,List.append_assoc] at h
 obtain ⟨h1,h2⟩:=numB_inj _ _ _ _ h
 exact (List.append_inj h2 (by simpa using h1)).2
theorem b8_inj {m n : Int} (h1 : 0 ≤ m ∧ m < 256) (h2 : 0 ≤ n ∧ n < 256) (h : b8 m = b8 n) : m = n:=by
 have h3:=congrArg UInt8.toNat h
 unfold b8 at h3
 rw [u8_toNat (by omega),u8_toNat (by omega)] at h3
 omega
theorem enc_head (x : Ev) : ∃ tl,encE x = b8 x.kd :: tl:=by
 unfold encE
 split
 · exact ⟨_,rfl⟩
 · split
   · exact ⟨_,rfl⟩
   · exact ⟨_,rfl⟩
theorem chk_range {f : ByteArray → Bool} {x : Ev} (h : evChk f x = 0) : 2 ≤ x.kd ∧ x.kd ≤ 7:=by
 rcases chk_kd h with ⟨h, -⟩ | ⟨h, -⟩ | ⟨h, -⟩ <;> omega
theorem enc_pf {f : ByteArray → Bool} {x y : Ev} {u v : List UInt8} (hx : evChk f x = 0) (hy : evChk f y = 0) (h : encE x ++ u = encE y ++ v) : u = v:=by
 have hk : x.kd = y.kd:=by
  obtain ⟨t1,e1⟩:=enc_head x
  obtain ⟨t2,e2⟩:=enc_head y
  rw [e1,e2] at h
  have r1:=chk_range hx
  have r2:=chk_range hy
  exact b8_inj (by omega) (by omega) (List.cons.inj h).1
 have cx:=chk_kd hx
 have cy:=chk_kd hy
 unfold encE at h
 rw [hk] at h cx
 by_cases h1 : y.kd = 2 ∨ y.kd = 3
 · rw [if_pos h1,if_pos h1] at h
   have vx : (x.vs = 1 ∧ x.vS = noB) ∨ (x.vs = 2 ∧ x.vS = noB ∧ (x.vn = 0 ∨ x.vn = 1)) ∨ (x.vs = 3 ∧ x.vn = 0 ∧ x.vS.size ≤ 100 ∧ f x.vS = true):=by
    rcases cx with ⟨-,h⟩ | ⟨h, -⟩ | ⟨h, -⟩
    · exact h
    · omega
    · omega
   have vy : (y.vs = 1 ∧ y.vS = noB) ∨ (y.vs = 2 ∧ y.vS = noB ∧ (y.vn = 0 ∨ y.vn = 1)) ∨ (y.vs = 3 ∧ y.vn = 0 ∧ y.vS.size ≤ 100 ∧ f y.vS = true):=by
    rcases cy with ⟨-,h⟩ | ⟨h, -⟩ | ⟨h, -⟩
    · exact h
    · omega
    · omega
   simp only [List.cons_append] at h
   obtain ⟨-,h⟩:=List.cons.inj h
   obtain ⟨hs,h⟩:=List.cons.inj h
   have hs : x.vs = y.vs:=b8_inj (by omega) (by omega) hs
   rw [hs] at h
   by_cases h3 : y.vs = 3
   · rw [if_pos h3,if_pos h3] at h;exact txt_pf h
   · rw [if_neg h3,if_neg h3] at h
     by_cases h2 : y.vs = 2
     · rw [if_pos h2,if_pos h2] at h;exact (List.cons.inj h).2
     · rw [if_neg h2,if_neg h2] at h;exact (numB_inj _ _ _ _ h).2
 · rw [if_neg h1,if_neg h1] at h
   by_cases h2 : y.kd = 4 ∨ y.kd = 5
   · rw [if_pos h2,if_pos h2] at h
     exact txt_pf (List.cons.inj h).2
   · rw [if_neg h2,if_neg h2] at h
     exact txt_pf (List.cons.inj h).2
theorem encs_cons (x : Ev) (l : List Ev) : encs (x :: l) = encE x ++ encs l:=by simp [encs]
theorem encs_nil : encs [] = []:=rfl
theorem enc_pos (x : Ev) : 0 < (encE x).length:=by
 obtain ⟨t,e⟩:=enc_head x
 rw [e];simp
theorem wrE_zero {f : ByteArray → Bool} : ∀ {l : List Ev},wrE f l = 0 ↔ ∀ x ∈ l,evChk f x = 0
 | []=>by simp [wrE]
 | x :: l=>by
  unfold wrE
  by_cases h : evChk f x = 0
  · rw [if_neg (by simpa using h),wrE_zero]
    simp [h]
  · rw [if_pos h]
    simp [h]
theorem wrR_zero {f : ByteArray → Bool} {l : List Ev} (h : (wrR f l).2 = 0) : l.length ≤ 200 ∧ (∀ x ∈ l,evChk f x = 0) ∧ (wrR f l).1.data.toList = encs l:=by
 unfold wrR at h ⊢
 by_cases h1 : 200 < l.length
 · rw [if_pos h1] at h;cases h
 · rw [if_neg h1] at h ⊢
   by_cases h2 : wrE f l = 0
   · rw [if_neg (by simpa using h2)]
     exact ⟨by omega,wrE_zero.1 h2,by simp⟩
   · rw [if_pos h2] at h;exact absurd h h2
theorem wrR_bad {f : ByteArray → Bool} {l : List Ev} (h : (wrR f l).2 ≠ 0) : (wrR f l).1 = noB:=by
 unfold wrR at h ⊢
 by_cases h1 : 200 < l.length
 · rw [if_pos h1]
 · rw [if_neg h1] at h ⊢
   by_cases h2 : wrE f l = 0
   · rw [if_neg (by simpa using h2)] at h;exact absurd rfl h
   · rw [if_pos h2]
theorem drop_len (s : ByteArray) (a : Nat) : (s.data.toList.drop a).length = s.size - a:=by simp
theorem drop_end {s : ByteArray} {a : Nat} (ha : a ≤ s.size) (h : s.data.toList.drop a = []) : ¬ a < s.size:=by
 have:=drop_len s a
 rw [h] at this
 simp at this
 omega
section
variable (Γ : Gl) {f : ByteArray → Bool} (hf : VSok Γ f) (hG : GD Tryd.prog Γ 1 22 (.slc (sortsL.map sD))) (s : ByteArray) (hs : s.size ≤ 140737488355328)
include hf hG hs
theorem reads_enc : ∀ (l : List Ev),(∀ x ∈ l,evChk f x = 0 ∧ Rng x) → ∀ (L : List Ev) (a : Nat),a ≤ s.size → L.length + l.length ≤ 200 → s.data.toList.drop a = encs l → Reads Γ s L a (.ok (L ++ l.map bareE))
 | [],_,L,a,ha,hl,hd=>by
  rw [List.map_nil,List.append_nil]
  exact .done L a (drop_end ha hd)
 | x :: l,h,L,a,ha,hl,hd=>by
  rw [encs_cons] at hd
  have hx:=h x (by simp)
  have hp:=enc_pos x
  have hlen:=congrArg List.length hd
  rw [drop_len,List.length_append] at hlen
  simp only [List.length_cons] at hl
  have ih:=reads_enc l (fun y hy=>h y (by simp [hy])) (L ++ [bareE x]) (a + (encE x).length) (by omega) (by simp only [List.length_append,List.length_cons,List.length_nil];omega) (drop_add hd)
  rw [List.append_assoc] at ih
  exact .more L a (by omega) (by omega) (bareE x) _ (by omega) (by omega) (rd_enc Γ hf hG s hs x hx.1 hx.2 a _ hd) _ ih
theorem reads_cut : ∀ (l : List Ev),(∀ x ∈ l,evChk f x = 0 ∧ Rng x) → ∀ (L : List Ev) (a : Nat) (v : List UInt8),a ≤ s.size → L.length + l.length ≤ 200 → v ≠ [] → s.data.toList.drop a ++ v = encs l →
 ∃ R,Reads Γ s L a R ∧ ((∃ p,R = .bad p ∧ p ≤ s.size) ∨ (∃ i,i < l.length ∧ R = .ok (L ++ (l.take i).map bareE)))
 | [],_,L,a,v,ha,hl,hv,hd=>by
  rw [encs_nil] at hd
  simp at hd
  exact absurd hd.2 hv
 | x :: l, h,L,a,v,ha,hl,hv,hd=>by
  rw [encs_cons] at hd
  have hx:=h x (by simp)
  simp only [List.length_cons] at hl
  by_cases hlt : a < s.size
  rotate_left
  · exact ⟨_,.done L a hlt,.inr ⟨0,by simp,by simp⟩⟩
  by_cases hfit : (encE x).length ≤ s.size - a
  · have hd2 : ∃ w,s.data.toList.drop a = encE x ++ w ∧ w ++ v = encs l:=by
     have h1:=List.append_eq_append_iff.1 hd
     rcases h1 with ⟨a',e1,e2⟩ | ⟨c',e1,e2⟩
     · have h2:=congrArg List.length e1
       rw [List.length_append,drop_len] at h2
       have h3 : a' = []:=List.eq_nil_of_length_eq_zero (by omega)
       subst h3
       refine ⟨[],by rw [List.append_nil] at e1 ⊢;exact e1.symm,by rw [List.nil_append];simpa using e2⟩
     · exact ⟨c',e1,e2.symm⟩
    obtain ⟨w,e1,e2⟩:=hd2
    have hp:=enc_pos x
    have hw : s.data.toList.drop (a + (encE x).length) = w:=drop_add e1
    obtain ⟨R,hR,hres⟩:=reads_cut l (fun y hy=>h y (by simp [hy])) (L ++ [bareE x]) (a + (encE x).length) v (by omega) (by simp only [List.length_append,List.length_cons,List.length_nil];omega) hv (by rw [hw];exact e2)
    refine ⟨R,.more L a hlt (by omega) (bareE x) _ (by omega) (by omega) (rd_enc Γ hf hG s hs x hx.1 hx.2 a _ e1) _ hR,?_⟩
    rcases hres with hb | ⟨i,hi,e⟩
    · exact .inl hb
    · refine .inr ⟨i + 1,by simp only [List.length_cons];omega,?_⟩
      rw [e,List.take_succ_cons,List.map_cons,List.append_assoc];rfl
  · obtain ⟨o,hr,hg⟩:=rd_all Γ hf hG s hs a hlt
    cases o with
    | no p b=>exact ⟨_,.bad L a hlt (by omega) p b hr,.inl ⟨p,rfl,hg⟩⟩
    | ok y b =>
     exfalso
     obtain ⟨g1,g2,g3,g4,g5,g6⟩:=hg
     rw [g6,List.append_assoc] at hd
     have h2:=enc_pf g3 hx.1 hd
     have h3:=congrArg List.length hd
     have h4:=congrArg List.length g6
     rw [h2,List.length_append,List.length_append] at h3
     rw [List.length_append,drop_len,drop_len] at h4
     omega
end
end Go.Proofs.YtdcplkefmpjppaaDoor.GG
