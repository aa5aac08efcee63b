/- The laws of wires: facts (printed by mkn23.py). -/
-- TYPESE
import Derived.Test.YtdcplkefmpjppaaDoorDN21
import Derived.Test.YtdcplkefmpjppaaDoorDN22
set_option linter.unusedSectionVars false
set_option linter.unusedVariables false
set_option linter.unusedSimpArgs false
namespace Go.Proofs.YtdcplkefmpjppaaDoor.GG
open Go.RowKit Go.Sw

section
variable (Γ : Gl) {f : ByteArray → Bool} (hf : VSok Γ f) (hG : GD Tryd.prog Γ 1 22 (.slc (sortsL.map sD)))
include hf hG
theorem san_read : DFn Tryd.prog Γ 23 [sD ⟨#[4]⟩] (.tup [.slc [],.agg [iD 3,iD 1]]):=by
 have h1 : txtO ⟨#[4]⟩ 1 = .no 1 1:=by kernel_rfl
 exact Read_fn Γ ⟨#[4]⟩ (by decide) (.bad 1) (.bad [] 0 (by decide) (by decide) 1 1 (ev_car4_no Γ ⟨#[4]⟩ (by decide) 0 (by decide) (by decide +kernel) 1 1 h1))
theorem same0 : DFn Tryd.prog Γ 50 [tp0.d,tp0.d] (.v (.bool true)):=same_step Γ 0 0 noB [] [] (by simp) (by simp) (fun x hx=>by cases hx)
theorem same_bare {x : Ev} (h : evChk f x = 0) : DFn Tryd.prog Γ 50 [(bareE x).c.d,(bareE x).c.d] (.v (.bool true)):=by
 have h0:=same0 Γ hf hG
 unfold bareE
 split
 · exact h0
 · split
   · rename_i h1 h2
     have hc : tCheck x.c = 0:=by
      unfold evChk wchk at h
      rwa [if_neg h1,if_pos h2] at h
     exact same_self Γ (ok_check hc).1
   · exact h0
theorem encs_size {l : List Ev} (hr : ∀ x ∈ l,Rng x) (hc : ∀ x ∈ l,evChk f x = 0) : (encs l).length ≤ 4000 * l.length:=by
 clear hf hG
 induction l with
 | nil=>simp [encs]
 | cons x l ih =>
  rw [encs_cons,List.length_append]
  have h1:=enc_len (hr x (by simp)) (hc x (by simp))
  have h2:=ih (fun y hy=>hr y (by simp [hy])) (fun y hy=>hc y (by simp [hy]))
  simp only [List.length_cons]
  omega
theorem write_read (l : List Ev) (hl : l.length ≤ 140737488355328) (hr : ∀ x ∈ l,Rng x) : ∃ (t : ByteArray) (e : Int),wrR f l = (t,e) ∧ DFn Tryd.prog Γ 22 [.slc (l.map Ev.d)] (.tup [sD t,iD e]) ∧ (e ≠ 0 → t = noB) ∧
 (e = 0 → l.length ≤ 200 ∧ (∀ x ∈ l,evChk f x = 0) ∧ t.data.toList = encs l ∧ t.size ≤ 800000 ∧ DFn Tryd.prog Γ 23 [sD t] (.tup [.slc ((l.map bareE).map Ev.d),.agg [iD 0,iD 0]]) ∧ DFn Tryd.prog Γ 25 [.slc ((l.map bareE).map Ev.d),.slc ((l.map bareE).map Ev.d)] (.v (.bool true))):=by
 refine ⟨_,_,rfl,Write_fn Γ hf hG l hl hr,wrR_bad,fun e=>?_⟩
 obtain ⟨h1,h2,h3⟩:=wrR_zero e
 have hsz : (wrR f l).1.size ≤ 800000:=by
  have h4:=encs_size Γ hf hG hr h2
  rw [← h3] at h4
  have h5 : (wrR f l).1.data.toList.length = (wrR f l).1.size:=by simp
  omega
 have hrd:=reads_enc Γ hf hG (wrR f l).1 (by omega) l (fun x hx=>⟨h2 x hx,hr x hx⟩) [] 0 (Nat.zero_le _) (by simpa using h1) (by rw [List.drop_zero];exact h3)
 refine ⟨h1,h2,h3,hsz,Read_fn Γ _ (by omega) _ hrd,sameE Γ _ (by rw [List.length_map];omega) (fun x hx=>?_)⟩
 obtain ⟨y,hy,rfl⟩:=List.mem_map.1 hx
 exact same_bare Γ hf hG (h2 y hy)
end
end Go.Proofs.YtdcplkefmpjppaaDoor.GG
