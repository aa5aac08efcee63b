/- The laws of wires: facts (printed by mkn23.py). -/
-- TYPESE
import Derived.Test.YtdcplkefmpjppaaDoorDN21
import Derived.Test.YtdcplkefmpjppaaDoorDN22
set_option linter.unusedSectionVars false
set_option linter.unusedVariables false
set_option linter.unusedSimpArgs false
namespace Go.Proofs.YtdcplkefmpjppaaDoor.GG
open Go.RowKit Go.Sw

theorem zz5 : numB (zz (-3)) = [5]:=by
 rw [show zz (-3) = 5 by decide,numB_small (by decide)];rfl
theorem san_enc : encs [⟨2,1, -3,noB,tp0,noB⟩] = [2,1,5]:=by
 rw [encs_cons,encs_nil,List.append_nil]
 unfold encE
 simp only [if_true,true_or,if_neg (show ¬ (1 : Int) = 3 by decide),if_neg (show ¬ (1 : Int) = 2 by decide),zz5]
 rfl
section
variable (Γ : Gl) {f : ByteArray → Bool} (hf : VSok Γ f) (hG : GD Tryd.prog Γ 1 22 (.slc (sortsL.map sD)))
include hf hG
theorem san_write : DFn Tryd.prog Γ 22 [.slc [.agg [iD 2,iD 1,iD (-3),sD ⟨#[]⟩,iD 0,iD 0,sD ⟨#[]⟩,.slc [],.slc [],sD ⟨#[]⟩]]] (.tup [sD ⟨#[2,1,5]⟩,iD 0]):=by
 have h:=Write_fn Γ hf hG [⟨2,1, -3,noB,tp0,noB⟩] (by simp) (by intro x hx;rw [List.mem_singleton.1 hx];simp only;omega)
 rw [wrR_of (by simp) (by intro x hx;rw [List.mem_singleton.1 hx];exact wz_int f 2 (-3) (by decide)),san_enc] at h
 exact h
theorem read_write (s : ByteArray) (hs : s.size ≤ 140737488355328) : ∃ (LX : List D) (c p : Int),DFn Tryd.prog Γ 23 [sD s] (.tup [.slc LX,.agg [iD c,iD p]]) ∧ (c = 0 → DFn Tryd.prog Γ 22 [.slc LX] (.tup [sD s,iD 0])):=by
 obtain ⟨R,hR,hg⟩:=reads_tot Γ hf hG s hs s.size [] 0 (by omega) (Nat.zero_le _) (by simp)
 have h:=Read_fn Γ s hs R hR
 cases R with
 | ok X =>
  obtain ⟨l,h1,h2,h3,h4⟩:=hg
  rw [List.nil_append] at h1
  subst h1
  refine ⟨X.map Ev.d,0,0,h,fun _=>?_⟩
  have hw:=Write_fn Γ hf hG X (by omega) (fun x hx=>(h2 x hx).2.1)
  rw [wrR_of h3 (fun x hx=>(h2 x hx).1)] at hw
  rw [List.drop_zero] at h4
  rw [← h4] at hw
  exact hw
 | big p=>exact ⟨[],2,_,h,fun e=>absurd e (by decide)⟩
 | bad p=>exact ⟨[],3,_,h,fun e=>absurd e (by decide)⟩
theorem same0 : DFn Tryd.prog Γ 50 [tp0.d,tp0.d] (.v (.bool true)):=same_step Γ 0 0 noB [] [] (by simp) (by simp) (fun x hx=>by cases hx)
theorem same_bare {x : Ev} (h : evChk f x = 0) : DFn Tryd.prog Γ 50 [(bareE x).c.d,(bareE x).c.d] (.v (.bool true)):=by
 have h0:=same0 Γ hf hG
 unfold bareE
 split
 · exact h0
 · split
   · rename_i h1 h2
     have hc : tCheck x.c = 0:=by
      unfold evChk wchk at h
      rwa [if_neg h1,if_pos h2] at h
     exact same_self Γ (ok_check hc).1
   · exact h0
theorem encs_size {l : List Ev} (hr : ∀ x ∈ l,Rng x) (hc : ∀ x ∈ l,evChk f x = 0) : (encs l).length ≤ 4000 * l.length:=by
 clear hf hG
 induction l with
 | nil=>simp [encs]
 | cons x l ih =>
  rw [encs_cons,List.length_append]
  have h1:=enc_len (hr x (by simp)) (hc x (by simp))
  have h2:=ih (fun y hy=>hr y (by simp [hy])) (fun y hy=>hc y (by simp [hy]))
  simp only [List.length_cons]
  omega
theorem write_read (l : List Ev) (hl : l.length ≤ 140737488355328) (hr : ∀ x ∈ l,Rng x) : ∃ (t : ByteArray) (e : Int),wrR f l = (t,e) ∧ DFn Tryd.prog Γ 22 [.slc (l.map Ev.d)] (.tup [sD t,iD e]) ∧ (e ≠ 0 → t = noB) ∧
 (e = 0 → l.length ≤ 200 ∧ (∀ x ∈ l,evChk f x = 0) ∧ t.data.toList = encs l ∧ t.size ≤ 800000 ∧ DFn Tryd.prog Γ 23 [sD t] (.tup [.slc ((l.map bareE).map Ev.d),.agg [iD 0,iD 0]]) ∧ DFn Tryd.prog Γ 25 [.slc ((l.map bareE).map Ev.d),.slc ((l.map bareE).map Ev.d)] (.v (.bool true))):=by
 refine ⟨_,_,rfl,Write_fn Γ hf hG l hl hr,wrR_bad,fun e=>?_⟩
 obtain ⟨h1,h2,h3⟩:=wrR_zero e
 have hsz : (wrR f l).1.size ≤ 800000:=by
  have h4:=encs_size Γ hf hG hr h2
  rw [← h3] at h4
  have h5 : (wrR f l).1.data.toList.length = (wrR f l).1.size:=by simp
  omega
 have hrd:=reads_enc Γ hf hG (wrR f l).1 (by omega) l (fun x hx=>⟨h2 x hx,hr x hx⟩) [] 0 (Nat.zero_le _) (by simpa using h1) (by rw [List.drop_zero];exact h3)
 refine ⟨h1,h2,h3,hsz,Read_fn Γ _ (by omega) _ hrd,sameE Γ _ (by rw [List.length_map];omega) (fun x hx=>?_)⟩
 obtain ⟨y,hy,rfl⟩:=List.mem_map.1 hx
 exact same_bare Γ hf hG (h2 y hy)
theorem write_both {l m : List Ev} {t u : ByteArray} (hl : wrR f l = (t,0)) (hm : wrR f m = (u,0)) (hn : l.length + m.length ≤ 200) (hrl : ∀ x ∈ l,Rng x) (hrm : ∀ x ∈ m,Rng x) : DFn Tryd.prog Γ 22 [.slc (l.map Ev.d ++ m.map Ev.d)] (.tup [sD (t ++ u),iD 0]):=by
 have hz1:=wrR_zero (f:=f) (l:=l) (by rw [hl])
 have hz2:=wrR_zero (f:=f) (l:=m) (by rw [hm])
 rw [hl] at hz1
 rw [hm] at hz2
 have hmem : ∀ x ∈ l ++ m,evChk f x = 0 ∧ Rng x:=fun x hx=>by
  rcases List.mem_append.1 hx with h | h
  · exact ⟨hz1.2.1 x h,hrl x h⟩
  · exact ⟨hz2.2.1 x h,hrm x h⟩
 have h:=Write_fn Γ hf hG (l ++ m) (by rw [List.length_append];omega) (fun x hx=>(hmem x hx).2)
 rw [wrR_of (by rw [List.length_append];exact hn) (fun x hx=>(hmem x hx).1),List.map_append] at h
 have e : (⟨(encs (l ++ m)).toArray⟩ : ByteArray) = t ++ u:=by
  apply data_back
  rw [app_data,hz1.2.2,hz2.2.2,encs_append]
 rw [e] at h
 exact h
end
theorem map_bare (l : List Ev) (j : Nat) (x : Ev) (h : l[j]? = some x) : ((l.map bareE).map Ev.d).take (j + 1) = ((l.map bareE).map Ev.d).take j ++ [(bareE x).d]:=by
 rw [List.take_add_one,List.getElem?_map,List.getElem?_map,h];rfl
end Go.Proofs.YtdcplkefmpjppaaDoor.GG
