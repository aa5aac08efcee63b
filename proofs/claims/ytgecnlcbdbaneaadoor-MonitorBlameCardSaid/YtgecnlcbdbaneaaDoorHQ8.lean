/- What is said of Bekic's and Milner's laws, in plain words. -/
import Derived.Test.YtgecnlcbdbaneaaDoorHQ7
import Derived.Test.YtgecnlcbdbaneaaDoorH10
set_option linter.unusedVariables false
set_option linter.unusedSimpArgs false
namespace Go.Proofs.YtgecnlcbdbaneaaDoor
open Go.RowKit Go.Sw

theorem put_true {a : ByteArray} {s t : Tp} (ht : OkT t) : (putP a s noB t).2 = true:=by
 have list : ∀ {l : List Tp},(∀ x ∈ l,(putP a s noB x).2 = true) → ∃ l',putL a s noB l = some l':=fun {l}=>by
  induction l with
  | nil=>intro _;exact ⟨_,rfl⟩
  | cons x l ih =>
   intro h
   obtain ⟨l',hl⟩:=ih fun y hy=>h y (by simp [hy])
   rw [putL,if_pos (h x (by simp)),hl]
   exact ⟨_,rfl⟩
 have node : ∀ (k so : Int) (nm : ByteArray) (ls : List ByteArray) (l : List Tp),(k = 8 → nm.toList ≠ noB.toList) → (∀ x ∈ l,(putP a s noB x).2 = true) → (putP a s noB (.mk k so nm ls l)).2 = true:=fun k so nm ls l h8 h=>by
  rw [putP]
  split
  · rfl
  split
  · rfl
  rw [if_neg (fun h=>h8 h.1 h.2.1)]
  obtain ⟨l',hl⟩:=list h
  rw [hl]
 induction ht with
 | nil=>exact node _ _ _ _ _ (fun h=>absurd h (by decide)) (fun x hx=>by cases hx)
 | pass k so x hk h1 h3 hx ih=>exact node _ _ _ _ _ (fun h=>by omega) (fun y hy=>by rw [show y = x by simpa using hy];exact ih)
 | give k x y hk hx hy ih1 ih2=>exact node _ _ _ _ _ (fun h=>by omega) (fun z hz=>by
  rcases List.mem_cons.1 hz with rfl | hz
  · exact ih1
  · rw [show z = y by simpa using hz];exact ih2)
 | pick k ls l hk hl hn h ih=>exact node _ _ _ _ _ (fun h=>by omega) ih
 | bind nm x hn hx ih =>
  refine node _ _ _ _ _ (fun _ e=>?_) (fun y hy=>by rw [show y = x by simpa using hy];exact ih)
  have e:=tl_inj e
  subst e
  have : isVarB noB = false:=by decide +kernel
  rw [this] at hn;cases hn
 | var nm hn =>
  rw [putP_var]
  split <;> rfl
end Go.Proofs.YtgecnlcbdbaneaaDoor
