/- What is said of Bekic's and Milner's laws, in plain words. -/
import Derived.Test.YtnclmjbkkgghhaaDoorHQ7
import Derived.Test.YtnclmjbkkgghhaaDoorH14
set_option linter.unusedVariables false
set_option linter.unusedSimpArgs false
namespace Go.Proofs.YtnclmjbkkgghhaaDoor
open Go.RowKit Go.Sw

abbrev xS : ByteArray := ⟨#[120]⟩
abbrev yS : ByteArray := ⟨#[121]⟩
theorem put_true {a : ByteArray} {s t : Tp} (ht : OkT t) : (putP a s noB t).2 = true := by
  have list : ∀ {l : List Tp}, (∀ x ∈ l, (putP a s noB x).2 = true) → ∃ l', putL a s noB l = some l' := fun {l} => by
    induction l with
    | nil => intro _; exact ⟨_, rfl⟩
    | cons x l ih =>
      intro h
      obtain ⟨l', hl⟩ := ih fun y hy => h y (by simp [hy])
      rw [putL, if_pos (h x (by simp)), hl]
      exact ⟨_, rfl⟩
  have node : ∀ (k so : Int) (nm : ByteArray) (ls : List ByteArray) (l : List Tp), (k = 8 → nm.toList ≠ noB.toList) → (∀ x ∈ l, (putP a s noB x).2 = true) → (putP a s noB (.mk k so nm ls l)).2 = true := fun k so nm ls l h8 h => by
    rw [putP]
    split
    · rfl
    split
    · rfl
    rw [if_neg (fun h => h8 h.1 h.2.1)]
    obtain ⟨l', hl⟩ := list h
    rw [hl]
  induction ht with
  | nil => exact node _ _ _ _ _ (fun h => absurd h (by decide)) (fun x hx => by cases hx)
  | pass k so x hk h1 h3 hx ih => exact node _ _ _ _ _ (fun h => by omega) (fun y hy => by rw [show y = x by simpa using hy]; exact ih)
  | give k x y hk hx hy ih1 ih2 => exact node _ _ _ _ _ (fun h => by omega) (fun z hz => by
      rcases List.mem_cons.1 hz with rfl | hz
      · exact ih1
      · rw [show z = y by simpa using hz]; exact ih2)
  | pick k ls l hk hl hn h ih => exact node _ _ _ _ _ (fun h => by omega) ih
  | bind nm x hn hx ih =>
    refine node _ _ _ _ _ (fun _ e => ?_) (fun y hy => by rw [show y = x by simpa using hy]; exact ih)
    have e := tl_inj e
    subst e
    have : isVarB noB = false := by decide +kernel
    rw [this] at hn; cases hn
  | var nm hn =>
    rw [putP_var]
    split <;> rfl
/-- A type bound is right: its body. -/
theorem rec_parts {so : Int} {nm : ByteArray} {ls : List ByteArray} {x : Tp} (h : tCheck (.mk 8 so nm ls [x]) = 0) : OkT x ∧ clT x [nm] ∧ cnT x ∧ stripK x ≠ 9 ∧ so = 0 ∧ ls = [] ∧ isVarB nm = true := by
  obtain ⟨h1, h2, h3, h4⟩ := check_all h
  unfold clT at h2
  unfold cnT at h3
  rw [if_pos rfl] at h2
  cases h1 with
  | pass _ _ _ hk => omega
  | pick _ _ _ hk => omega
  | bind _ _ hn hx => exact ⟨hx, h2.2.1, h3.2.1, h3.1 rfl, rfl, rfl, hn⟩
theorem den_closed {s : Tp} (h : tCheck s = 0) (ρ ρ' : Env) : den s ρ = den s ρ' := (trT_den h ρ).symm.trans (trT_den h ρ')
theorem unique_law {body s : Tp} {so : Int} {ls : List ByteArray} (hr : tCheck (.mk 8 so xS ls [body]) = 0) (hs : tCheck s = 0) :
    (tCheck (putP xS s noB body).1 = 0 ∨ tCheck (putP xS s noB body).1 = 2) ∧ (tCheck (putP xS s noB body).1 = 0 → sameP s (putP xS s noB body).1 = sameP s (.mk 8 so xS ls [body])) := by
  obtain ⟨h1, h2, h3, h4, -, -, -⟩ := rec_parts hr
  obtain ⟨s1, s2, s3, s4⟩ := check_all hs
  have ht := put_true (a := xS) (s := s) h1
  have o1 := put_ok h1 s1 ht
  have o2 := put_cl h1 s1 [xS] [] (fun n hn => .inl (by simpa using hn)) s2 h2 ht
  have o3 := (put_cn h1 s3 h3 ht).1
  refine ⟨(check_ok o1 o2 o3).1, fun hb => ?_⟩
  have e1 : bErr s (putP xS s noB body).1 = 0 := by unfold bErr; rw [if_pos hs]; exact hb
  have e2 : bErr s (.mk 8 so xS ls [body]) = 0 := by unfold bErr; rw [if_pos hs]; exact hr
  unfold sameP
  rw [if_pos e1, if_pos e2, Bool.eq_iff_iff, eqG_iff, eqG_iff, of_iff hs hb, of_iff hs hr]
  have db : trT (putP xS s noB body).1 = den body (updE eps xS (trT s)) := by
    rw [trT_den hb eps, den_put h1 (fun ρ ρ' _ => den_closed hs ρ ρ') ht eps, trT_den hs eps]
  have dr := trT_den hr eps
  have du := den_unfold h1 h3 h4 so ls eps (nm := xS)
  constructor
  · intro h
    have e : trT s = den body (updE eps xS (trT s)) := by rw [← db]; funext n; exact h n
    have := den_uniq h1 h3 h4 so ls eps e
    intro n
    rw [dr, ← this]
  · intro h
    have e : trT s = trT (.mk 8 so xS ls [body]) := funext h
    intro n
    rw [db, e, dr, ← du]
theorem put_size {a c : ByteArray} {s t : Tp} (ht : OkT t) (hs : s.size = 1) : (putP a s c t).2 = true → (putP a s c t).1.size = t.size := by
  have szs : ∀ {l : List Tp}, (∀ x ∈ l, (putP a s c x).2 = true → (putP a s c x).1.size = x.size) → (∀ x ∈ l, (putP a s c x).2 = true) → Tp.sizes (l.map fun x => (putP a s c x).1) = Tp.sizes l := fun {l} => by
    induction l with
    | nil => intro _ _; rfl
    | cons x l ih =>
      intro h1 h2
      rw [List.map_cons, Tp.sizes, Tp.sizes, h1 x (by simp) (h2 x (by simp)), ih (fun y hy => h1 y (by simp [hy])) (fun y hy => h2 y (by simp [hy]))]
  have node : ∀ (k so : Int) (nm : ByteArray) (ls : List ByteArray) (l : List Tp), k ≠ 9 → k ≠ 8 → (∀ x ∈ l, (putP a s c x).2 = true → (putP a s c x).1.size = x.size) → (putP a s c (.mk k so nm ls l)).2 = true → (putP a s c (.mk k so nm ls l)).1.size = (Tp.mk k so nm ls l).size := fun k so nm ls l h9 h8 ih h => by
    obtain ⟨a1, a2⟩ := putP_node h9 h8 h
    rw [a2, Tp.size, Tp.size, szs ih a1]
  induction ht with
  | nil => exact node _ _ _ _ _ (by decide) (by decide) (fun x hx => by cases hx)
  | pass k so x hk h1 h3 hx ih => exact node _ _ _ _ _ (by omega) (by omega) (fun y hy => by rw [show y = x by simpa using hy]; exact ih)
  | give k x y hk hx hy ih1 ih2 => exact node _ _ _ _ _ (by omega) (by omega) (fun z hz => by
      rcases List.mem_cons.1 hz with rfl | hz
      · exact ih1
      · rw [show z = y by simpa using hz]; exact ih2)
  | pick k ls l hk hl hn h ih => exact node _ _ _ _ _ (by omega) (by omega) ih
  | bind nm x hn hx ih =>
    intro h
    rcases putP_bind h with ⟨rfl, e⟩ | ⟨hne, hfc, h2, e⟩
    · rw [e]
    · rw [e]; simp [Tp.size, Tp.sizes, ih h2]
  | var nm hn =>
    intro h
    rw [putP_var]
    split
    · rw [hs]; simp [Tp.size, Tp.sizes]
    · rfl
def xV : Tp := .mk 9 0 xS [] []
theorem bekic_law {body : Tp} (h : tCheck (.mk 8 0 xS [] [.mk 8 0 yS [] [body]]) = 0) (hp : (putP yS xV xS body).2 = true) :
    tCheck (.mk 8 0 xS [] [(putP yS xV xS body).1]) = 0 ∧ sameP (.mk 8 0 xS [] [.mk 8 0 yS [] [body]]) (.mk 8 0 xS [] [(putP yS xV xS body).1]) = true := by
  obtain ⟨a1, a2, a3, a4, -, -, -⟩ := rec_parts h
  obtain ⟨q1, q2, q3, q4⟩ := check_all h
  have hx : isVarB xS = true := by decide +kernel
  have hy : isVarB yS = true := by decide +kernel
  have hv : OkT xV := .var xS hx
  have hne : yS ≠ xS := by decide
  cases a1 with
  | bind _ _ hn hb =>
    unfold clT at a2
    rw [if_pos rfl] at a2
    unfold cnT at a3
    have b2 := a2.2.1
    have b3 := a3.2.1
    have b9 : stripK body ≠ 9 := a3.1 rfl
    have cv : cnT xV := by unfold xV cnT; exact ⟨fun h => absurd h (by decide), trivial⟩
    have o1 := put_ok hb hv hp
    have o3 := put_cn hb cv b3 hp
    have o2 := put_cl hb hv [xS, yS] [xS] (fun n hn => by
      rcases List.mem_cons.1 hn with rfl | hn
      · exact .inr (by simp)
      · exact .inl (by simpa using hn)) (by unfold xV clT; exact ⟨fun _ => inL_iff.2 (by simp), trivial⟩) b2 hp
    have z := put_size hb (by simp [xV, Tp.size, Tp.sizes]) hp
    have k1 : OkT (.mk 8 0 xS [] [(putP yS xV xS body).1]) := .bind xS _ hx o1
    have k2 : clT (.mk 8 0 xS [] [(putP yS xV xS body).1]) [] := by
      unfold clT
      rw [if_pos rfl]
      exact ⟨fun h => absurd h (by decide), o2, trivial⟩
    have k3 : cnT (.mk 8 0 xS [] [(putP yS xV xS body).1]) := by
      unfold cnT
      exact ⟨fun _ => o3.2 b9, o3.1, trivial⟩
    have hc := (check_ok k1 k2 k3).2 (by simp only [Tp.size, Tp.sizes] at q4 ⊢; omega)
    refine ⟨hc, ?_⟩
    have e1 : bErr (.mk 8 0 xS [] [.mk 8 0 yS [] [body]]) (.mk 8 0 xS [] [(putP yS xV xS body).1]) = 0 := by unfold bErr; rw [if_pos h]; exact hc
    unfold sameP
    rw [if_pos e1, eqG_iff, of_iff h hc]
    -- both are the one that does what the body does
    have key : trT (.mk 8 0 xS [] [.mk 8 0 yS [] [body]]) = trT (.mk 8 0 xS [] [(putP yS xV xS body).1]) := by
      rw [trT_den h eps, trT_den hc eps]
      refine den_uniq o1 o3.1 (o3.2 b9) 0 [] eps ?_
      obtain ⟨A, hA⟩ : ∃ A, den (.mk 8 0 xS [] [.mk 8 0 yS [] [body]]) eps = A := ⟨_, rfl⟩
      rw [hA]
      have u1 := den_unfold (.bind yS body hy hb) ⟨fun _ => b9, b3, trivial⟩ (by simpa [stripK, stripL] using b9) 0 [] eps (nm := xS)
      rw [hA] at u1
      have u2 := den_unfold hb b3 b9 0 [] (updE eps xS A) (nm := yS)
      rw [← u1] at u2
      rw [den_put hb (c := xS) (fun ρ ρ' e => by rw [xV, den_var, den_var]; exact e) hp]
      have e2 : den xV (updE eps xS A) = A := by
        rw [xV, den_var]
        unfold updE
        rw [if_pos rfl]
      rw [e2]
      exact u2
    intro n
    rw [key]
end Go.Proofs.YtnclmjbkkgghhaaDoor
