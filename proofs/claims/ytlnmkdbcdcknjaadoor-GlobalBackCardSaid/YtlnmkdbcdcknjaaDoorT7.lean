/- types.write; a symbolic walk. -/
-- TYPESA
import Derived.Test.YtlnmkdbcdcknjaaDoorU7
import Derived.Test.YtlnmkdbcdcknjaaDoorShelfX
set_option linter.unusedVariables false
set_option linter.unusedSimpArgs false
namespace Go.Proofs.YtlnmkdbcdcknjaaDoor.GG
open Go.RowKit Go.Sw

theorem pack_size (l : List UInt8) : (packS l).size = l.length:=by simp [packS,ByteArray.size]
theorem joinTail_len (r : List (List UInt8)) : (Lib.joinTail [44] r).length = (r.map fun x=>x.length + 1).sum:=by
 induction r with
 | nil=>rfl
 | cons x r ih =>
  simp only [Lib.joinTail,List.map_cons,List.flatten_cons,List.length_append,List.sum_cons] at ih ⊢
  rw [ih];simp only [List.length_cons,List.length_nil];omega
theorem join_size (xs : List ByteArray) : (joinB xs).size ≤ (xs.map fun x=>x.size + 1).sum:=by
 unfold joinB
 rw [pack_size]
 cases xs with
 | nil=>simp [Lib.join_nil]
 | cons x r =>
  rw [List.map_cons,Lib.join_cons,List.length_append,joinTail_len,List.map_map,List.map_cons,List.sum_cons]
  have e : ((fun x : List UInt8=>x.length + 1) ∘ fun s : ByteArray=>s.data.toList) = fun s : ByteArray=>s.size + 1:=by funext s;rfl
  rw [e]
  have : x.data.toList.length = x.size:=rfl
  omega
theorem join_fn (Γ : Gl) (xs : List ByteArray) (hn : xs.length ≤ 1000) (hl : (joinB xs).size ≤ 100000) : DFn Tryd.prog Γ 37 [.slc (xs.map sD),sD ⟨#[44]⟩] (sD (joinB xs)):=by
 refine ⟨by kernel_rfl,fun F w us hG hNG hF hargs=>?_⟩
 cases hargs with
 | dsc h1 h2=>cases h2 with
  | dsc h3 h4 =>
   cases h4
   cases h3
   generalize hL : xs.map sD = L at h1
   cases h1 with
   | slc0 a c =>
    have hx : xs = []:=by simpa using hL
    subst hx
    refine (Tryd.strings_Join_none a c ⟨#[44]⟩ w).mono ?_
    rintro e w' ⟨rfl,rfl⟩
    exact ⟨_,rfl,Below.refl _ _,.v _ rfl⟩
   | @slc l k b o c n hn' hc h =>
    subst hL
    cases xs with
    | nil =>
     simp only [List.map_nil,List.length_nil] at hn'
     subst hn'
     refine (Tryd.strings_Join_none _ c ⟨#[44]⟩ w).mono ?_
     rintro e w' ⟨rfl,rfl⟩
     exact ⟨_,rfl,Below.refl _ _,.v _ rfl⟩
    | cons x r =>
     have hk : k = 1:=by
      cases h with
      | esc hk _ _=>exact hk.symm
     subst hk
     have hcell : ∀ (j : Nat) (y : ByteArray),(x :: r)[j]? = some y → w.cell? ⟨b,o + j,none⟩ = some (.string y):=fun j y hj=>by
      obtain ⟨h5, -⟩:=RpD.es_get j (x:=sD y) h (by rw [List.getElem?_map,hj];rfl)
      simp only [D.cells,Nat.mul_one] at h5
      cases h5 with
      | csc hm hc' hx ht=>cases hx;exact hc'
     have hbk : b < w.heap.size:=World.block_lt_of_cell? _ _ (hcell 0 x rfl)
     rw [List.length_map] at hn'
     subst hn'
     refine (Tryd.strings_Join b o c (x :: r) ⟨#[44]⟩ w hcell hbk (by omega) hc (by rw [← pack_size];exact Nat.le_trans hl (by omega))).mono ?_
     rintro e w' ⟨rfl,hb⟩
     exact ⟨_,rfl,hb,.v _ rfl⟩

theorem sortW_at {so : Int} (h1 : 1 ≤ so) (h3 : so ≤ 3) : (sortsL.map sD).getD so.toNat default = sD (sortW so) ∧ (sortW so).size ≤ 4 ∧ 3 ≤ (sortW so).size:=by
 rcases (show so = 1 ∨ so = 2 ∨ so = 3 by omega) with rfl | rfl | rfl <;> exact ⟨rfl,by decide,by decide⟩
theorem zip_sum : ∀ (ls ws : List ByteArray),(∀ s ∈ ls,s.size ≤ 8) → ((List.zipWith itemB ls ws).map fun x=>x.size + 1).sum ≤ 10 * ls.length + (ws.map fun x=>x.size).sum
 | [],ws,h=>by simp
 | s :: ls,[],h=>by simp
 | s :: ls,w :: ws,h=>by
  have ih:=zip_sum ls ws fun s hs=>h s (by simp [hs])
  have h1:=h s (by simp)
  have e : (⟨#[58]⟩ : ByteArray).size = 1:=rfl
  simp only [List.zipWith_cons_cons,List.map_cons,List.sum_cons,itemB,ByteArray.size_append,List.length_cons,e]
  omega
theorem zip_take (ls ws : List ByteArray) (j : Nat) (s w : ByteArray) (h1 : ls[j]? = some s) (h2 : ws[j]? = some w) : (List.zipWith itemB ls ws).take (j + 1) = (List.zipWith itemB ls ws).take j ++ [itemB s w]:=by
 rw [List.take_add_one,List.getElem?_zipWith,h1,h2]
 rfl
end Go.Proofs.YtlnmkdbcdcknjaaDoor.GG
