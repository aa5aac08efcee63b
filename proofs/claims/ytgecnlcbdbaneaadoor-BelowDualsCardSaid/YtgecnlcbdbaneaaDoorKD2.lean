/- Bounds of two graphs, told by trees: plain. -/
import Derived.Test.YtgecnlcbdbaneaaDoorHG
set_option linter.unusedVariables false
set_option linter.unusedSimpArgs false
namespace Go.Proofs.YtgecnlcbdbaneaaDoor
open Go.RowKit Go.Sw

def atL (x : Nd) (l : ByteArray) : Int:=x.to.getD (ixL l x.ls).toNat 0
def shN (x : Nd) : Prop:=shp x.k x.so x.ls x.to.length
theorem shN.one {x : Nd} (h : shN x) (hk : x.k = 2 ∨ x.k = 3) : 0 < x.to.length:=by
 rcases h with ⟨h, -, -, -⟩ | ⟨-, -, -,h⟩ | ⟨h, -, -, -⟩ | ⟨h, -, -, -⟩ <;> omega
theorem shN.two {x : Nd} (h : shN x) (hk : x.k = 4 ∨ x.k = 5) : 0 < x.to.length ∧ 1 < x.to.length:=by
 rcases h with ⟨h, -, -, -⟩ | ⟨h, -, -, -⟩ | ⟨-, -, -,h⟩ | ⟨h, -, -, -⟩ <;> omega
theorem shN.lab {x : Nd} (h : shN x) (hk : x.k = 6 ∨ x.k = 7) : x.ls.length = x.to.length ∧ labelsB x.ls = true:=by
 rcases h with ⟨h, -, -, -⟩ | ⟨h, -, -, -⟩ | ⟨h, -, -, -⟩ | ⟨-, -,h,h'⟩
 · omega
 · omega
 · omega
 · exact ⟨h'.symm,h⟩
theorem shN.nol {x : Nd} (h : shN x) (hk : ¬ (x.k = 6 ∨ x.k = 7)) : x.ls = []:=by
 rcases h with ⟨-, -,h, -⟩ | ⟨-, -,h, -⟩ | ⟨-, -,h, -⟩ | ⟨h, -, -, -⟩
 · exact h
 · exact h
 · exact h
 · exact absurd h hk
theorem kidL_map {g : List Nd} {n : Nat} {x : Nd} (h : shN x) (hk : x.k = 6 ∨ x.k = 7) {l : ByteArray} (hl : l ∈ x.ls) : kidL x.ls (x.to.map (obs g n)) l = obs g n (atL x l):=by
 unfold kidL atL
 have:=(ixL_mem hl).2
 exact kid_map (by have:=(h.lab hk).1;omega)
theorem sub_succ {g h : List Nd} {i j : Int} {x z : Nd} (hx : gAt g i = x) (hz : gAt h j = z) (sx : shN x) (sz : shN z) (n : Nat) :
 subT (n + 1) (obs g (n + 1) i) (obs h (n + 1) j) ↔ (x.k = z.k ∧ x.so = z.so ∧ (x.k = 2 ∨ x.k = 3 → subT n (obs g n (x.to.getD 0 0)) (obs h n (z.to.getD 0 0))) ∧
  (x.k = 4 → subT n (obs h n (z.to.getD 0 0)) (obs g n (x.to.getD 0 0)) ∧ subT n (obs g n (x.to.getD 1 0)) (obs h n (z.to.getD 1 0))) ∧
  (x.k = 5 → subT n (obs g n (x.to.getD 0 0)) (obs h n (z.to.getD 0 0)) ∧ subT n (obs g n (x.to.getD 1 0)) (obs h n (z.to.getD 1 0))) ∧
  (x.k = 6 → ∀ l ∈ z.ls,l ∈ x.ls ∧ subT n (obs g n (atL x l)) (obs h n (atL z l))) ∧
  (x.k = 7 → ∀ l ∈ x.ls,l ∈ z.ls ∧ subT n (obs g n (atL x l)) (obs h n (atL z l)))):=by
 have e : subT (n + 1) (obs g (n + 1) i) (obs h (n + 1) j) ↔ subT (n + 1) (.nd x.k x.so x.ls (x.to.map (obs g n))) (.nd z.k z.so z.ls (z.to.map (obs h n))):=by
  rw [← hx, ← hz];exact Iff.rfl
 rw [e]
 clear e
 have kx : ∀ p,p < x.to.length → kid (x.to.map (obs g n)) p = obs g n (x.to.getD p 0):=fun p hp=>kid_map hp
 have kz : ∀ p,p < z.to.length → kid (z.to.map (obs h n)) p = obs h n (z.to.getD p 0):=fun p hp=>kid_map hp
 constructor
 · intro hs
   unfold subT at hs
   obtain ⟨h1,h2,h3,h4,h5,h6,h7⟩:=hs
   refine ⟨h1,h2,fun hk=>?_,fun hk=>?_,fun hk=>?_,fun hk l hl=>?_,fun hk l hl=>?_⟩
   · have:=h3 hk
     rwa [kx 0 (sx.one hk),kz 0 (sz.one (by omega))] at this
   · have:=h4 hk
     have a:=sx.two (.inl hk)
     have b:=sz.two (.inl (by omega))
     rwa [kx 0 a.1,kz 0 b.1,kx 1 a.2,kz 1 b.2] at this
   · have:=h5 hk
     have a:=sx.two (.inr hk)
     have b:=sz.two (.inr (by omega))
     rwa [kx 0 a.1,kz 0 b.1,kx 1 a.2,kz 1 b.2] at this
   · have:=h6 hk l hl
     rwa [kidL_map sx (.inl hk) this.1,kidL_map sz (.inl (by omega)) hl] at this
   · have:=h7 (by omega) (by omega) (by omega) l hl
     rwa [kidL_map sx (.inr hk) hl,kidL_map sz (.inr (by omega)) this.1] at this
 · rintro ⟨h1,h2,h3,h4,h5,h6,h7⟩
   unfold subT
   refine ⟨h1,h2,fun hk=>?_,fun hk=>?_,fun hk=>?_,fun hk l hl=>?_,fun k1 k2 k3 l hl=>?_⟩
   · rw [kx 0 (sx.one hk),kz 0 (sz.one (by omega))]
     exact h3 hk
   · have a:=sx.two (.inl hk)
     have b:=sz.two (.inl (by omega))
     rw [kx 0 a.1,kz 0 b.1,kx 1 a.2,kz 1 b.2]
     exact h4 hk
   · have a:=sx.two (.inr hk)
     have b:=sz.two (.inr (by omega))
     rw [kx 0 a.1,kz 0 b.1,kx 1 a.2,kz 1 b.2]
     exact h5 hk
   · have:=h6 hk l hl
     rw [kidL_map sx (.inl hk) this.1,kidL_map sz (.inl (by omega)) hl]
     exact this
   · by_cases hk : x.k = 7
     · have:=h7 hk l hl
       rw [kidL_map sx (.inr hk) hl,kidL_map sz (.inr (by omega)) this.1]
       exact this
     · rw [sx.nol (by omega)] at hl
       cases hl
def sub1 (u : Int) (n : Nat) (s t : Tr) : Prop:=if u = 1 then subT n s t else subT n t s
def lessK (k u : Int) : Bool:=decide (k = 7) != decide (u = 1)
structure Sub1 (u : Int) (n : Nat) (g h : List Nd) (x z : Nd) : Prop where
 k : x.k = z.k
 so : x.so = z.so
 one : x.k = 2 ∨ x.k = 3 → sub1 u n (obs g n (x.to.getD 0 0)) (obs h n (z.to.getD 0 0))
 four : x.k = 4 → sub1 (1 - u) n (obs g n (x.to.getD 0 0)) (obs h n (z.to.getD 0 0)) ∧ sub1 u n (obs g n (x.to.getD 1 0)) (obs h n (z.to.getD 1 0))
 five : x.k = 5 → sub1 u n (obs g n (x.to.getD 0 0)) (obs h n (z.to.getD 0 0)) ∧ sub1 u n (obs g n (x.to.getD 1 0)) (obs h n (z.to.getD 1 0))
 less : x.k = 6 ∨ x.k = 7 → lessK x.k u = true → ∀ l ∈ z.ls,l ∈ x.ls
 more : x.k = 6 ∨ x.k = 7 → lessK x.k u = false → ∀ l ∈ x.ls,l ∈ z.ls
 lab : x.k = 6 ∨ x.k = 7 → ∀ l ∈ x.ls,l ∈ z.ls → sub1 u n (obs g n (atL x l)) (obs h n (atL z l))
theorem sub1_one {n : Nat} {s t : Tr} : sub1 1 n s t ↔ subT n s t:=by unfold sub1;rw [if_pos rfl]
theorem sub1_zero {n : Nat} {s t : Tr} : sub1 0 n s t ↔ subT n t s:=by unfold sub1;rw [if_neg (by decide)]
theorem sub1_succ {g h : List Nd} {i j : Int} {x z : Nd} (hx : gAt g i = x) (hz : gAt h j = z) (sx : shN x) (sz : shN z) {u : Int} (hu : u = 0 ∨ u = 1) (n : Nat) :
 sub1 u (n + 1) (obs g (n + 1) i) (obs h (n + 1) j) ↔ Sub1 u n g h x z:=by
 rcases hu with rfl | rfl
 · rw [sub1_zero,sub_succ hz hx sz sx]
   constructor
   · rintro ⟨h1,h2,h3,h4,h5,h6,h7⟩
     refine ⟨h1.symm,h2.symm,fun hk=>?_,fun hk=>?_,fun hk=>?_,fun hk hl l hm=>?_,fun hk hl l hm=>?_,fun hk l hm hm'=>?_⟩
     · rw [sub1_zero];exact h3 (by omega)
     · rw [sub1_zero,show (1 : Int) - 0 = 1 from rfl,sub1_one];exact h4 (by omega)
     · rw [sub1_zero,sub1_zero];exact h5 (by omega)
     · have : x.k = 7:=by
        rcases hk with e | e
        · rw [e] at hl;exact absurd hl (by decide)
        · exact e
       exact (h7 (by omega) l hm).1
     · have : x.k = 6:=by
        rcases hk with e | e
        · exact e
        · rw [e] at hl;exact absurd hl (by decide)
       exact (h6 (by omega) l hm).1
     · rw [sub1_zero]
       rcases hk with e | e
       · exact (h6 (by omega) l hm).2
       · exact (h7 (by omega) l hm').2
   · rintro ⟨h1,h2,h3,h4,h5,h6,h7,h8⟩
     refine ⟨h1.symm,h2.symm,fun hk=>?_,fun hk=>?_,fun hk=>?_,fun hk l hm=>?_,fun hk l hm=>?_⟩
     · have:=h3 (by omega);rwa [sub1_zero] at this
     · have:=h4 (by omega);rwa [sub1_zero,show (1 : Int) - 0 = 1 from rfl,sub1_one] at this
     · have:=h5 (by omega);rwa [sub1_zero,sub1_zero] at this
     · have e : x.k = 6:=by omega
       have a:=h7 (.inl e) (by rw [e];decide) l hm
       have b:=h8 (.inl e) l hm a
       rw [sub1_zero] at b
       exact ⟨a,b⟩
     · have e : x.k = 7:=by omega
       have a:=h6 (.inr e) (by rw [e];decide) l hm
       have b:=h8 (.inr e) l a hm
       rw [sub1_zero] at b
       exact ⟨a,b⟩
 · rw [sub1_one,sub_succ hx hz sx sz]
   constructor
   · rintro ⟨h1,h2,h3,h4,h5,h6,h7⟩
     refine ⟨h1,h2,fun hk=>?_,fun hk=>?_,fun hk=>?_,fun hk hl l hm=>?_,fun hk hl l hm=>?_,fun hk l hm hm'=>?_⟩
     · rw [sub1_one];exact h3 hk
     · rw [sub1_one,show (1 : Int) - 1 = 0 from rfl,sub1_zero];exact h4 hk
     · rw [sub1_one,sub1_one];exact h5 hk
     · have : x.k = 6:=by
        rcases hk with e | e
        · exact e
        · rw [e] at hl;exact absurd hl (by decide)
       exact (h6 this l hm).1
     · have : x.k = 7:=by
        rcases hk with e | e
        · rw [e] at hl;exact absurd hl (by decide)
        · exact e
       exact (h7 this l hm).1
     · rw [sub1_one]
       rcases hk with e | e
       · exact (h6 e l hm').2
       · exact (h7 e l hm).2
   · rintro ⟨h1,h2,h3,h4,h5,h6,h7,h8⟩
     refine ⟨h1,h2,fun hk=>?_,fun hk=>?_,fun hk=>?_,fun e l hm=>?_,fun e l hm=>?_⟩
     · have:=h3 hk;rwa [sub1_one] at this
     · have:=h4 hk;rwa [sub1_one,show (1 : Int) - 1 = 0 from rfl,sub1_zero] at this
     · have:=h5 hk;rwa [sub1_one,sub1_one] at this
     · have a:=h6 (.inl e) (by rw [e];decide) l hm
       have b:=h8 (.inl e) l a hm
       rw [sub1_one] at b
       exact ⟨a,b⟩
     · have a:=h7 (.inr e) (by rw [e];decide) l hm
       have b:=h8 (.inr e) l hm a
       rw [sub1_one] at b
       exact ⟨a,b⟩
structure Bnd (a b : List Nd) (q : Ky) (c : List Nd) (v : Int) : Prop where
 i : q.i ≠ -1 → ∀ n,sub1 q.u n (obs a n q.i) (obs c n v)
 k : q.k ≠ -1 → ∀ n,sub1 q.u n (obs b n q.k) (obs c n v)
theorem Gd.shN {g : List Nd} (h : Gd g) {i : Int} (hi : 0 ≤ i ∧ i < (g.length : Int)) : shN (gAt g i):=h.sh _ (gAt_mem hi.1 hi.2)
theorem Gd.lab {g : List Nd} (h : Gd g) {i : Int} (hi : 0 ≤ i ∧ i < (g.length : Int)) : ∀ l ∈ (gAt g i).ls,isNameB l = true:=(h.ok _ (gAt_mem hi.1 hi.2)).nm
theorem getD_inD {l : List Int} {i : Nat} (h : i < l.length) : l.getD i 0 ∈ l:=by
 simp [List.getD,h]
theorem Gd.to {g : List Nd} (h : Gd g) {i : Int} (hi : 0 ≤ i ∧ i < (g.length : Int)) (p : Nat) : 0 ≤ (gAt g i).to.getD p 0 ∧ (gAt g i).to.getD p 0 < (g.length : Int):=by
 have hp:=h.pos
 by_cases hl : p < (gAt g i).to.length
 · exact (h.ok _ (gAt_mem hi.1 hi.2)).ok.r _ (getD_inD hl)
 · simp only [List.getD]
   rw [List.getElem?_eq_none (by omega)]
   simp only [Option.getD_none]
   omega
theorem ix_none {l : ByteArray} : ∀ {ls : List ByteArray} {j : Nat},l ∉ ls → idxS l.toList ls j = -1
 | [],_,_=>rfl
 | b :: ls,j,h=>by
  simp only [List.mem_cons,not_or] at h
  unfold idxS
  rw [if_neg (fun e=>h.1 (tl_inj e))]
  exact ix_none h.2
theorem ixY_in {g : List Nd} {i : Int} {l : ByteArray} (hi : i ≠ -1) (hl : l ∈ (gAt g i).ls) : goK g i (ixY g i l) = atL (gAt g i) l:=by
 have:=ixL_mem hl
 unfold goK ixY
 rw [if_neg hi,if_neg (by omega)]
 rfl
theorem ixY_out {g : List Nd} {i : Int} {l : ByteArray} (hl : l ∉ (gAt g i).ls) : goK g i (ixY g i l) = -1:=by
 unfold goK ixY
 by_cases hi : i = -1
 · rw [if_pos (.inl hi)]
 · rw [if_neg hi]
   have : ixL l (gAt g i).ls = -1:=ix_none hl
   rw [this,if_pos (.inr rfl)]
theorem goK_at {g : List Nd} {i p : Int} (hi : i ≠ -1) (hp : 0 ≤ p) : goK g i p = (gAt g i).to.getD p.toNat 0:=by
 unfold goK
 rw [if_neg (by omega)]
end Go.Proofs.YtgecnlcbdbaneaaDoor
