/- Bounds of two graphs, told by trees: plain. -/
import Derived.Test.YtgecnlcbdbaneaaDoorKD1
set_option linter.unusedVariables false
set_option linter.unusedSimpArgs false
namespace Go.Proofs.YtgecnlcbdbaneaaDoor
open Go.RowKit Go.Sw

def atL (x : Nd) (l : ByteArray) : Int:=x.to.getD (ixL l x.ls).toNat 0
def shN (x : Nd) : Prop:=shp x.k x.so x.ls x.to.length
theorem shN.one {x : Nd} (h : shN x) (hk : x.k = 2 ∨ x.k = 3) : 0 < x.to.length:=by
 rcases h with ⟨h, -, -, -⟩ | ⟨-, -, -,h⟩ | ⟨h, -, -, -⟩ | ⟨h, -, -, -⟩ <;> omega
theorem shN.two {x : Nd} (h : shN x) (hk : x.k = 4 ∨ x.k = 5) : 0 < x.to.length ∧ 1 < x.to.length:=by
 rcases h with ⟨h, -, -, -⟩ | ⟨h, -, -, -⟩ | ⟨-, -, -,h⟩ | ⟨h, -, -, -⟩ <;> omega
theorem shN.lab {x : Nd} (h : shN x) (hk : x.k = 6 ∨ x.k = 7) : x.ls.length = x.to.length ∧ labelsB x.ls = true:=by
 rcases h with ⟨h, -, -, -⟩ | ⟨h, -, -, -⟩ | ⟨h, -, -, -⟩ | ⟨-, -,h,h'⟩
 · omega
 · omega
 · omega
 · exact ⟨h'.symm,h⟩
theorem shN.nol {x : Nd} (h : shN x) (hk : ¬ (x.k = 6 ∨ x.k = 7)) : x.ls = []:=by
 rcases h with ⟨-, -,h, -⟩ | ⟨-, -,h, -⟩ | ⟨-, -,h, -⟩ | ⟨h, -, -, -⟩
 · exact h
 · exact h
 · exact h
 · exact absurd h hk
theorem kidL_map {g : List Nd} {n : Nat} {x : Nd} (h : shN x) (hk : x.k = 6 ∨ x.k = 7) {l : ByteArray} (hl : l ∈ x.ls) : kidL x.ls (x.to.map (obs g n)) l = obs g n (atL x l):=by
 unfold kidL atL
 have:=(ixL_mem hl).2
 exact kid_map (by have:=(h.lab hk).1;omega)
theorem sub_succ {g h : List Nd} {i j : Int} {x z : Nd} (hx : gAt g i = x) (hz : gAt h j = z) (sx : shN x) (sz : shN z) (n : Nat) :
 subT (n + 1) (obs g (n + 1) i) (obs h (n + 1) j) ↔ (x.k = z.k ∧ x.so = z.so ∧ (x.k = 2 ∨ x.k = 3 → subT n (obs g n (x.to.getD 0 0)) (obs h n (z.to.getD 0 0))) ∧
  (x.k = 4 → subT n (obs h n (z.to.getD 0 0)) (obs g n (x.to.getD 0 0)) ∧ subT n (obs g n (x.to.getD 1 0)) (obs h n (z.to.getD 1 0))) ∧
  (x.k = 5 → subT n (obs g n (x.to.getD 0 0)) (obs h n (z.to.getD 0 0)) ∧ subT n (obs g n (x.to.getD 1 0)) (obs h n (z.to.getD 1 0))) ∧
  (x.k = 6 → ∀ l ∈ z.ls,l ∈ x.ls ∧ subT n (obs g n (atL x l)) (obs h n (atL z l))) ∧
  (x.k = 7 → ∀ l ∈ x.ls,l ∈ z.ls ∧ subT n (obs g n (atL x l)) (obs h n (atL z l)))):=by
 have e : subT (n + 1) (obs g (n + 1) i) (obs h (n + 1) j) ↔ subT (n + 1) (.nd x.k x.so x.ls (x.to.map (obs g n))) (.nd z.k z.so z.ls (z.to.map (obs h n))):=by
  rw [← hx, ← hz];exact Iff.rfl
 rw [e]
 clear e
 have kx : ∀ p,p < x.to.length → kid (x.to.map (obs g n)) p = obs g n (x.to.getD p 0):=fun p hp=>kid_map hp
 have kz : ∀ p,p < z.to.length → kid (z.to.map (obs h n)) p = obs h n (z.to.getD p 0):=fun p hp=>kid_map hp
 constructor
 · intro hs
   unfold subT at hs
   obtain ⟨h1,h2,h3,h4,h5,h6,h7⟩:=hs
   refine ⟨h1,h2,fun hk=>?_,fun hk=>?_,fun hk=>?_,fun hk l hl=>?_,fun hk l hl=>?_⟩
   · have:=h3 hk
     rwa [kx 0 (sx.one hk),kz 0 (sz.one (by omega))] at this
   · have:=h4 hk
     have a:=sx.two (.inl hk)
     have b:=sz.two (.inl (by omega))
     rwa [kx 0 a.1,kz 0 b.1,kx 1 a.2,kz 1 b.2] at this
   · have:=h5 hk
     have a:=sx.two (.inr hk)
     have b:=sz.two (.inr (by omega))
     rwa [kx 0 a.1,kz 0 b.1,kx 1 a.2,kz 1 b.2] at this
   · have:=h6 hk l hl
     rwa [kidL_map sx (.inl hk) this.1,kidL_map sz (.inl (by omega)) hl] at this
   · have:=h7 (by omega) (by omega) (by omega) l hl
     rwa [kidL_map sx (.inr hk) hl,kidL_map sz (.inr (by omega)) this.1] at this
 · rintro ⟨h1,h2,h3,h4,h5,h6,h7⟩
   unfold subT
   refine ⟨h1,h2,fun hk=>?_,fun hk=>?_,fun hk=>?_,fun hk l hl=>?_,fun k1 k2 k3 l hl=>?_⟩
   · rw [kx 0 (sx.one hk),kz 0 (sz.one (by omega))]
     exact h3 hk
   · have a:=sx.two (.inl hk)
     have b:=sz.two (.inl (by omega))
     rw [kx 0 a.1,kz 0 b.1,kx 1 a.2,kz 1 b.2]
     exact h4 hk
   · have a:=sx.two (.inr hk)
     have b:=sz.two (.inr (by omega))
     rw [kx 0 a.1,kz 0 b.1,kx 1 a.2,kz 1 b.2]
     exact h5 hk
   · have:=h6 hk l hl
     rw [kidL_map sx (.inl hk) this.1,kidL_map sz (.inl (by omega)) hl]
     exact this
   · by_cases hk : x.k = 7
     · have:=h7 hk l hl
       rw [kidL_map sx (.inr hk) hl,kidL_map sz (.inr (by omega)) this.1]
       exact this
     · rw [sx.nol (by omega)] at hl
       cases hl
def sub1 (u : Int) (n : Nat) (s t : Tr) : Prop:=if u = 1 then subT n s t else subT n t s
def lessK (k u : Int) : Bool:=decide (k = 7) != decide (u = 1)
structure Sub1 (u : Int) (n : Nat) (g h : List Nd) (x z : Nd) : Prop where
 k : x.k = z.k
 so : x.so = z.so
 one : x.k = 2 ∨ x.k = 3 → sub1 u n (obs g n (x.to.getD 0 0)) (obs h n (z.to.getD 0 0))
 four : x.k = 4 → sub1 (1 - u) n (obs g n (x.to.getD 0 0)) (obs h n (z.to.getD 0 0)) ∧ sub1 u n (obs g n (x.to.getD 1 0)) (obs h n (z.to.getD 1 0))
 five : x.k = 5 → sub1 u n (obs g n (x.to.getD 0 0)) (obs h n (z.to.getD 0 0)) ∧ sub1 u n (obs g n (x.to.getD 1 0)) (obs h n (z.to.getD 1 0))
 less : x.k = 6 ∨ x.k = 7 → lessK x.k u = true → ∀ l ∈ z.ls,l ∈ x.ls
 more : x.k = 6 ∨ x.k = 7 → lessK x.k u = false → ∀ l ∈ x.ls,l ∈ z.ls
 lab : x.k = 6 ∨ x.k = 7 → ∀ l ∈ x.ls,l ∈ z.ls → sub1 u n (obs g n (atL x l)) (obs h n (atL z l))
theorem sub1_one {n : Nat} {s t : Tr} : sub1 1 n s t ↔ subT n s t:=by unfold sub1;rw [if_pos rfl]
theorem sub1_zero {n : Nat} {s t : Tr} : sub1 0 n s t ↔ subT n t s:=by unfold sub1;rw [if_neg (by decide)]
theorem sub1_succ {g h : List Nd} {i j : Int} {x z : Nd} (hx : gAt g i = x) (hz : gAt h j = z) (sx : shN x) (sz : shN z) {u : Int} (hu : u = 0 ∨ u = 1) (n : Nat) :
 sub1 u (n + 1) (obs g (n + 1) i) (obs h (n + 1) j) ↔ Sub1 u n g h x z:=by
 rcases hu with rfl | rfl
 · rw [sub1_zero,sub_succ hz hx sz sx]
   constructor
   · rintro ⟨h1,h2,h3,h4,h5,h6,h7⟩
     refine ⟨h1.symm,h2.symm,fun hk=>?_,fun hk=>?_,fun hk=>?_,fun hk hl l hm=>?_,fun hk hl l hm=>?_,fun hk l hm hm'=>?_⟩
     · rw [sub1_zero];exact h3 (by omega)
     · rw [sub1_zero,show (1 : Int) - 0 = 1 from rfl,sub1_one];exact h4 (by omega)
     · rw [sub1_zero,sub1_zero];exact h5 (by omega)
     · have : x.k = 7:=by
        rcases hk with e | e
        · rw [e] at hl;exact absurd hl (by decide)
        · exact e
       exact (h7 (by omega) l hm).1
     · have : x.k = 6:=by
        rcases hk with e | e
        · exact e
        · rw [e] at hl;exact absurd hl (by decide)
       exact (h6 (by omega) l hm).1
     · rw [sub1_zero]
       rcases hk with e | e
       · exact (h6 (by omega) l hm).2
       · exact (h7 (by omega) l hm').2
   · rintro ⟨h1,h2,h3,h4,h5,h6,h7,h8⟩
     refine ⟨h1.symm,h2.symm,fun hk=>?_,fun hk=>?_,fun hk=>?_,fun hk l hm=>?_,fun hk l hm=>?_⟩
     · have:=h3 (by omega);rwa [sub1_zero] at this
     · have:=h4 (by omega);rwa [sub1_zero,show (1 : Int) - 0 = 1 from rfl,sub1_one] at this
     · have:=h5 (by omega);rwa [sub1_zero,sub1_zero] at this
     · have e : x.k = 6:=by omega
       have a:=h7 (.inl e) (by rw [e];decide) l hm
       have b:=h8 (.inl e) l hm a
       rw [sub1_zero] at b
       exact ⟨a,b⟩
     · have e : x.k = 7:=by omega
       have a:=h6 (.inr e) (by rw [e];decide) l hm
       have b:=h8 (.inr e) l a hm
       rw [sub1_zero] at b
       exact ⟨a,b⟩
 · rw [sub1_one,sub_succ hx hz sx sz]
   constructor
   · rintro ⟨h1,h2,h3,h4,h5,h6,h7⟩
     refine ⟨h1,h2,fun hk=>?_,fun hk=>?_,fun hk=>?_,fun hk hl l hm=>?_,fun hk hl l hm=>?_,fun hk l hm hm'=>?_⟩
     · rw [sub1_one];exact h3 hk
     · rw [sub1_one,show (1 : Int) - 1 = 0 from rfl,sub1_zero];exact h4 hk
     · rw [sub1_one,sub1_one];exact h5 hk
     · have : x.k = 6:=by
        rcases hk with e | e
        · exact e
        · rw [e] at hl;exact absurd hl (by decide)
       exact (h6 this l hm).1
     · have : x.k = 7:=by
        rcases hk with e | e
        · rw [e] at hl;exact absurd hl (by decide)
        · exact e
       exact (h7 this l hm).1
     · rw [sub1_one]
       rcases hk with e | e
       · exact (h6 e l hm').2
       · exact (h7 e l hm).2
   · rintro ⟨h1,h2,h3,h4,h5,h6,h7,h8⟩
     refine ⟨h1,h2,fun hk=>?_,fun hk=>?_,fun hk=>?_,fun e l hm=>?_,fun e l hm=>?_⟩
     · have:=h3 hk;rwa [sub1_one] at this
     · have:=h4 hk;rwa [sub1_one,show (1 : Int) - 1 = 0 from rfl,sub1_zero] at this
     · have:=h5 hk;rwa [sub1_one,sub1_one] at this
     · have a:=h6 (.inl e) (by rw [e];decide) l hm
       have b:=h8 (.inl e) l a hm
       rw [sub1_one] at b
       exact ⟨a,b⟩
     · have a:=h7 (.inr e) (by rw [e];decide) l hm
       have b:=h8 (.inr e) l hm a
       rw [sub1_one] at b
       exact ⟨a,b⟩
structure Bnd (a b : List Nd) (q : Ky) (c : List Nd) (v : Int) : Prop where
 i : q.i ≠ -1 → ∀ n,sub1 q.u n (obs a n q.i) (obs c n v)
 k : q.k ≠ -1 → ∀ n,sub1 q.u n (obs b n q.k) (obs c n v)
theorem Gd.shN {g : List Nd} (h : Gd g) {i : Int} (hi : 0 ≤ i ∧ i < (g.length : Int)) : shN (gAt g i):=h.sh _ (gAt_mem hi.1 hi.2)
theorem Gd.lab {g : List Nd} (h : Gd g) {i : Int} (hi : 0 ≤ i ∧ i < (g.length : Int)) : ∀ l ∈ (gAt g i).ls,isNameB l = true:=(h.ok _ (gAt_mem hi.1 hi.2)).nm
theorem getD_inD {l : List Int} {i : Nat} (h : i < l.length) : l.getD i 0 ∈ l:=by
 simp [List.getD,h]
theorem Gd.to {g : List Nd} (h : Gd g) {i : Int} (hi : 0 ≤ i ∧ i < (g.length : Int)) (p : Nat) : 0 ≤ (gAt g i).to.getD p 0 ∧ (gAt g i).to.getD p 0 < (g.length : Int):=by
 have hp:=h.pos
 by_cases hl : p < (gAt g i).to.length
 · exact (h.ok _ (gAt_mem hi.1 hi.2)).ok.r _ (getD_inD hl)
 · simp only [List.getD]
   rw [List.getElem?_eq_none (by omega)]
   simp only [Option.getD_none]
   omega
theorem ix_none {l : ByteArray} : ∀ {ls : List ByteArray} {j : Nat},l ∉ ls → idxS l.toList ls j = -1
 | [],_,_=>rfl
 | b :: ls,j,h=>by
  simp only [List.mem_cons,not_or] at h
  unfold idxS
  rw [if_neg (fun e=>h.1 (tl_inj e))]
  exact ix_none h.2
theorem ixY_in {g : List Nd} {i : Int} {l : ByteArray} (hi : i ≠ -1) (hl : l ∈ (gAt g i).ls) : goK g i (ixY g i l) = atL (gAt g i) l:=by
 have:=ixL_mem hl
 unfold goK ixY
 rw [if_neg hi,if_neg (by omega)]
 rfl
theorem ixY_out {g : List Nd} {i : Int} {l : ByteArray} (hl : l ∉ (gAt g i).ls) : goK g i (ixY g i l) = -1:=by
 unfold goK ixY
 by_cases hi : i = -1
 · rw [if_pos (.inl hi)]
 · rw [if_neg hi]
   have : ixL l (gAt g i).ls = -1:=ix_none hl
   rw [this,if_pos (.inr rfl)]
theorem goK_at {g : List Nd} {i p : Int} (hi : i ≠ -1) (hp : 0 ≤ p) : goK g i p = (gAt g i).to.getD p.toNat 0:=by
 unfold goK
 rw [if_neg (by omega)]
end Go.Proofs.YtgecnlcbdbaneaaDoor
/- Keys, what comes next, and what bounds them: plain. -/
namespace Go.Proofs.YtgecnlcbdbaneaaDoor
open Go.RowKit Go.Sw

structure Gw (g : List Nd) : Prop where
 pos : 0 < g.length
 ok : ∀ n ∈ g,NdG g.length n
 sh : ShG g
theorem Gd.w {g : List Nd} (h : Gd g) : Gw g:=⟨h.pos,h.ok,h.sh⟩
theorem Gw.shN {g : List Nd} (h : Gw g) {i : Int} (hi : 0 ≤ i ∧ i < (g.length : Int)) : shN (gAt g i):=h.sh _ (gAt_mem hi.1 hi.2)
theorem Gw.to {g : List Nd} (h : Gw g) {i : Int} (hi : 0 ≤ i ∧ i < (g.length : Int)) (p : Nat) : 0 ≤ (gAt g i).to.getD p 0 ∧ (gAt g i).to.getD p 0 < (g.length : Int):=to_range h.pos (h.ok _ (gAt_mem hi.1 hi.2)) p
def inr (g : List Nd) (i : Int) : Prop:=0 ≤ i ∧ i < (g.length : Int)
section
variable {a b : List Nd} {q : Ky}
theorem okK.ir (h : okK a.length b.length q) (hi : q.i ≠ -1) : inr a q.i:=by
 rcases h.1 with e | e
 · exact absurd e hi
 · exact e
theorem okK.kr (h : okK a.length b.length q) (hi : q.k ≠ -1) : inr b q.k:=by
 rcases h.2.1 with e | e
 · exact absurd e hi
 · exact e
theorem okK.u (h : okK a.length b.length q) : q.u = 0 ∨ q.u = 1:=h.2.2.2
theorem nA_i (hi : q.i ≠ -1) : nA a b q = gAt a q.i:=by unfold nA;rw [if_neg hi]
theorem nA_k (hi : q.i = -1) : nA a b q = gAt b q.k:=by unfold nA;rw [if_pos hi]
theorem nA_sh (Ha : Gd a) (Hb : Gd b) (h : okK a.length b.length q) : shN (nA a b q):=by
 by_cases hi : q.i = -1
 · rw [nA_k hi]
   exact Hb.shN (h.kr fun e=>h.2.2.1 ⟨hi,e⟩)
 · rw [nA_i hi]
   exact Ha.shN (h.ir hi)
theorem both_iff : bothK q = true ↔ q.i ≠ -1 ∧ q.k ≠ -1:=by simp [bothK]
theorem side_k (hb : badK a b q = false) (hk : q.k ≠ -1) : (gAt b q.k).k = (nA a b q).k ∧ (gAt b q.k).so = (nA a b q).so:=by
 by_cases hi : q.i = -1
 · rw [nA_k hi];exact ⟨rfl,rfl⟩
 · unfold badK at hb
   rw [both_iff.2 ⟨hi,hk⟩] at hb
   simp only [Bool.true_and,Bool.not_eq_false',Bool.and_eq_true,nB] at hb
   exact ⟨(of_decide_eq_true hb.1).symm,(of_decide_eq_true hb.2).symm⟩
theorem ch_iff {x : Nd} : chB x = true ↔ x.k = 6 ∨ x.k = 7:=by simp [chB]
theorem sm_iff : smK a b q = true ↔ chB (nA a b q) = true ∧ bothK q = true ∧ lessK (nA a b q).k q.u = true:=by
 unfold smK lessK
 simp only [Bool.and_eq_true]
theorem lb_mem (hc : chB (nA a b q) = true) {l : ByteArray} : l ∈ lbK a b q ↔
 (if smK a b q = true then l ∈ (gAt a q.i).ls ∧ l ∈ (gAt b q.k).ls else (q.i ≠ -1 ∧ l ∈ (gAt a q.i).ls) ∨ (q.k ≠ -1 ∧ l ∈ (gAt b q.k).ls)) ∨ (q.i = -1 ∧ q.k = -1 ∧ l ∈ (gAt b q.k).ls):=by
 unfold lbK
 rw [if_pos hc]
 by_cases hb : bothK q = true
 · obtain ⟨h1,h2⟩:=both_iff.1 hb
   rw [if_pos hb,nA_i h1]
   by_cases hs : smK a b q = true
   · rw [if_pos hs,if_pos hs,int_mem]
     exact ⟨.inl,fun h=>h.elim id fun h=>absurd h.1 h1⟩
   · rw [if_neg hs,if_neg hs,uni_mem]
     constructor
     · rintro (h | h)
       · exact .inl (.inl ⟨h1,h⟩)
       · exact .inl (.inr ⟨h2,h⟩)
     · rintro ((h | h) | h)
       · exact .inl h.2
       · exact .inr h.2
       · exact absurd h.1 h1
 · have hs : ¬ smK a b q = true:=fun h=>hb (sm_iff.1 h).2.1
   rw [if_neg hb,if_neg hs]
   by_cases hi : q.i = -1
   · rw [nA_k hi]
     by_cases hk : q.k = -1
     · exact ⟨fun h=>.inr ⟨hi,hk,h⟩,fun h=>h.elim (fun h=>h.elim (fun h=>absurd hi h.1) fun h=>absurd hk h.1) fun h=>h.2.2⟩
     · exact ⟨fun h=>.inl (.inr ⟨hk,h⟩),fun h=>h.elim (fun h=>h.elim (fun h=>absurd hi h.1) fun h=>h.2) fun h=>absurd h.2.1 hk⟩
   · have hk : q.k = -1:=by
      by_cases hk : q.k = -1
      · exact hk
      · exact absurd (both_iff.2 ⟨hi,hk⟩) hb
     rw [nA_i hi]
     exact ⟨fun h=>.inl (.inl ⟨hi,h⟩),fun h=>h.elim (fun h=>h.elim (fun h=>h.2) fun h=>absurd hk h.1) fun h=>absurd h.1 hi⟩
theorem lb_side (h : okK a.length b.length q) (hc : chB (nA a b q) = true) {l : ByteArray} (hl : l ∈ lbK a b q) : (q.i ≠ -1 ∧ l ∈ (gAt a q.i).ls) ∨ (q.k ≠ -1 ∧ l ∈ (gAt b q.k).ls):=by
 rcases (lb_mem hc).1 hl with h1 | h1
 · by_cases hs : smK a b q = true
   · rw [if_pos hs] at h1
     exact .inl ⟨(both_iff.1 (sm_iff.1 hs).2.1).1,h1.1⟩
   · rw [if_neg hs] at h1
     exact h1
 · exact absurd ⟨h1.1,h1.2.1⟩ h.2.2.1
theorem go_range {g : List Nd} (Hg : Gd g) {i p : Int} (hi : i = -1 ∨ inr g i) : goK g i p = -1 ∨ inr g (goK g i p):=by
 unfold goK
 split
 · exact .inl rfl
 · rename_i h
   rcases hi with e | e
   · exact absurd (.inl e) h
   · exact .inr (Hg.to e _)
theorem go_some {g : List Nd} (Hg : Gd g) {i p : Int} (hi : inr g i) (hp : p ≠ -1) : goK g i p ≠ -1:=by
 unfold goK
 have:=hi.1
 rw [if_neg (by omega)]
 have:=(Hg.to hi p.toNat).1
 omega
theorem nx_ok (Ha : Gd a) (Hb : Gd b) (h : okK a.length b.length q) {p r u : Int} (hu : u = 0 ∨ u = 1) (hp : (q.i ≠ -1 ∧ p ≠ -1) ∨ (q.k ≠ -1 ∧ r ≠ -1)) : okK a.length b.length (nxK a b q p r u):=by
 refine ⟨go_range Ha h.1,go_range Hb h.2.1,?_,hu⟩
 rintro ⟨e1,e2⟩
 rcases hp with ⟨h1,h2⟩ | ⟨h1,h2⟩
 · exact go_some Ha (h.ir h1) h2 e1
 · exact go_some Hb (h.kr h1) h2 e2
theorem nx_num (Ha : Gd a) (Hb : Gd b) (h : okK a.length b.length q) {p u : Int} (hp : p ≠ -1) (hu : u = 0 ∨ u = 1) : okK a.length b.length (nxK a b q p p u):=by
 refine nx_ok Ha Hb h hu ?_
 by_cases hi : q.i = -1
 · exact .inr ⟨fun e=>h.2.2.1 ⟨hi,e⟩,hp⟩
 · exact .inl ⟨hi,hp⟩
theorem ix_ne {g : List Nd} {i : Int} {l : ByteArray} (hi : i ≠ -1) (hl : l ∈ (gAt g i).ls) : ixY g i l ≠ -1:=by
 have:=ixL_mem hl
 unfold ixY
 rw [if_neg hi]
 omega
theorem flip_u {u : Int} (hu : u = 0 ∨ u = 1) : 1 - u = 0 ∨ 1 - u = 1:=by omega
theorem ch_ok (Ha : Gd a) (Hb : Gd b) (q : Ky) (h : okK a.length b.length q) (hb : badK a b q = false) : ∀ c ∈ chK a b q,okK a.length b.length c:=by
 intro c hc
 unfold chK at hc
 have hu:=h.u
 split at hc
 · rw [List.mem_singleton] at hc;subst hc
   exact nx_num Ha Hb h (by decide) hu
 split at hc
 · rcases List.mem_cons.1 hc with rfl | hc
   · exact nx_num Ha Hb h (by decide) (flip_u hu)
   · rw [List.mem_singleton] at hc;subst hc
     exact nx_num Ha Hb h (by decide) hu
 split at hc
 · rcases List.mem_cons.1 hc with rfl | hc
   · exact nx_num Ha Hb h (by decide) hu
   · rw [List.mem_singleton] at hc;subst hc
     exact nx_num Ha Hb h (by decide) hu
 split at hc
 · rename_i hch
   obtain ⟨l,hl,rfl⟩:=List.mem_map.1 hc
   refine nx_ok Ha Hb h hu ?_
   rcases lb_side h hch hl with ⟨h1,h2⟩ | ⟨h1,h2⟩
   · exact .inl ⟨h1,ix_ne h1 h2⟩
   · exact .inr ⟨h1,ix_ne h1 h2⟩
 · cases hc
variable {c : List Nd} {v : Int}
theorem Bnd.si (B : Bnd a b q c v) (Ha : Gd a) (Hc : Gw c) (h : okK a.length b.length q) (hv : inr c v) (hi : q.i ≠ -1) (n : Nat) : Sub1 q.u n a c (gAt a q.i) (gAt c v) :=
 (sub1_succ rfl rfl (Ha.shN (h.ir hi)) (Hc.shN hv) h.u n).1 (B.i hi (n + 1))
theorem Bnd.sk (B : Bnd a b q c v) (Hb : Gd b) (Hc : Gw c) (h : okK a.length b.length q) (hv : inr c v) (hk : q.k ≠ -1) (n : Nat) : Sub1 q.u n b c (gAt b q.k) (gAt c v) :=
 (sub1_succ rfl rfl (Hb.shN (h.kr hk)) (Hc.shN hv) h.u n).1 (B.k hk (n + 1))
theorem Bnd.kind (B : Bnd a b q c v) (Ha : Gd a) (Hb : Gd b) (Hc : Gw c) (h : okK a.length b.length q) (hv : inr c v) : (nA a b q).k = (gAt c v).k ∧ (nA a b q).so = (gAt c v).so:=by
 by_cases hi : q.i = -1
 · rw [nA_k hi]
   have:=B.sk Hb Hc h hv (fun e=>h.2.2.1 ⟨hi,e⟩) 0
   exact ⟨this.k,this.so⟩
 · rw [nA_i hi]
   have:=B.si Ha Hc h hv hi 0
   exact ⟨this.k,this.so⟩
theorem Bnd.good (B : Bnd a b q c v) (Ha : Gd a) (Hb : Gd b) (Hc : Gw c) (h : okK a.length b.length q) (hv : inr c v) : badK a b q = false:=by
 unfold badK
 cases hb : bothK q with
 | false=>rfl
 | true =>
  obtain ⟨h1,h2⟩:=both_iff.1 hb
  have x:=B.si Ha Hc h hv h1 0
  have y:=B.sk Hb Hc h hv h2 0
  rw [nA_i h1]
  simp [nB,x.k,x.so,y.k,y.so]
theorem go_ne {g : List Nd} {i p : Int} (h : goK g i p ≠ -1) : i ≠ -1 ∧ p ≠ -1:=by
 unfold goK at h
 split at h
 · exact absurd rfl h
 · rename_i e
   exact ⟨fun h=>e (.inl h),fun h=>e (.inr h)⟩
theorem Bnd.num (Ha : Gd a) (Hb : Gd b) (Hc : Gw c) (h : okK a.length b.length q) (hv : inr c v) {p u : Int} (hp : 0 ≤ p)
 (hs : ∀ (g : List Nd) (x : Nd),x.k = (nA a b q).k → (∀ n,Sub1 q.u n g c x (gAt c v)) → ∀ n,sub1 u n (obs g n (x.to.getD p.toNat 0)) (obs c n ((gAt c v).to.getD p.toNat 0)))
 (hb : badK a b q = false) (B : Bnd a b q c v) : Bnd a b (nxK a b q p p u) c ((gAt c v).to.getD p.toNat 0):=by
 constructor
 · intro hi n
   have h1:=(go_ne hi).1
   show sub1 u n (obs a n (goK a q.i p)) _
   rw [goK_at h1 hp]
   exact hs a _ (by rw [nA_i h1]) (fun n=>B.si Ha Hc h hv h1 n) n
 · intro hk n
   have h1:=(go_ne hk).1
   show sub1 u n (obs b n (goK b q.k p)) _
   rw [goK_at h1 hp]
   exact hs b _ (side_k hb h1).1 (fun n=>B.sk Hb Hc h hv h1 n) n
theorem Bnd.one (B : Bnd a b q c v) (Ha : Gd a) (Hb : Gd b) (Hc : Gw c) (h : okK a.length b.length q) (hv : inr c v) (hk : (nA a b q).k = 2 ∨ (nA a b q).k = 3) : Bnd a b (nxK a b q 0 0 q.u) c ((gAt c v).to.getD 0 0) :=
 Bnd.num Ha Hb Hc h hv (by decide) (fun g x hx hs n=>(hs n).one (by rw [hx];exact hk)) (B.good Ha Hb Hc h hv) B
theorem Bnd.four (B : Bnd a b q c v) (Ha : Gd a) (Hb : Gd b) (Hc : Gw c) (h : okK a.length b.length q) (hv : inr c v) (hk : (nA a b q).k = 4) : Bnd a b (nxK a b q 0 0 (1 - q.u)) c ((gAt c v).to.getD 0 0) ∧ Bnd a b (nxK a b q 1 1 q.u) c ((gAt c v).to.getD 1 0) :=
 ⟨Bnd.num Ha Hb Hc h hv (by decide) (fun g x hx hs n=>((hs n).four (by rw [hx];exact hk)).1) (B.good Ha Hb Hc h hv) B,
  Bnd.num Ha Hb Hc h hv (by decide) (fun g x hx hs n=>((hs n).four (by rw [hx];exact hk)).2) (B.good Ha Hb Hc h hv) B⟩
theorem Bnd.five (B : Bnd a b q c v) (Ha : Gd a) (Hb : Gd b) (Hc : Gw c) (h : okK a.length b.length q) (hv : inr c v) (hk : (nA a b q).k = 5) : Bnd a b (nxK a b q 0 0 q.u) c ((gAt c v).to.getD 0 0) ∧ Bnd a b (nxK a b q 1 1 q.u) c ((gAt c v).to.getD 1 0) :=
 ⟨Bnd.num Ha Hb Hc h hv (by decide) (fun g x hx hs n=>((hs n).five (by rw [hx];exact hk)).1) (B.good Ha Hb Hc h hv) B,
  Bnd.num Ha Hb Hc h hv (by decide) (fun g x hx hs n=>((hs n).five (by rw [hx];exact hk)).2) (B.good Ha Hb Hc h hv) B⟩
theorem Bnd.lab (B : Bnd a b q c v) (Ha : Gd a) (Hb : Gd b) (Hc : Gw c) (h : okK a.length b.length q) (hv : inr c v) (hk : (nA a b q).k = 6 ∨ (nA a b q).k = 7) {l : ByteArray} (hl : l ∈ (gAt c v).ls) : Bnd a b (nxK a b q (ixY a q.i l) (ixY b q.k l) q.u) c (atL (gAt c v) l):=by
 have hb:=B.good Ha Hb Hc h hv
 constructor
 · intro hi n
   have h1:=(go_ne hi).1
   show sub1 q.u n (obs a n (goK a q.i (ixY a q.i l))) _
   by_cases hm : l ∈ (gAt a q.i).ls
   · rw [ixY_in h1 hm]
     exact (B.si Ha Hc h hv h1 n).lab (by rw [← nA_i (b:=b) h1];exact hk) l hm hl
   · exact absurd (ixY_out hm) hi
 · intro hi n
   have h1:=(go_ne hi).1
   show sub1 q.u n (obs b n (goK b q.k (ixY b q.k l))) _
   by_cases hm : l ∈ (gAt b q.k).ls
   · rw [ixY_in h1 hm]
     exact (B.sk Hb Hc h hv h1 n).lab (by rw [(side_k hb h1).1];exact hk) l hm hl
   · exact absurd (ixY_out hm) hi
theorem Bnd.less (B : Bnd a b q c v) (Ha : Gd a) (Hb : Gd b) (Hc : Gw c) (h : okK a.length b.length q) (hv : inr c v) (hs : smK a b q = true) {l : ByteArray} (hl : l ∈ (gAt c v).ls) : l ∈ lbK a b q:=by
 obtain ⟨s1,s2,s3⟩:=sm_iff.1 hs
 obtain ⟨h1,h2⟩:=both_iff.1 s2
 have hb:=B.good Ha Hb Hc h hv
 refine (lb_mem s1).2 (.inl ?_)
 rw [if_pos hs]
 have hk:=ch_iff.1 s1
 refine ⟨(B.si Ha Hc h hv h1 0).less (by rw [← nA_i (b:=b) h1];exact hk) (by rw [← nA_i (b:=b) h1];exact s3) l hl,(B.sk Hb Hc h hv h2 0).less (by rw [(side_k hb h2).1];exact hk) (by rw [(side_k hb h2).1];exact s3) l hl⟩
theorem Bnd.more (B : Bnd a b q c v) (Ha : Gd a) (Hb : Gd b) (Hc : Gw c) (h : okK a.length b.length q) (hv : inr c v) (hc : chB (nA a b q) = true) (hs : lessK (nA a b q).k q.u = false) {l : ByteArray} (hl : l ∈ lbK a b q) : l ∈ (gAt c v).ls:=by
 have hb:=B.good Ha Hb Hc h hv
 have hk:=ch_iff.1 hc
 rcases lb_side h hc hl with ⟨h1,h2⟩ | ⟨h1,h2⟩
 · exact (B.si Ha Hc h hv h1 0).more (by rw [← nA_i (b:=b) h1];exact hk) (by rw [← nA_i (b:=b) h1];exact hs) l h2
 · exact (B.sk Hb Hc h hv h1 0).more (by rw [(side_k hb h1).1];exact hk) (by rw [(side_k hb h1).1];exact hs) l h2
end
theorem bnd_alone (a b : List Nd) {q : Ky} (hi : q.k = -1) : Bnd a b q a q.i:=⟨fun _ n=>by
 unfold sub1;split <;> exact sub_refl n _,fun h=>absurd hi h⟩
theorem bnd_alone2 (a b : List Nd) {q : Ky} (hi : q.i = -1) : Bnd a b q b q.k:=⟨fun h=>absurd hi h,fun _ n=>by
 unfold sub1;split <;> exact sub_refl n _⟩
end Go.Proofs.YtgecnlcbdbaneaaDoor
