/- Keys, what comes next, and what bounds them: plain. -/
import Derived.Test.YtgecnlcbdbaneaaDoorKD2
set_option linter.unusedVariables false
set_option linter.unusedSimpArgs false
namespace Go.Proofs.YtgecnlcbdbaneaaDoor
open Go.RowKit Go.Sw

structure Gw (g : List Nd) : Prop where
 pos : 0 < g.length
 ok : ∀ n ∈ g,NdG g.length n
 sh : ShG g
theorem Gd.w {g : List Nd} (h : Gd g) : Gw g:=⟨h.pos,h.ok,h.sh⟩
theorem Gw.shN {g : List Nd} (h : Gw g) {i : Int} (hi : 0 ≤ i ∧ i < (g.length : Int)) : shN (gAt g i):=h.sh _ (gAt_mem hi.1 hi.2)
theorem Gw.to {g : List Nd} (h : Gw g) {i : Int} (hi : 0 ≤ i ∧ i < (g.length : Int)) (p : Nat) : 0 ≤ (gAt g i).to.getD p 0 ∧ (gAt g i).to.getD p 0 < (g.length : Int):=to_range h.pos (h.ok _ (gAt_mem hi.1 hi.2)) p
def inr (g : List Nd) (i : Int) : Prop:=0 ≤ i ∧ i < (g.length : Int)
section
variable {a b : List Nd} {q : Ky}
theorem okK.ir (h : okK a.length b.length q) (hi : q.i ≠ -1) : inr a q.i:=by
 rcases h.1 with e | e
 · exact absurd e hi
 · exact e
theorem okK.kr (h : okK a.length b.length q) (hi : q.k ≠ -1) : inr b q.k:=by
 rcases h.2.1 with e | e
 · exact absurd e hi
 · exact e
theorem okK.u (h : okK a.length b.length q) : q.u = 0 ∨ q.u = 1:=h.2.2.2
theorem nA_i (hi : q.i ≠ -1) : nA a b q = gAt a q.i:=by unfold nA;rw [if_neg hi]
theorem nA_k (hi : q.i = -1) : nA a b q = gAt b q.k:=by unfold nA;rw [if_pos hi]
theorem nA_sh (Ha : Gd a) (Hb : Gd b) (h : okK a.length b.length q) : shN (nA a b q):=by
 by_cases hi : q.i = -1
 · rw [nA_k hi]
   exact Hb.shN (h.kr fun e=>h.2.2.1 ⟨hi,e⟩)
 · rw [nA_i hi]
   exact Ha.shN (h.ir hi)
theorem both_iff : bothK q = true ↔ q.i ≠ -1 ∧ q.k ≠ -1:=by simp [bothK]
theorem side_k (hb : badK a b q = false) (hk : q.k ≠ -1) : (gAt b q.k).k = (nA a b q).k ∧ (gAt b q.k).so = (nA a b q).so:=by
 by_cases hi : q.i = -1
 · rw [nA_k hi];exact ⟨rfl,rfl⟩
 · unfold badK at hb
   rw [both_iff.2 ⟨hi,hk⟩] at hb
   simp only [Bool.true_and,Bool.not_eq_false',Bool.and_eq_true,nB] at hb
   exact ⟨(of_decide_eq_true hb.1).symm,(of_decide_eq_true hb.2).symm⟩
theorem ch_iff {x : Nd} : chB x = true ↔ x.k = 6 ∨ x.k = 7:=by simp [chB]
theorem sm_iff : smK a b q = true ↔ chB (nA a b q) = true ∧ bothK q = true ∧ lessK (nA a b q).k q.u = true:=by
 unfold smK lessK
 simp only [Bool.and_eq_true]
theorem lb_mem (hc : chB (nA a b q) = true) {l : ByteArray} : l ∈ lbK a b q ↔
 (if smK a b q = true then l ∈ (gAt a q.i).ls ∧ l ∈ (gAt b q.k).ls else (q.i ≠ -1 ∧ l ∈ (gAt a q.i).ls) ∨ (q.k ≠ -1 ∧ l ∈ (gAt b q.k).ls)) ∨ (q.i = -1 ∧ q.k = -1 ∧ l ∈ (gAt b q.k).ls):=by
 unfold lbK
 rw [if_pos hc]
 by_cases hb : bothK q = true
 · obtain ⟨h1,h2⟩:=both_iff.1 hb
   rw [if_pos hb,nA_i h1]
   by_cases hs : smK a b q = true
   · rw [if_pos hs,if_pos hs,int_mem]
     exact ⟨.inl,fun h=>h.elim id fun h=>absurd h.1 h1⟩
   · rw [if_neg hs,if_neg hs,uni_mem]
     constructor
     · rintro (h | h)
       · exact .inl (.inl ⟨h1,h⟩)
       · exact .inl (.inr ⟨h2,h⟩)
     · rintro ((h | h) | h)
       · exact .inl h.2
       · exact .inr h.2
       · exact absurd h.1 h1
 · have hs : ¬ smK a b q = true:=fun h=>hb (sm_iff.1 h).2.1
   rw [if_neg hb,if_neg hs]
   by_cases hi : q.i = -1
   · rw [nA_k hi]
     by_cases hk : q.k = -1
     · exact ⟨fun h=>.inr ⟨hi,hk,h⟩,fun h=>h.elim (fun h=>h.elim (fun h=>absurd hi h.1) fun h=>absurd hk h.1) fun h=>h.2.2⟩
     · exact ⟨fun h=>.inl (.inr ⟨hk,h⟩),fun h=>h.elim (fun h=>h.elim (fun h=>absurd hi h.1) fun h=>h.2) fun h=>absurd h.2.1 hk⟩
   · have hk : q.k = -1:=by
      by_cases hk : q.k = -1
      · exact hk
      · exact absurd (both_iff.2 ⟨hi,hk⟩) hb
     rw [nA_i hi]
     exact ⟨fun h=>.inl (.inl ⟨hi,h⟩),fun h=>h.elim (fun h=>h.elim (fun h=>h.2) fun h=>absurd hk h.1) fun h=>absurd h.1 hi⟩
theorem lb_side (h : okK a.length b.length q) (hc : chB (nA a b q) = true) {l : ByteArray} (hl : l ∈ lbK a b q) : (q.i ≠ -1 ∧ l ∈ (gAt a q.i).ls) ∨ (q.k ≠ -1 ∧ l ∈ (gAt b q.k).ls):=by
 rcases (lb_mem hc).1 hl with h1 | h1
 · by_cases hs : smK a b q = true
   · rw [if_pos hs] at h1
     exact .inl ⟨(both_iff.1 (sm_iff.1 hs).2.1).1,h1.1⟩
   · rw [if_neg hs] at h1
     exact h1
 · exact absurd ⟨h1.1,h1.2.1⟩ h.2.2.1
theorem go_range {g : List Nd} (Hg : Gd g) {i p : Int} (hi : i = -1 ∨ inr g i) : goK g i p = -1 ∨ inr g (goK g i p):=by
 unfold goK
 split
 · exact .inl rfl
 · rename_i h
   rcases hi with e | e
   · exact absurd (.inl e) h
   · exact .inr (Hg.to e _)
theorem go_some {g : List Nd} (Hg : Gd g) {i p : Int} (hi : inr g i) (hp : p ≠ -1) : goK g i p ≠ -1:=by
 unfold goK
 have:=hi.1
 rw [if_neg (by omega)]
 have:=(Hg.to hi p.toNat).1
 omega
theorem nx_ok (Ha : Gd a) (Hb : Gd b) (h : okK a.length b.length q) {p r u : Int} (hu : u = 0 ∨ u = 1) (hp : (q.i ≠ -1 ∧ p ≠ -1) ∨ (q.k ≠ -1 ∧ r ≠ -1)) : okK a.length b.length (nxK a b q p r u):=by
 refine ⟨go_range Ha h.1,go_range Hb h.2.1,?_,hu⟩
 rintro ⟨e1,e2⟩
 rcases hp with ⟨h1,h2⟩ | ⟨h1,h2⟩
 · exact go_some Ha (h.ir h1) h2 e1
 · exact go_some Hb (h.kr h1) h2 e2
theorem nx_num (Ha : Gd a) (Hb : Gd b) (h : okK a.length b.length q) {p u : Int} (hp : p ≠ -1) (hu : u = 0 ∨ u = 1) : okK a.length b.length (nxK a b q p p u):=by
 refine nx_ok Ha Hb h hu ?_
 by_cases hi : q.i = -1
 · exact .inr ⟨fun e=>h.2.2.1 ⟨hi,e⟩,hp⟩
 · exact .inl ⟨hi,hp⟩
theorem ix_ne {g : List Nd} {i : Int} {l : ByteArray} (hi : i ≠ -1) (hl : l ∈ (gAt g i).ls) : ixY g i l ≠ -1:=by
 have:=ixL_mem hl
 unfold ixY
 rw [if_neg hi]
 omega
theorem flip_u {u : Int} (hu : u = 0 ∨ u = 1) : 1 - u = 0 ∨ 1 - u = 1:=by omega
theorem ch_ok (Ha : Gd a) (Hb : Gd b) (q : Ky) (h : okK a.length b.length q) (hb : badK a b q = false) : ∀ c ∈ chK a b q,okK a.length b.length c:=by
 intro c hc
 unfold chK at hc
 have hu:=h.u
 split at hc
 · rw [List.mem_singleton] at hc;subst hc
   exact nx_num Ha Hb h (by decide) hu
 split at hc
 · rcases List.mem_cons.1 hc with rfl | hc
   · exact nx_num Ha Hb h (by decide) (flip_u hu)
   · rw [List.mem_singleton] at hc;subst hc
     exact nx_num Ha Hb h (by decide) hu
 split at hc
 · rcases List.mem_cons.1 hc with rfl | hc
   · exact nx_num Ha Hb h (by decide) hu
   · rw [List.mem_singleton] at hc;subst hc
     exact nx_num Ha Hb h (by decide) hu
 split at hc
 · rename_i hch
   obtain ⟨l,hl,rfl⟩:=List.mem_map.1 hc
   refine nx_ok Ha Hb h hu ?_
   rcases lb_side h hch hl with ⟨h1,h2⟩ | ⟨h1,h2⟩
   · exact .inl ⟨h1,ix_ne h1 h2⟩
   · exact .inr ⟨h1,ix_ne h1 h2⟩
 · cases hc
variable {c : List Nd} {v : Int}
theorem Bnd.si (B : Bnd a b q c v) (Ha : Gd a) (Hc : Gw c) (h : okK a.length b.length q) (hv : inr c v) (hi : q.i ≠ -1) (n : Nat) : Sub1 q.u n a c (gAt a q.i) (gAt c v) :=
 (sub1_succ rfl rfl (Ha.shN (h.ir hi)) (Hc.shN hv) h.u n).1 (B.i hi (n + 1))
theorem Bnd.sk (B : Bnd a b q c v) (Hb : Gd b) (Hc : Gw c) (h : okK a.length b.length q) (hv : inr c v) (hk : q.k ≠ -1) (n : Nat) : Sub1 q.u n b c (gAt b q.k) (gAt c v) :=
 (sub1_succ rfl rfl (Hb.shN (h.kr hk)) (Hc.shN hv) h.u n).1 (B.k hk (n + 1))
theorem Bnd.kind (B : Bnd a b q c v) (Ha : Gd a) (Hb : Gd b) (Hc : Gw c) (h : okK a.length b.length q) (hv : inr c v) : (nA a b q).k = (gAt c v).k ∧ (nA a b q).so = (gAt c v).so:=by
 by_cases hi : q.i = -1
 · rw [nA_k hi]
   have:=B.sk Hb Hc h hv (fun e=>h.2.2.1 ⟨hi,e⟩) 0
   exact ⟨this.k,this.so⟩
 · rw [nA_i hi]
   have:=B.si Ha Hc h hv hi 0
   exact ⟨this.k,this.so⟩
theorem Bnd.good (B : Bnd a b q c v) (Ha : Gd a) (Hb : Gd b) (Hc : Gw c) (h : okK a.length b.length q) (hv : inr c v) : badK a b q = false:=by
 unfold badK
 cases hb : bothK q with
 | false=>rfl
 | true =>
  obtain ⟨h1,h2⟩:=both_iff.1 hb
  have x:=B.si Ha Hc h hv h1 0
  have y:=B.sk Hb Hc h hv h2 0
  rw [nA_i h1]
  simp [nB,x.k,x.so,y.k,y.so]
theorem go_ne {g : List Nd} {i p : Int} (h : goK g i p ≠ -1) : i ≠ -1 ∧ p ≠ -1:=by
 unfold goK at h
 split at h
 · exact absurd rfl h
 · rename_i e
   exact ⟨fun h=>e (.inl h),fun h=>e (.inr h)⟩
theorem Bnd.num (Ha : Gd a) (Hb : Gd b) (Hc : Gw c) (h : okK a.length b.length q) (hv : inr c v) {p u : Int} (hp : 0 ≤ p)
 (hs : ∀ (g : List Nd) (x : Nd),x.k = (nA a b q).k → (∀ n,Sub1 q.u n g c x (gAt c v)) → ∀ n,sub1 u n (obs g n (x.to.getD p.toNat 0)) (obs c n ((gAt c v).to.getD p.toNat 0)))
 (hb : badK a b q = false) (B : Bnd a b q c v) : Bnd a b (nxK a b q p p u) c ((gAt c v).to.getD p.toNat 0):=by
 constructor
 · intro hi n
   have h1:=(go_ne hi).1
   show sub1 u n (obs a n (goK a q.i p)) _
   rw [goK_at h1 hp]
   exact hs a _ (by rw [nA_i h1]) (fun n=>B.si Ha Hc h hv h1 n) n
 · intro hk n
   have h1:=(go_ne hk).1
   show sub1 u n (obs b n (goK b q.k p)) _
   rw [goK_at h1 hp]
   exact hs b _ (side_k hb h1).1 (fun n=>B.sk Hb Hc h hv h1 n) n
theorem Bnd.one (B : Bnd a b q c v) (Ha : Gd a) (Hb : Gd b) (Hc : Gw c) (h : okK a.length b.length q) (hv : inr c v) (hk : (nA a b q).k = 2 ∨ (nA a b q).k = 3) : Bnd a b (nxK a b q 0 0 q.u) c ((gAt c v).to.getD 0 0) :=
 Bnd.num Ha Hb Hc h hv (by decide) (fun g x hx hs n=>(hs n).one (by rw [hx];exact hk)) (B.good Ha Hb Hc h hv) B
theorem Bnd.four (B : Bnd a b q c v) (Ha : Gd a) (Hb : Gd b) (Hc : Gw c) (h : okK a.length b.length q) (hv : inr c v) (hk : (nA a b q).k = 4) : Bnd a b (nxK a b q 0 0 (1 - q.u)) c ((gAt c v).to.getD 0 0) ∧ Bnd a b (nxK a b q 1 1 q.u) c ((gAt c v).to.getD 1 0) :=
 ⟨Bnd.num Ha Hb Hc h hv (by decide) (fun g x hx hs n=>((hs n).four (by rw [hx];exact hk)).1) (B.good Ha Hb Hc h hv) B,
  Bnd.num Ha Hb Hc h hv (by decide) (fun g x hx hs n=>((hs n).four (by rw [hx];exact hk)).2) (B.good Ha Hb Hc h hv) B⟩
theorem Bnd.five (B : Bnd a b q c v) (Ha : Gd a) (Hb : Gd b) (Hc : Gw c) (h : okK a.length b.length q) (hv : inr c v) (hk : (nA a b q).k = 5) : Bnd a b (nxK a b q 0 0 q.u) c ((gAt c v).to.getD 0 0) ∧ Bnd a b (nxK a b q 1 1 q.u) c ((gAt c v).to.getD 1 0) :=
 ⟨Bnd.num Ha Hb Hc h hv (by decide) (fun g x hx hs n=>((hs n).five (by rw [hx];exact hk)).1) (B.good Ha Hb Hc h hv) B,
  Bnd.num Ha Hb Hc h hv (by decide) (fun g x hx hs n=>((hs n).five (by rw [hx];exact hk)).2) (B.good Ha Hb Hc h hv) B⟩
theorem Bnd.lab (B : Bnd a b q c v) (Ha : Gd a) (Hb : Gd b) (Hc : Gw c) (h : okK a.length b.length q) (hv : inr c v) (hk : (nA a b q).k = 6 ∨ (nA a b q).k = 7) {l : ByteArray} (hl : l ∈ (gAt c v).ls) : Bnd a b (nxK a b q (ixY a q.i l) (ixY b q.k l) q.u) c (atL (gAt c v) l):=by
 have hb:=B.good Ha Hb Hc h hv
 constructor
 · intro hi n
   have h1:=(go_ne hi).1
   show sub1 q.u n (obs a n (goK a q.i (ixY a q.i l))) _
   by_cases hm : l ∈ (gAt a q.i).ls
   · rw [ixY_in h1 hm]
     exact (B.si Ha Hc h hv h1 n).lab (by rw [← nA_i (b:=b) h1];exact hk) l hm hl
   · exact absurd (ixY_out hm) hi
 · intro hi n
   have h1:=(go_ne hi).1
   show sub1 q.u n (obs b n (goK b q.k (ixY b q.k l))) _
   by_cases hm : l ∈ (gAt b q.k).ls
   · rw [ixY_in h1 hm]
     exact (B.sk Hb Hc h hv h1 n).lab (by rw [(side_k hb h1).1];exact hk) l hm hl
   · exact absurd (ixY_out hm) hi
theorem Bnd.less (B : Bnd a b q c v) (Ha : Gd a) (Hb : Gd b) (Hc : Gw c) (h : okK a.length b.length q) (hv : inr c v) (hs : smK a b q = true) {l : ByteArray} (hl : l ∈ (gAt c v).ls) : l ∈ lbK a b q:=by
 obtain ⟨s1,s2,s3⟩:=sm_iff.1 hs
 obtain ⟨h1,h2⟩:=both_iff.1 s2
 have hb:=B.good Ha Hb Hc h hv
 refine (lb_mem s1).2 (.inl ?_)
 rw [if_pos hs]
 have hk:=ch_iff.1 s1
 refine ⟨(B.si Ha Hc h hv h1 0).less (by rw [← nA_i (b:=b) h1];exact hk) (by rw [← nA_i (b:=b) h1];exact s3) l hl,(B.sk Hb Hc h hv h2 0).less (by rw [(side_k hb h2).1];exact hk) (by rw [(side_k hb h2).1];exact s3) l hl⟩
theorem Bnd.more (B : Bnd a b q c v) (Ha : Gd a) (Hb : Gd b) (Hc : Gw c) (h : okK a.length b.length q) (hv : inr c v) (hc : chB (nA a b q) = true) (hs : lessK (nA a b q).k q.u = false) {l : ByteArray} (hl : l ∈ lbK a b q) : l ∈ (gAt c v).ls:=by
 have hb:=B.good Ha Hb Hc h hv
 have hk:=ch_iff.1 hc
 rcases lb_side h hc hl with ⟨h1,h2⟩ | ⟨h1,h2⟩
 · exact (B.si Ha Hc h hv h1 0).more (by rw [← nA_i (b:=b) h1];exact hk) (by rw [← nA_i (b:=b) h1];exact hs) l h2
 · exact (B.sk Hb Hc h hv h1 0).more (by rw [(side_k hb h1).1];exact hk) (by rw [(side_k hb h1).1];exact hs) l h2
end
theorem bnd_alone (a b : List Nd) {q : Ky} (hi : q.k = -1) : Bnd a b q a q.i:=⟨fun _ n=>by
 unfold sub1;split <;> exact sub_refl n _,fun h=>absurd hi h⟩
theorem bnd_alone2 (a b : List Nd) {q : Ky} (hi : q.i = -1) : Bnd a b q b q.k:=⟨fun h=>absurd hi h,fun _ n=>by
 unfold sub1;split <;> exact sub_refl n _⟩
end Go.Proofs.YtgecnlcbdbaneaaDoor
