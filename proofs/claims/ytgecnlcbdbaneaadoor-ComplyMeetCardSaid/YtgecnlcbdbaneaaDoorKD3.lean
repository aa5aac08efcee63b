/- Keys, what comes next, and what bounds them: plain. -/
import Derived.Test.YtgecnlcbdbaneaaDoorHC1
set_option linter.unusedVariables false
set_option linter.unusedSimpArgs false
namespace Go.Proofs.YtgecnlcbdbaneaaDoor
open Go.RowKit Go.Sw

structure Gw (g : List Nd) : Prop where
 pos : 0 < g.length
 ok : ∀ n ∈ g,NdG g.length n
 sh : ShG g
theorem Gd.w {g : List Nd} (h : Gd g) : Gw g:=⟨h.pos,h.ok,h.sh⟩
theorem Gw.shN {g : List Nd} (h : Gw g) {i : Int} (hi : 0 ≤ i ∧ i < (g.length : Int)) : shN (gAt g i):=h.sh _ (qd0 hi.1 hi.2)
theorem Gw.to {g : List Nd} (h : Gw g) {i : Int} (hi : 0 ≤ i ∧ i < (g.length : Int)) (p : Nat) : 0 ≤ (gAt g i).to.getD p 0 ∧ (gAt g i).to.getD p 0 < (g.length : Int):=vc7 h.pos (h.ok _ (qd0 hi.1 hi.2)) p
def inr (g : List Nd) (i : Int) : Prop:=0 ≤ i ∧ i < (g.length : Int)
section
variable {a b : List Nd} {q : Ky}
theorem okK.ir (h : okK a.length b.length q) (hi : q.i ≠ -1) : inr a q.i:=by
 rcases h.1 with e | e
 · exact absurd e hi
 · exact e
theorem okK.kr (h : okK a.length b.length q) (hi : q.k ≠ -1) : inr b q.k:=by
 rcases h.2.1 with e | e
 · exact absurd e hi
 · exact e
theorem okK.u (h : okK a.length b.length q) : q.u = 0 ∨ q.u = 1:=h.2.2.2
theorem xc4 (hi : q.i ≠ -1) : nA a b q = gAt a q.i:=by unfold nA;rw [if_neg hi]
theorem nA_k (hi : q.i = -1) : nA a b q = gAt b q.k:=by unfold nA;rw [if_pos hi]
theorem ye7 (Ha : Gd a) (Hb : Gd b) (h : okK a.length b.length q) : shN (nA a b q):=by
 by_cases hi : q.i = -1
 · rw [nA_k hi]
   exact Hb.shN (h.kr fun e=>h.2.2.1 ⟨hi,e⟩)
 · rw [xc4 hi]
   exact Ha.shN (h.ir hi)
theorem qj3 : ql9 q = true ↔ q.i ≠ -1 ∧ q.k ≠ -1:=by simp [ql9]
theorem va7 (hb : ve5 a b q = false) (hk : q.k ≠ -1) : (gAt b q.k).k = (nA a b q).k ∧ (gAt b q.k).so = (nA a b q).so:=by
 by_cases hi : q.i = -1
 · rw [nA_k hi];exact ⟨rfl,rfl⟩
 · unfold ve5 at hb
   rw [qj3.2 ⟨hi,hk⟩] at hb
   simp only [Bool.true_and,Bool.not_eq_false',Bool.and_eq_true,nB] at hb
   exact ⟨(of_decide_eq_true hb.1).symm,(of_decide_eq_true hb.2).symm⟩
theorem qo5 {x : Nd} : chB x = true ↔ x.k = 6 ∨ x.k = 7:=by simp [chB]
theorem vf6 : smK a b q = true ↔ chB (nA a b q) = true ∧ ql9 q = true ∧ vo9 (nA a b q).k q.u = true:=by
 unfold smK vo9
 simp only [Bool.and_eq_true]
theorem xq2 (hc : chB (nA a b q) = true) {l : ByteArray} : l ∈ lbK a b q ↔
 (if smK a b q = true then l ∈ (gAt a q.i).ls ∧ l ∈ (gAt b q.k).ls else (q.i ≠ -1 ∧ l ∈ (gAt a q.i).ls) ∨ (q.k ≠ -1 ∧ l ∈ (gAt b q.k).ls)) ∨ (q.i = -1 ∧ q.k = -1 ∧ l ∈ (gAt b q.k).ls):=by
 unfold lbK
 rw [if_pos hc]
 by_cases hb : ql9 q = true
 · obtain ⟨h1,h2⟩:=qj3.1 hb
   rw [if_pos hb,xc4 h1]
   by_cases hs : smK a b q = true
   · rw [if_pos hs,if_pos hs,int_mem]
     exact ⟨.inl,fun h=>h.elim id fun h=>absurd h.1 h1⟩
   · rw [if_neg hs,if_neg hs,ya1]
     constructor
     · rintro (h | h)
       · exact .inl (.inl ⟨h1,h⟩)
       · exact .inl (.inr ⟨h2,h⟩)
     · rintro ((h | h) | h)
       · exact .inl h.2
       · exact .inr h.2
       · exact absurd h.1 h1
 · have hs : ¬ smK a b q = true:=fun h=>hb (vf6.1 h).2.1
   rw [if_neg hb,if_neg hs]
   by_cases hi : q.i = -1
   · rw [nA_k hi]
     by_cases hk : q.k = -1
     · exact ⟨fun h=>.inr ⟨hi,hk,h⟩,fun h=>h.elim (fun h=>h.elim (fun h=>absurd hi h.1) fun h=>absurd hk h.1) fun h=>h.2.2⟩
     · exact ⟨fun h=>.inl (.inr ⟨hk,h⟩),fun h=>h.elim (fun h=>h.elim (fun h=>absurd hi h.1) fun h=>h.2) fun h=>absurd h.2.1 hk⟩
   · have hk : q.k = -1:=by
      by_cases hk : q.k = -1
      · exact hk
      · exact absurd (qj3.2 ⟨hi,hk⟩) hb
     rw [xc4 hi]
     exact ⟨fun h=>.inl (.inl ⟨hi,h⟩),fun h=>h.elim (fun h=>h.elim (fun h=>h.2) fun h=>absurd hk h.1) fun h=>absurd h.1 hi⟩
theorem xi9 (h : okK a.length b.length q) (hc : chB (nA a b q) = true) {l : ByteArray} (hl : l ∈ lbK a b q) : (q.i ≠ -1 ∧ l ∈ (gAt a q.i).ls) ∨ (q.k ≠ -1 ∧ l ∈ (gAt b q.k).ls):=by
 rcases (xq2 hc).1 hl with h1 | h1
 · by_cases hs : smK a b q = true
   · rw [if_pos hs] at h1
     exact .inl ⟨(qj3.1 (vf6.1 hs).2.1).1,h1.1⟩
   · rw [if_neg hs] at h1
     exact h1
 · exact absurd ⟨h1.1,h1.2.1⟩ h.2.2.1
theorem xm3 {g : List Nd} (Hg : Gd g) {i p : Int} (hi : i = -1 ∨ inr g i) : goK g i p = -1 ∨ inr g (goK g i p):=by
 unfold goK
 split
 · exact .inl rfl
 · rename_i h
   rcases hi with e | e
   · exact absurd (.inl e) h
   · exact .inr (Hg.to e _)
theorem vw6 {g : List Nd} (Hg : Gd g) {i p : Int} (hi : inr g i) (hp : p ≠ -1) : goK g i p ≠ -1:=by
 unfold goK
 have:=hi.1
 rw [if_neg (by omega)]
 have:=(Hg.to hi p.toNat).1
 omega
theorem nx_ok (Ha : Gd a) (Hb : Gd b) (h : okK a.length b.length q) {p r u : Int} (hu : u = 0 ∨ u = 1) (hp : (q.i ≠ -1 ∧ p ≠ -1) ∨ (q.k ≠ -1 ∧ r ≠ -1)) : okK a.length b.length (nxK a b q p r u):=by
 refine ⟨xm3 Ha h.1,xm3 Hb h.2.1,?_,hu⟩
 rintro ⟨e1,e2⟩
 rcases hp with ⟨h1,h2⟩ | ⟨h1,h2⟩
 · exact vw6 Ha (h.ir h1) h2 e1
 · exact vw6 Hb (h.kr h1) h2 e2
theorem xe4 (Ha : Gd a) (Hb : Gd b) (h : okK a.length b.length q) {p u : Int} (hp : p ≠ -1) (hu : u = 0 ∨ u = 1) : okK a.length b.length (nxK a b q p p u):=by
 refine nx_ok Ha Hb h hu ?_
 by_cases hi : q.i = -1
 · exact .inr ⟨fun e=>h.2.2.1 ⟨hi,e⟩,hp⟩
 · exact .inl ⟨hi,hp⟩
theorem ix_ne {g : List Nd} {i : Int} {l : ByteArray} (hi : i ≠ -1) (hl : l ∈ (gAt g i).ls) : ixY g i l ≠ -1:=by
 have:=qk8 hl
 unfold ixY
 rw [if_neg hi]
 omega
theorem flip_u {u : Int} (hu : u = 0 ∨ u = 1) : 1 - u = 0 ∨ 1 - u = 1:=by omega
theorem xf9 (Ha : Gd a) (Hb : Gd b) (q : Ky) (h : okK a.length b.length q) (hb : ve5 a b q = false) : ∀ c ∈ chK a b q,okK a.length b.length c:=by
 intro c hc
 unfold chK at hc
 have hu:=h.u
 split at hc
 · rw [List.mem_singleton] at hc;subst hc
   exact xe4 Ha Hb h (by decide) hu
 split at hc
 · rcases List.mem_cons.1 hc with rfl | hc
   · exact xe4 Ha Hb h (by decide) (flip_u hu)
   · rw [List.mem_singleton] at hc;subst hc
     exact xe4 Ha Hb h (by decide) hu
 split at hc
 · rcases List.mem_cons.1 hc with rfl | hc
   · exact xe4 Ha Hb h (by decide) hu
   · rw [List.mem_singleton] at hc;subst hc
     exact xe4 Ha Hb h (by decide) hu
 split at hc
 · rename_i hch
   obtain ⟨l,hl,rfl⟩:=List.mem_map.1 hc
   refine nx_ok Ha Hb h hu ?_
   rcases xi9 h hch hl with ⟨h1,h2⟩ | ⟨h1,h2⟩
   · exact .inl ⟨h1,ix_ne h1 h2⟩
   · exact .inr ⟨h1,ix_ne h1 h2⟩
 · cases hc
variable {c : List Nd} {v : Int}
theorem Bnd.si (B : Bnd a b q c v) (Ha : Gd a) (Hc : Gw c) (h : okK a.length b.length q) (hv : inr c v) (hi : q.i ≠ -1) (n : Nat) : Sub1 q.u n a c (gAt a q.i) (gAt c v) :=
 (qt5 rfl rfl (Ha.shN (h.ir hi)) (Hc.shN hv) h.u n).1 (B.i hi (n + 1))
theorem Bnd.sk (B : Bnd a b q c v) (Hb : Gd b) (Hc : Gw c) (h : okK a.length b.length q) (hv : inr c v) (hk : q.k ≠ -1) (n : Nat) : Sub1 q.u n b c (gAt b q.k) (gAt c v) :=
 (qt5 rfl rfl (Hb.shN (h.kr hk)) (Hc.shN hv) h.u n).1 (B.k hk (n + 1))
theorem Bnd.kind (B : Bnd a b q c v) (Ha : Gd a) (Hb : Gd b) (Hc : Gw c) (h : okK a.length b.length q) (hv : inr c v) : (nA a b q).k = (gAt c v).k ∧ (nA a b q).so = (gAt c v).so:=by
 by_cases hi : q.i = -1
 · rw [nA_k hi]
   have:=B.sk Hb Hc h hv (fun e=>h.2.2.1 ⟨hi,e⟩) 0
   exact ⟨this.k,this.so⟩
 · rw [xc4 hi]
   have:=B.si Ha Hc h hv hi 0
   exact ⟨this.k,this.so⟩
theorem Bnd.good (B : Bnd a b q c v) (Ha : Gd a) (Hb : Gd b) (Hc : Gw c) (h : okK a.length b.length q) (hv : inr c v) : ve5 a b q = false:=by
 unfold ve5
 cases hb : ql9 q with
 | false=>rfl
 | true =>
  obtain ⟨h1,h2⟩:=qj3.1 hb
  have x:=B.si Ha Hc h hv h1 0
  have y:=B.sk Hb Hc h hv h2 0
  rw [xc4 h1]
  simp [nB,x.k,x.so,y.k,y.so]
theorem xt8 {g : List Nd} {i p : Int} (h : goK g i p ≠ -1) : i ≠ -1 ∧ p ≠ -1:=by
 unfold goK at h
 split at h
 · exact absurd rfl h
 · rename_i e
   exact ⟨fun h=>e (.inl h),fun h=>e (.inr h)⟩
theorem Bnd.num (Ha : Gd a) (Hb : Gd b) (Hc : Gw c) (h : okK a.length b.length q) (hv : inr c v) {p u : Int} (hp : 0 ≤ p)
 (hs : ∀ (g : List Nd) (x : Nd),x.k = (nA a b q).k → (∀ n,Sub1 q.u n g c x (gAt c v)) → ∀ n,qw9 u n (obs g n (x.to.getD p.toNat 0)) (obs c n ((gAt c v).to.getD p.toNat 0)))
 (hb : ve5 a b q = false) (B : Bnd a b q c v) : Bnd a b (nxK a b q p p u) c ((gAt c v).to.getD p.toNat 0):=by
 constructor
 · intro hi n
   have h1:=(xt8 hi).1
   show qw9 u n (obs a n (goK a q.i p)) _
   rw [ya2 h1 hp]
   exact hs a _ (by rw [xc4 h1]) (fun n=>B.si Ha Hc h hv h1 n) n
 · intro hk n
   have h1:=(xt8 hk).1
   show qw9 u n (obs b n (goK b q.k p)) _
   rw [ya2 h1 hp]
   exact hs b _ (va7 hb h1).1 (fun n=>B.sk Hb Hc h hv h1 n) n
theorem Bnd.one (B : Bnd a b q c v) (Ha : Gd a) (Hb : Gd b) (Hc : Gw c) (h : okK a.length b.length q) (hv : inr c v) (hk : (nA a b q).k = 2 ∨ (nA a b q).k = 3) : Bnd a b (nxK a b q 0 0 q.u) c ((gAt c v).to.getD 0 0) :=
 Bnd.num Ha Hb Hc h hv (by decide) (fun g x hx hs n=>(hs n).one (by rw [hx];exact hk)) (B.good Ha Hb Hc h hv) B
theorem Bnd.four (B : Bnd a b q c v) (Ha : Gd a) (Hb : Gd b) (Hc : Gw c) (h : okK a.length b.length q) (hv : inr c v) (hk : (nA a b q).k = 4) : Bnd a b (nxK a b q 0 0 (1 - q.u)) c ((gAt c v).to.getD 0 0) ∧ Bnd a b (nxK a b q 1 1 q.u) c ((gAt c v).to.getD 1 0) :=
 ⟨Bnd.num Ha Hb Hc h hv (by decide) (fun g x hx hs n=>((hs n).four (by rw [hx];exact hk)).1) (B.good Ha Hb Hc h hv) B,
  Bnd.num Ha Hb Hc h hv (by decide) (fun g x hx hs n=>((hs n).four (by rw [hx];exact hk)).2) (B.good Ha Hb Hc h hv) B⟩
theorem Bnd.five (B : Bnd a b q c v) (Ha : Gd a) (Hb : Gd b) (Hc : Gw c) (h : okK a.length b.length q) (hv : inr c v) (hk : (nA a b q).k = 5) : Bnd a b (nxK a b q 0 0 q.u) c ((gAt c v).to.getD 0 0) ∧ Bnd a b (nxK a b q 1 1 q.u) c ((gAt c v).to.getD 1 0) :=
 ⟨Bnd.num Ha Hb Hc h hv (by decide) (fun g x hx hs n=>((hs n).five (by rw [hx];exact hk)).1) (B.good Ha Hb Hc h hv) B,
  Bnd.num Ha Hb Hc h hv (by decide) (fun g x hx hs n=>((hs n).five (by rw [hx];exact hk)).2) (B.good Ha Hb Hc h hv) B⟩
theorem Bnd.lab (B : Bnd a b q c v) (Ha : Gd a) (Hb : Gd b) (Hc : Gw c) (h : okK a.length b.length q) (hv : inr c v) (hk : (nA a b q).k = 6 ∨ (nA a b q).k = 7) {l : ByteArray} (hl : l ∈ (gAt c v).ls) : Bnd a b (nxK a b q (ixY a q.i l) (ixY b q.k l) q.u) c (atL (gAt c v) l):=by
 have hb:=B.good Ha Hb Hc h hv
 constructor
 · intro hi n
   have h1:=(xt8 hi).1
   show qw9 q.u n (obs a n (goK a q.i (ixY a q.i l))) _
   by_cases hm : l ∈ (gAt a q.i).ls
   · rw [yk3 h1 hm]
     exact (B.si Ha Hc h hv h1 n).lab (by rw [← xc4 (b:=b) h1];exact hk) l hm hl
   · exact absurd (yl5 hm) hi
 · intro hi n
   have h1:=(xt8 hi).1
   show qw9 q.u n (obs b n (goK b q.k (ixY b q.k l))) _
   by_cases hm : l ∈ (gAt b q.k).ls
   · rw [yk3 h1 hm]
     exact (B.sk Hb Hc h hv h1 n).lab (by rw [(va7 hb h1).1];exact hk) l hm hl
   · exact absurd (yl5 hm) hi
theorem Bnd.less (B : Bnd a b q c v) (Ha : Gd a) (Hb : Gd b) (Hc : Gw c) (h : okK a.length b.length q) (hv : inr c v) (hs : smK a b q = true) {l : ByteArray} (hl : l ∈ (gAt c v).ls) : l ∈ lbK a b q:=by
 obtain ⟨s1,s2,s3⟩:=vf6.1 hs
 obtain ⟨h1,h2⟩:=qj3.1 s2
 have hb:=B.good Ha Hb Hc h hv
 refine (xq2 s1).2 (.inl ?_)
 rw [if_pos hs]
 have hk:=qo5.1 s1
 refine ⟨(B.si Ha Hc h hv h1 0).less (by rw [← xc4 (b:=b) h1];exact hk) (by rw [← xc4 (b:=b) h1];exact s3) l hl,(B.sk Hb Hc h hv h2 0).less (by rw [(va7 hb h2).1];exact hk) (by rw [(va7 hb h2).1];exact s3) l hl⟩
theorem Bnd.more (B : Bnd a b q c v) (Ha : Gd a) (Hb : Gd b) (Hc : Gw c) (h : okK a.length b.length q) (hv : inr c v) (hc : chB (nA a b q) = true) (hs : vo9 (nA a b q).k q.u = false) {l : ByteArray} (hl : l ∈ lbK a b q) : l ∈ (gAt c v).ls:=by
 have hb:=B.good Ha Hb Hc h hv
 have hk:=qo5.1 hc
 rcases xi9 h hc hl with ⟨h1,h2⟩ | ⟨h1,h2⟩
 · exact (B.si Ha Hc h hv h1 0).more (by rw [← xc4 (b:=b) h1];exact hk) (by rw [← xc4 (b:=b) h1];exact hs) l h2
 · exact (B.sk Hb Hc h hv h1 0).more (by rw [(va7 hb h1).1];exact hk) (by rw [(va7 hb h1).1];exact hs) l h2
end
theorem ym2 (a b : List Nd) {q : Ky} (hi : q.k = -1) : Bnd a b q a q.i:=⟨fun _ n=>by
 unfold qw9;split <;> exact vx0 n _,fun h=>absurd hi h⟩
theorem xt9 (a b : List Nd) {q : Ky} (hi : q.i = -1) : Bnd a b q b q.k:=⟨fun h=>absurd hi h,fun _ n=>by
 unfold qw9;split <;> exact vx0 n _⟩
end Go.Proofs.YtgecnlcbdbaneaaDoor
/- What is struck: plain. -/
namespace Go.Proofs.YtgecnlcbdbaneaaDoor
open Go.RowKit Go.Sw

def fAt (F : List Bool) (t : Int) : Bool:=F.getD t.toNat false
def vg3 (F : List Bool) (to : List Int) : Nat:=(to.filter (fAt F)).length
def qj2 (s : Bd) (j : Nat) : List Int:=(s.ns.getD j n0).to
def yj7 (s : Bd) (F : List Bool) (j : Nat) : Bool := !(F.getD j false) && (decide (0 < vg3 F (qj2 s j)) && (!(s.sm.getD j false) || decide (vg3 F (qj2 s j) = (qj2 s j).length)))
def xw5 (s : Bd) (F : List Bool) (j : Nat) : List Bool:=if yj7 s F j = true then F.set j true else F
def yv6 (s : Bd) (F : List Bool) : List Bool:=(List.range s.ks.length).foldl (xw5 s) F
def strF (s : Bd) : Nat → List Bool → List Bool
 | 0,F=>F
 | f + 1,F=>if yv6 s F = F then F else strF s f (yv6 s F)
def qa7 (s : Bd) : List Bool:=strF s (s.ks.length + 1) s.fl
def qs3 : List Bool → Nat
 | []=>0
 | x :: l=>(if x = true then 1 else 0) + qs3 l
theorem xk8 : ∀ l : List Bool,qs3 l ≤ l.length
 | []=>Nat.le_refl _
 | x :: l=>by
  have:=xk8 l
  simp only [qs3,List.length_cons]
  split <;> omega
theorem xh1 : ∀ {l : List Bool} {j : Nat},j < l.length → l.getD j false = false → qs3 (l.set j true) = qs3 l + 1
 | [],_,h,_=>by simp at h
 | x :: l,0,_,h=>by
  simp at h
  subst h
  simp [qs3]
  omega
 | x :: l,j + 1,h,h'=>by
  have:=xh1 (l:=l) (j:=j) (by simpa using h) (by simpa using h')
  simp only [List.set_cons_succ,qs3,this]
  omega
def Rule (s : Bd) (B : Nat → Prop) (j : Nat) : Prop:=(s.sm.getD j false = false ∧ ∃ t ∈ qj2 s j,B t.toNat) ∨ (s.sm.getD j false = true ∧ qj2 s j ≠ [] ∧ ∀ t ∈ qj2 s j,B t.toNat)
structure vd3 (s : Bd) (F F' : List Bool) : Prop where
 ln : F'.length = F.length
 up : ∀ j,F.getD j false = true → F'.getD j false = true
 mn : ∀ B : Nat → Prop,(∀ j,F.getD j false = true → B j) → (∀ j,j < s.ks.length → Rule s B j → B j) → ∀ j,F'.getD j false = true → B j
theorem vd3.refl (s : Bd) (F : List Bool) : vd3 s F F:=⟨rfl,fun _ h=>h,fun _ h _=>h⟩
theorem vd3.trans {s : Bd} {F G H : List Bool} (h : vd3 s F G) (k : vd3 s G H) : vd3 s F H:=⟨k.ln.trans h.ln,fun j hj=>k.up j (h.up j hj),fun B h1 h2=>k.mn B (h.mn B h1 h2) h2⟩
theorem xn8 {l : List Bool} {i j : Nat} {v : Bool} (hi : i < l.length) : (l.set i v).getD j false = if j = i then v else l.getD j false:=by
 by_cases h : j = i
 · subst h;simp [List.getD,hi]
 · rw [if_neg h];simp [List.getD,List.getElem?_set_ne (Ne.symm h)]
theorem vd3.step {s : Bd} {F : List Bool} {j : Nat} (hj : j < F.length) (hn : j < s.ks.length) (hc : yj7 s F j = true) : vd3 s F (F.set j true):=by
 refine ⟨by simp,fun i hi=>?_,fun B h1 h2 i hi=>?_⟩
 · rw [xn8 hj];split
   · rfl
   · exact hi
 · rw [xn8 hj] at hi
   split at hi
   · rename_i e
     subst e
     refine h2 i hn ?_
     unfold yj7 at hc
     simp only [Bool.and_eq_true,Bool.or_eq_true,Bool.not_eq_true',decide_eq_true_eq] at hc
     obtain ⟨-,c1,c2⟩:=hc
     have hex : ∃ t ∈ qj2 s i,fAt F t = true:=by
      unfold vg3 at c1
      obtain ⟨t,ht⟩:=List.exists_mem_of_length_pos c1
      exact ⟨t,(List.mem_filter.1 ht).1,(List.mem_filter.1 ht).2⟩
     cases hs : s.sm.getD i false with
     | false =>
      obtain ⟨t,ht,hf⟩:=hex
      exact .inl ⟨hs,t,ht,h1 _ hf⟩
     | true =>
      rw [hs] at c2
      have c2 : vg3 F (qj2 s i) = (qj2 s i).length:=by simpa using c2
      refine .inr ⟨hs,fun e=>?_,fun t ht=>h1 _ ?_⟩
      · obtain ⟨t,ht, -⟩:=hex
        rw [e] at ht;cases ht
      · unfold vg3 at c2
        exact (List.length_filter_eq_length_iff.1 c2) t ht
   · exact h1 i hi
theorem vi7 (s : Bd) : ∀ (l : List Nat) (F : List Bool),(∀ j ∈ l,j < F.length ∧ j < s.ks.length) → vd3 s F (l.foldl (xw5 s) F) ∧ (((∀ j ∈ l,yj7 s F j = false) ∧ l.foldl (xw5 s) F = F) ∨ qs3 F < qs3 (l.foldl (xw5 s) F))
 | [],F,_=>⟨vd3.refl s F,.inl ⟨(fun _ h=>by cases h),rfl⟩⟩
 | j :: l,F,h=>by
  have hj:=h j (by simp)
  simp only [List.foldl_cons]
  by_cases hc : yj7 s F j = true
  · have e : xw5 s F j = F.set j true:=by unfold xw5;rw [if_pos hc]
    rw [e]
    have ih:=vi7 s l (F.set j true) (fun i hi=>by have:=h i (by simp [hi]);simpa using this)
    have hf : F.getD j false = false:=by
     unfold yj7 at hc
     simp only [Bool.and_eq_true,Bool.not_eq_true'] at hc
     exact hc.1
    have hcnt:=xh1 hj.1 hf
    refine ⟨(vd3.step hj.1 hj.2 hc).trans ih.1,.inr ?_⟩
    rcases ih.2 with ⟨-,e⟩ | e
    · rw [e];omega
    · omega
  · have e : xw5 s F j = F:=by unfold xw5;rw [if_neg hc]
    rw [e]
    have ih:=vi7 s l F (fun i hi=>h i (by simp [hi]))
    refine ⟨ih.1,?_⟩
    rcases ih.2 with ⟨h1,h2⟩ | h2
    · refine .inl ⟨fun i hi=>?_,h2⟩
      rcases List.mem_cons.1 hi with rfl | hi
      · simpa using hc
      · exact h1 i hi
    · exact .inr h2
theorem xz6 (s : Bd) : ∀ (f : Nat) (F : List Bool),F.length = s.ks.length → s.ks.length + 1 ≤ f + qs3 F → vd3 s F (strF s f F) ∧ ∀ j,j < s.ks.length → yj7 s (strF s f F) j = false
 | 0,F,hl,hf=>by
  have:=xk8 F
  omega
 | f + 1,F,hl,hf=>by
  have h:=vi7 s (List.range s.ks.length) F (fun j hj=>by have:=List.mem_range.1 hj;omega)
  unfold strF
  by_cases he : yv6 s F = F
  · rw [if_pos he]
    refine ⟨vd3.refl s F,fun j hj=>?_⟩
    rcases h.2 with ⟨h1, -⟩ | h2
    · exact h1 j (List.mem_range.2 hj)
    · unfold yv6 at he
      rw [he] at h2
      omega
  · rw [if_neg he]
    have h3 : qs3 F < qs3 (yv6 s F):=by
     rcases h.2 with ⟨-,h2⟩ | h2
     · exact absurd h2 he
     · exact h2
    have ih:=xz6 s f (yv6 s F) (h.1.ln.trans hl) (by omega)
    exact ⟨h.1.trans ih.1,ih.2⟩
theorem vk5 {s : Bd} (hl : s.fl.length = s.ks.length) : vd3 s s.fl (qa7 s) ∧ ∀ j,j < s.ks.length → yj7 s (qa7 s) j = false:=xz6 s _ _ hl (by omega)
def sgN (s : Bd) (F : List Bool) (j : Nat) : Nd :=
 if F.getD j false = true then n0 else ⟨(s.ns.getD j n0).k,(s.ns.getD j n0).so,(((s.ns.getD j n0).ls.zip (s.ns.getD j n0).to).filter fun p => !fAt F p.2).map (·.1),(s.ns.getD j n0).to.filter fun t => !fAt F t⟩
def SG (s : Bd) (F : List Bool) : List Nd:=(List.range s.ks.length).map (sgN s F)
theorem yi2 (s : Bd) (F : List Bool) : (SG s F).length = s.ks.length:=by simp [SG]
theorem SG_at {s : Bd} {F : List Bool} {j : Nat} (hj : j < s.ks.length) : gAt (SG s F) (j : Int) = sgN s F j:=by
 unfold gAt SG
 rw [List.getD_eq_getElem?_getD,Int.toNat_natCast,List.getElem?_map,List.getElem?_range hj]
 rfl
theorem vr9 {α β : Type} (p : β → Bool) : ∀ (l : List α) (m : List β),l.length = m.length → m.filter p = ((l.zip m).filter fun x=>p x.2).map (·.2)
 | [],[],_=>rfl
 | [],_ :: _,h=>by simp at h
 | _ :: _,[],h=>by simp at h
 | a :: l,b :: m,h=>by
  have ih:=vr9 p l m (by simpa using h)
  simp only [List.zip_cons_cons,List.filter_cons]
  cases p b <;> simp [ih]
theorem zip_at {P : List (ByteArray × Int)} (hn : (P.map (·.1)).Nodup) {l : ByteArray} {t : Int} (h : (l,t) ∈ P) : (P.map (·.2)).getD (ixL l (P.map (·.1))).toNat 0 = t:=by
 obtain ⟨i,hi,e⟩:=List.mem_iff_getElem.1 h
 have h1 : (P.map (·.1))[i]? = some l:=by simp [hi,e]
 rw [ixL_at hn h1]
 simp [List.getD,hi,e]
end Go.Proofs.YtgecnlcbdbaneaaDoor
