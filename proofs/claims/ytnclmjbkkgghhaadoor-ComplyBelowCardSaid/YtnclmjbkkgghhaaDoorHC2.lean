/- Two get on just if the one's other end is below the other one: by trees. -/
import Derived.Test.YtnclmjbkkgghhaaDoorH28
import Derived.Test.YtnclmjbkkgghhaaDoorHQ5
set_option linter.unusedVariables false
set_option linter.unusedSimpArgs false
namespace Go.Proofs.YtnclmjbkkgghhaaDoor
open Go.RowKit Go.Sw

/-- What is done at a pair, down to a depth: the other end of the one's is below the other's. -/
def cS (g h : List Nd) (n : Nat) (p : Pc) : Prop:=subT n (dT n (obs h n p.b)) (obs g n p.a)
theorem sub_iff {a b : List Nd} (ha : Gd a) (hb : Gd b) : subG a b = true ↔ ∀ n,subT n (obs a n 0) (obs b n 0):=by
  unfold subG
  rw [Option.isNone_iff_eq_none,why_iff ha.pos hb.pos ha.ok hb.ok]
theorem subAt_iff {a b : List Nd} (ha : Gd a) (hb : Gd b) {i j : Int} (hi : 0 ≤ i ∧ i < (a.length : Int)) (hj : 0 ≤ j ∧ j < (b.length : Int)) : subG (atP a i) (atP b j) = true ↔ ∀ n,subT n (obs a n i) (obs b n j):=by
  rw [sub_iff (ha.at hi) (hb.at hj)]
  have e1 : ∀ n,obs (atP a i) n 0 = obs a n i:=fun n=>by
    have:=atP_obs ha.pos hi ha.ok n 0 (by decide) (by have:=ha.pos; omega)
    rw [this]; unfold swI; rw [if_pos rfl]
  have e2 : ∀ n,obs (atP b j) n 0 = obs b n j:=fun n=>by
    have:=atP_obs hb.pos hj hb.ok n 0 (by decide) (by have:=hb.pos; omega)
    rw [this]; unfold swI; rw [if_pos rfl]
  simp only [e1,e2]
theorem kid_map2 (h : List Nd) (n : Nat) {to : List Int} {i : Nat} (hi : i < to.length) : kid ((to.map (obs h n)).map (dT n)) i = dT n (obs h n (to.getD i 0)):=by
  rw [kid_dT,kid_map hi]
/-- The same, said of what comes next. -/
theorem meets_tree {g h : List Nd} (Hg : Gd g) (Hh : Gd h) {p : Pc} (a0 : 0 ≤ p.a) (a1 : p.a < (g.length : Int)) (b0 : 0 ≤ p.b) (b1 : p.b < (h.length : Int)) :
    (∀ n l,meetsP g h p = some l → (∀ s ∈ l,cS g h n s.2) → cS g h (n + 1) p) ∧ ((∀ n,cS g h n p) → ∃ l,meetsP g h p = some l ∧ ∀ s ∈ l, ∀ n,cS g h n s.2):=by
  have okX:=Hg.ok _ (gAt_mem a0 a1)
  have okY:=Hh.ok _ (gAt_mem b0 b1)
  have sx:=Hg.sh _ (gAt_mem a0 a1)
  have sy:=Hh.sh _ (gAt_mem b0 b1)
  have rX:=okX.ok.r
  have rY:=okY.ok.r
  have eS : ∀ n,cS g h (n + 1) p ↔ subT (n + 1) (.nd (dKind (gAt h p.b).k) (gAt h p.b).so (gAt h p.b).ls (if (gAt h p.b).k = 4 ∨ (gAt h p.b).k = 5 then ((gAt h p.b).to.map (obs h n)).take 1 ++ (((gAt h p.b).to.map (obs h n)).drop 1).map (dT n) else ((gAt h p.b).to.map (obs h n)).map (dT n))) (.nd (gAt g p.a).k (gAt g p.a).so (gAt g p.a).ls ((gAt g p.a).to.map (obs g n))):=fun n=>Iff.rfl
  have eM : meetsP g h p = (if (gAt h p.b).k ≠ dKind (gAt g p.a).k then none else if (gAt g p.a).so ≠ (gAt h p.b).so then none
    else if (gAt g p.a).k = 2 ∨ (gAt g p.a).k = 3 then some [(dotS,⟨(gAt g p.a).to.getD 0 0,(gAt h p.b).to.getD 0 0⟩)]
    else if (gAt g p.a).k = 4 ∨ (gAt g p.a).k = 5 then (if carryB g h (gAt g p.a) (gAt h p.b) = true then some [(dotS,⟨(gAt g p.a).to.getD 1 0,(gAt h p.b).to.getD 1 0⟩)] else none)
    else if (gAt g p.a).k = 6 ∨ (gAt g p.a).k = 7 then (if (outL (gAt g p.a) (gAt h p.b)).all (fun l=>inL (inL2 (gAt g p.a) (gAt h p.b)) l) = true then some ((outL (gAt g p.a) (gAt h p.b)).map (lPc (gAt g p.a) (gAt h p.b))) else none)
    else some []):=rfl
  rw [eM]
  clear eM okX okY
  generalize gAt g p.a = X at *
  generalize gAt h p.b = Y at *
  have dk : dKind Y.k = X.k ↔ Y.k = dKind X.k:=⟨fun e=>by rw [← e,dKind_inv],fun e=>by rw [e,dKind_inv]⟩
  by_cases hk : Y.k = dKind X.k
  rotate_left
  · rw [if_pos hk]
    refine ⟨fun n l hl=>(by cases hl),fun hs=>?_⟩
    have:=(eS 0).1 (hs 1)
    unfold subT at this
    exact absurd (dk.1 this.1) hk
  rw [if_neg (by simpa using hk)]
  have hk':=dk.2 hk
  by_cases hso : X.so = Y.so
  rotate_left
  · rw [if_pos hso]
    refine ⟨fun n l hl=>(by cases hl),fun hs=>?_⟩
    have:=(eS 0).1 (hs 1)
    unfold subT at this
    exact absurd this.2.1.symm hso
  rw [if_neg (by simpa using hso)]
  obtain ⟨xk,xso,xls,xto⟩:=X
  obtain ⟨yk,yso,yls,yto⟩:=Y
  simp only at *
  subst hso
  rcases sx with ⟨ek,es,el,em⟩ | ⟨ek,es,el,em⟩ | ⟨ek,es,el,em⟩ | ⟨ek,es,el,em⟩
  · -- the end
    subst ek
    have hy : yk = 1:=by rw [hk]; decide
    subst hy
    rw [if_neg (by decide),if_neg (by decide),if_neg (by decide)]
    rcases sy with ⟨fk,fs,fl,fm⟩ | ⟨fk,fs,fl,fm⟩ | ⟨fk,fs,fl,fm⟩ | ⟨fk,fs,fl,fm⟩ <;> try omega
    subst el fl
    refine ⟨fun n l hl hs=>(eS n).2 ?_,fun hs=>⟨[],rfl,fun s hs=>by cases hs⟩⟩
    simp [subT,dKind]
  · -- a value
    rw [if_pos ek]
    obtain ⟨x,rfl⟩:=len1 em
    have hy : yk = 2 ∨ yk = 3:=by rw [hk]; rcases ek with rfl | rfl <;> decide
    rcases sy with ⟨fk,fs,fl,fm⟩ | ⟨fk,fs,fl,fm⟩ | ⟨fk,fs,fl,fm⟩ | ⟨fk,fs,fl,fm⟩ <;> try omega
    obtain ⟨y,rfl⟩:=len1 fm
    subst el fl
    have key : ∀ n,cS g h (n + 1) p ↔ cS g h n ⟨x,y⟩:=fun n=>by
      rw [eS]
      rcases ek with rfl | rfl
      · have : yk = 3:=by rw [hk]; decide
        subst this
        simp [subT,dKind,kid,cS]
      · have : yk = 2:=by rw [hk]; decide
        subst this
        simp [subT,dKind,kid,cS]
    refine ⟨fun n l hl hs=>by cases hl; exact (key n).2 (hs (dotS,⟨x,y⟩) (by simp)),fun hs=>⟨_,rfl,fun s hs2 n=>?_⟩⟩
    rw [List.mem_singleton] at hs2
    subst hs2
    exact (key n).1 (hs (n + 1))
  · -- a channel
    rw [if_neg (by omega),if_pos ek]
    obtain ⟨x,x2,rfl⟩:=len2 em
    have hy : yk = 4 ∨ yk = 5:=by rw [hk]; rcases ek with rfl | rfl <;> decide
    rcases sy with ⟨fk,fs,fl,fm⟩ | ⟨fk,fs,fl,fm⟩ | ⟨fk,fs,fl,fm⟩ | ⟨fk,fs,fl,fm⟩ <;> try omega
    obtain ⟨y,y2,rfl⟩:=len2 fm
    subst el fl
    have rx:=rX x (by simp)
    have ry:=rY y (by simp)
    have key : ∀ n,cS g h (n + 1) p ↔ ((if xk = 5 then subT n (obs h n y) (obs g n x) else subT n (obs g n x) (obs h n y)) ∧ cS g h n ⟨x2,y2⟩):=fun n=>by
      rw [eS]
      rcases ek with rfl | rfl
      · have : yk = 5:=by rw [hk]; decide
        subst this
        simp [subT,dKind,kid,cS]
      · have : yk = 4:=by rw [hk]; decide
        subst this
        simp [subT,dKind,kid,cS]
    have car : carryB g h ⟨xk,xso,[],[x,x2]⟩ ⟨yk,xso,[],[y,y2]⟩ = true ↔ ∀ n,(if xk = 5 then subT n (obs h n y) (obs g n x) else subT n (obs g n x) (obs h n y)):=by
      unfold carryB
      simp only [List.getD_cons_zero]
      by_cases h5 : xk = 5
      · simp only [if_pos h5]
        exact subAt_iff Hh Hg ry rx
      · simp only [if_neg h5]
        exact subAt_iff Hg Hh rx ry
    refine ⟨fun n l hl hs=>(key n).2 ?_,fun hs=>?_⟩
    · split at hl
      · rename_i hc
        cases hl
        exact ⟨car.1 hc n,hs (dotS,⟨x2,y2⟩) (by simp)⟩
      · cases hl
    · rw [if_pos (car.2 fun n=>((key n).1 (hs (n + 1))).1)]
      refine ⟨_,rfl,fun s hs2 n=>?_⟩
      rw [List.mem_singleton] at hs2
      subst hs2
      exact ((key n).1 (hs (n + 1))).2
  · -- a choice
    rw [if_neg (by omega),if_neg (by omega),if_pos ek]
    have hy : yk = 6 ∨ yk = 7:=by rw [hk]; rcases ek with rfl | rfl <;> decide
    rcases sy with ⟨fk,fs,fl,fm⟩ | ⟨fk,fs,fl,fm⟩ | ⟨fk,fs,fl,fm⟩ | ⟨fk,fs,fl,fm⟩ <;> try omega
    have kl : ∀ (n : Nat) (l : ByteArray),l ∈ xls → l ∈ yls → (subT n (kidL yls ((yto.map (obs h n)).map (dT n)) l) (kidL xls (xto.map (obs g n)) l) ↔ cS g h n ⟨xto.getD (ixL l xls).toNat 0,yto.getD (ixL l yls).toNat 0⟩):=fun n l h1 h2=>by
      have q1:=ixL_mem h1
      have q2:=ixL_mem h2
      unfold kidL cS
      rw [kid_map2 h n (by omega),kid_map (by omega)]
    rcases ek with rfl | rfl
    · have hy7 : yk = 7:=by rw [hk]; decide
      subst hy7
      have key : ∀ n,cS g h (n + 1) p ↔ ∀ l ∈ xls,l ∈ yls ∧ subT n (kidL yls ((yto.map (obs h n)).map (dT n)) l) (kidL xls (xto.map (obs g n)) l):=fun n=>by
        rw [eS]
        simp [subT,dKind]
      have eo : outL ⟨6,xso,xls,xto⟩ ⟨7,xso,yls,yto⟩ = xls:=rfl
      have ei : inL2 ⟨6,xso,xls,xto⟩ ⟨7,xso,yls,yto⟩ = yls:=rfl
      rw [eo,ei]
      refine ⟨fun n l hl hs=>(key n).2 fun l' hl'=>?_,fun hs=>?_⟩
      · split at hl
        · rename_i ha
          rw [List.all_eq_true] at ha
          cases hl
          have hin:=inL_iff.1 (ha l' hl')
          exact ⟨hin,(kl n l' hl' hin).2 (hs _ (List.mem_map.2 ⟨l',hl',rfl⟩))⟩
        · cases hl
      · rw [if_pos (by rw [List.all_eq_true]; exact fun l hl=>inL_iff.2 ((key 0).1 (hs 1) l hl).1)]
        refine ⟨_,rfl,fun s hs2 n=>?_⟩
        obtain ⟨l,hl,rfl⟩:=List.mem_map.1 hs2
        have:=(key n).1 (hs (n + 1)) l hl
        exact (kl n l hl this.1).1 this.2
    · have hy6 : yk = 6:=by rw [hk]; decide
      subst hy6
      have key : ∀ n,cS g h (n + 1) p ↔ ∀ l ∈ yls,l ∈ xls ∧ subT n (kidL yls ((yto.map (obs h n)).map (dT n)) l) (kidL xls (xto.map (obs g n)) l):=fun n=>by
        rw [eS]
        simp [subT,dKind]
      have eo : outL ⟨7,xso,xls,xto⟩ ⟨6,xso,yls,yto⟩ = yls:=rfl
      have ei : inL2 ⟨7,xso,xls,xto⟩ ⟨6,xso,yls,yto⟩ = xls:=rfl
      rw [eo,ei]
      refine ⟨fun n l hl hs=>(key n).2 fun l' hl'=>?_,fun hs=>?_⟩
      · split at hl
        · rename_i ha
          rw [List.all_eq_true] at ha
          cases hl
          have hin:=inL_iff.1 (ha l' hl')
          exact ⟨hin,(kl n l' hin hl').2 (hs _ (List.mem_map.2 ⟨l',hl',rfl⟩))⟩
        · cases hl
      · rw [if_pos (by rw [List.all_eq_true]; exact fun l hl=>inL_iff.2 ((key 0).1 (hs 1) l hl).1)]
        refine ⟨_,rfl,fun s hs2 n=>?_⟩
        obtain ⟨l,hl,rfl⟩:=List.mem_map.1 hs2
        have:=(key n).1 (hs (n + 1)) l hl
        exact (kl n l this.1 hl).1 this.2
end Go.Proofs.YtnclmjbkkgghhaaDoor
