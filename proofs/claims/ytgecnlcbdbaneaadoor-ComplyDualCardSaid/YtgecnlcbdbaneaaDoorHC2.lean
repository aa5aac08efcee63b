/- Two get on just if the one's other end is below the other one: by trees. -/
import Derived.Test.YtgecnlcbdbaneaaDoorH27
import Derived.Test.YtgecnlcbdbaneaaDoorHQ5
set_option linter.unusedVariables false
set_option linter.unusedSimpArgs false
namespace Go.Proofs.YtgecnlcbdbaneaaDoor
open Go.RowKit Go.Sw

def cS (g h : List Nd) (n : Nat) (p : Pc) : Prop:=subT n (dT n (obs h n p.b)) (obs g n p.a)
theorem sub_iff {a b : List Nd} (ha : Gd a) (hb : Gd b) : subG a b = true ↔ ∀ n,subT n (obs a n 0) (obs b n 0):=by
  unfold subG
  rw [Option.isNone_iff_eq_none,why_iff ha.pos hb.pos ha.ok hb.ok]
theorem subAt_iff {a b : List Nd} (ha : Gd a) (hb : Gd b) {i j : Int} (hi : 0 ≤ i ∧ i < (a.length : Int)) (hj : 0 ≤ j ∧ j < (b.length : Int)) : subG (atP a i) (atP b j) = true ↔ ∀ n,subT n (obs a n i) (obs b n j):=by
  rw [sub_iff (ha.at hi) (hb.at hj)]
  have e1 : ∀ n,obs (atP a i) n 0 = obs a n i:=fun n=>by
    have:=atP_obs ha.pos hi ha.ok n 0 (by decide) (by have:=ha.pos;omega)
    rw [this];unfold swI;rw [if_pos rfl]
  have e2 : ∀ n,obs (atP b j) n 0 = obs b n j:=fun n=>by
    have:=atP_obs hb.pos hj hb.ok n 0 (by decide) (by have:=hb.pos;omega)
    rw [this];unfold swI;rw [if_pos rfl]
  simp only [e1,e2]
theorem kid_map2 (h : List Nd) (n : Nat) {to : List Int} {i : Nat} (hi : i < to.length) : kid ((to.map (obs h n)).map (dT n)) i = dT n (obs h n (to.getD i 0)):=by
  rw [kid_dT,kid_map hi]
theorem meets_tree {g h : List Nd} (Hg : Gd g) (Hh : Gd h) {p : Pc} (a0 : 0 ≤ p.a) (a1 : p.a < (g.length : Int)) (b0 : 0 ≤ p.b) (b1 : p.b < (h.length : Int)) :
    (∀ n l,meetsP g h p = some l → (∀ s ∈ l,cS g h n s.2) → cS g h (n + 1) p) ∧ ((∀ n,cS g h n p) → ∃ l,meetsP g h p = some l ∧ ∀ s ∈ l, ∀ n,cS g h n s.2):=by
  have okX:=Hg.ok _ (gAt_mem a0 a1)
  have okY:=Hh.ok _ (gAt_mem b0 b1)
  have sx:=Hg.sh _ (gAt_mem a0 a1)
  have sy:=Hh.sh _ (gAt_mem b0 b1)
  have rX:=okX.ok.r
  have rY:=okY.ok.r
  have eS : ∀ n,cS g h (n + 1) p ↔ subT (n + 1) (.nd (dKind (gAt h p.b).k) (gAt h p.b).so (gAt h p.b).ls (if (gAt h p.b).k = 4 ∨ (gAt h p.b).k = 5 then ((gAt h p.b).to.map (obs h n)).take 1 ++ (((gAt h p.b).to.map (obs h n)).drop 1).map (dT n) else ((gAt h p.b).to.map (obs h n)).map (dT n))) (.nd (gAt g p.a).k (gAt g p.a).so (gAt g p.a).ls ((gAt g p.a).to.map (obs g n))):=fun n=>Iff.rfl
  have eM : meetsP g h p = (if (gAt h p.b).k ≠ dKind (gAt g p.a).k then none else if (gAt g p.a).so ≠ (gAt h p.b).so then none
    else if (gAt g p.a).k = 2 ∨ (gAt g p.a).k = 3 then some [(dotS,⟨(gAt g p.a).to.getD 0 0,(gAt h p.b).to.getD 0 0⟩)]
    else if (gAt g p.a).k = 4 ∨ (gAt g p.a).k = 5 then (if carryB g h (gAt g p.a) (gAt h p.b) = true then some [(dotS,⟨(gAt g p.a).to.getD 1 0,(gAt h p.b).to.getD 1 0⟩)] else none)
    else if (gAt g p.a).k = 6 ∨ (gAt g p.a).k = 7 then (if (outL (gAt g p.a) (gAt h p.b)).all (fun l=>inL (inL2 (gAt g p.a) (gAt h p.b)) l) = true then some ((outL (gAt g p.a) (gAt h p.b)).map (lPc (gAt g p.a) (gAt h p.b))) else none)
    else some []):=rfl
  rw [eM]
  clear eM okX okY
  generalize gAt g p.a = X at *
  generalize gAt h p.b = Y at *
  have dk : dKind Y.k = X.k ↔ Y.k = dKind X.k:=⟨fun e=>by rw [← e,dKind_inv],fun e=>by rw [e,dKind_inv]⟩
  by_cases hk : Y.k = dKind X.k
  rotate_left
  · rw [if_pos hk]
    refine ⟨fun n l hl=>(by cases hl),fun hs=>?_⟩
    have:=(eS 0).1 (hs 1)
    unfold subT at this
    exact absurd (dk.1 this.1) hk
  rw [if_neg (by simpa using hk)]
  have hk':=dk.2 hk
  by_cases hso : X.so = Y.so
  rotate_left
  · rw [if_pos hso]
    refine ⟨fun n l hl=>(by cases hl),fun hs=>?_⟩
    have:=(eS 0).1 (hs 1)
    unfold subT at this
    exact absurd this.2.1.symm hso
  rw [if_neg (by simpa using hso)]
  obtain ⟨xk,xso,xls,xto⟩:=X
  obtain ⟨yk,yso,yls,yto⟩:=Y
  simp only at *
  subst hso
  rcases sx with ⟨ek,es,el,em⟩ | ⟨ek,es,el,em⟩ | ⟨ek,es,el,em⟩ | ⟨ek,es,el,em⟩
  · -- the end
    subst ek
    have hy : yk = 1:=by rw [hk];decide
    subst hy
    rw [if_neg (by decide),if_neg (by decide),if_neg (by decide)]
    rcases sy with ⟨fk,fs,fl,fm⟩ | ⟨fk,fs,fl,fm⟩ | ⟨fk,fs,fl,fm⟩ | ⟨fk,fs,fl,fm⟩ <;> try omega
    subst el fl
    refine ⟨fun n l hl hs=>(eS n).2 ?_,fun hs=>⟨[],rfl,fun s hs=>by cases hs⟩⟩
    simp [subT,dKind]
  · -- a value
    rw [if_pos ek]
    obtain ⟨x,rfl⟩:=len1 em
    have hy : yk = 2 ∨ yk = 3:=by rw [hk];rcases ek with rfl | rfl <;> decide
    rcases sy with ⟨fk,fs,fl,fm⟩ | ⟨fk,fs,fl,fm⟩ | ⟨fk,fs,fl,fm⟩ | ⟨fk,fs,fl,fm⟩ <;> try omega
    obtain ⟨y,rfl⟩:=len1 fm
    subst el fl
    have key : ∀ n,cS g h (n + 1) p ↔ cS g h n ⟨x,y⟩:=fun n=>by
      rw [eS]
      rcases ek with rfl | rfl
      · have : yk = 3:=by rw [hk];decide
        subst this
        simp [subT,dKind,kid,cS]
      · have : yk = 2:=by rw [hk];decide
        subst this
        simp [subT,dKind,kid,cS]
    refine ⟨fun n l hl hs=>by cases hl;exact (key n).2 (hs (dotS,⟨x,y⟩) (by simp)),fun hs=>⟨_,rfl,fun s hs2 n=>?_⟩⟩
    rw [List.mem_singleton] at hs2
    subst hs2
    exact (key n).1 (hs (n + 1))
  · -- a channel
    rw [if_neg (by omega),if_pos ek]
    obtain ⟨x,x2,rfl⟩:=len2 em
    have hy : yk = 4 ∨ yk = 5:=by rw [hk];rcases ek with rfl | rfl <;> decide
    rcases sy with ⟨fk,fs,fl,fm⟩ | ⟨fk,fs,fl,fm⟩ | ⟨fk,fs,fl,fm⟩ | ⟨fk,fs,fl,fm⟩ <;> try omega
    obtain ⟨y,y2,rfl⟩:=len2 fm
    subst el fl
    have rx:=rX x (by simp)
    have ry:=rY y (by simp)
    have key : ∀ n,cS g h (n + 1) p ↔ ((if xk = 5 then subT n (obs h n y) (obs g n x) else subT n (obs g n x) (obs h n y)) ∧ cS g h n ⟨x2,y2⟩):=fun n=>by
      rw [eS]
      rcases ek with rfl | rfl
      · have : yk = 5:=by rw [hk];decide
        subst this
        simp [subT,dKind,kid,cS]
      · have : yk = 4:=by rw [hk];decide
        subst this
        simp [subT,dKind,kid,cS]
    have car : carryB g h ⟨xk,xso,[],[x,x2]⟩ ⟨yk,xso,[],[y,y2]⟩ = true ↔ ∀ n,(if xk = 5 then subT n (obs h n y) (obs g n x) else subT n (obs g n x) (obs h n y)):=by
      unfold carryB
      simp only [List.getD_cons_zero]
      by_cases h5 : xk = 5
      · simp only [if_pos h5]
        exact subAt_iff Hh Hg ry rx
      · simp only [if_neg h5]
        exact subAt_iff Hg Hh rx ry
    refine ⟨fun n l hl hs=>(key n).2 ?_,fun hs=>?_⟩
    · split at hl
      · rename_i hc
        cases hl
        exact ⟨car.1 hc n,hs (dotS,⟨x2,y2⟩) (by simp)⟩
      · cases hl
    · rw [if_pos (car.2 fun n=>((key n).1 (hs (n + 1))).1)]
      refine ⟨_,rfl,fun s hs2 n=>?_⟩
      rw [List.mem_singleton] at hs2
      subst hs2
      exact ((key n).1 (hs (n + 1))).2
  · -- a choice
    rw [if_neg (by omega),if_neg (by omega),if_pos ek]
    have hy : yk = 6 ∨ yk = 7:=by rw [hk];rcases ek with rfl | rfl <;> decide
    rcases sy with ⟨fk,fs,fl,fm⟩ | ⟨fk,fs,fl,fm⟩ | ⟨fk,fs,fl,fm⟩ | ⟨fk,fs,fl,fm⟩ <;> try omega
    have kl : ∀ (n : Nat) (l : ByteArray),l ∈ xls → l ∈ yls → (subT n (kidL yls ((yto.map (obs h n)).map (dT n)) l) (kidL xls (xto.map (obs g n)) l) ↔ cS g h n ⟨xto.getD (ixL l xls).toNat 0,yto.getD (ixL l yls).toNat 0⟩):=fun n l h1 h2=>by
      have q1:=ixL_mem h1
      have q2:=ixL_mem h2
      unfold kidL cS
      rw [kid_map2 h n (by omega),kid_map (by omega)]
    rcases ek with rfl | rfl
    · have hy7 : yk = 7:=by rw [hk];decide
      subst hy7
      have key : ∀ n,cS g h (n + 1) p ↔ ∀ l ∈ xls,l ∈ yls ∧ subT n (kidL yls ((yto.map (obs h n)).map (dT n)) l) (kidL xls (xto.map (obs g n)) l):=fun n=>by
        rw [eS]
        simp [subT,dKind]
      have eo : outL ⟨6,xso,xls,xto⟩ ⟨7,xso,yls,yto⟩ = xls:=rfl
      have ei : inL2 ⟨6,xso,xls,xto⟩ ⟨7,xso,yls,yto⟩ = yls:=rfl
      rw [eo,ei]
      refine ⟨fun n l hl hs=>(key n).2 fun l' hl'=>?_,fun hs=>?_⟩
      · split at hl
        · rename_i ha
          rw [List.all_eq_true] at ha
          cases hl
          have hin:=inL_iff.1 (ha l' hl')
          exact ⟨hin,(kl n l' hl' hin).2 (hs _ (List.mem_map.2 ⟨l',hl',rfl⟩))⟩
        · cases hl
      · rw [if_pos (by rw [List.all_eq_true];exact fun l hl=>inL_iff.2 ((key 0).1 (hs 1) l hl).1)]
        refine ⟨_,rfl,fun s hs2 n=>?_⟩
        obtain ⟨l,hl,rfl⟩:=List.mem_map.1 hs2
        have:=(key n).1 (hs (n + 1)) l hl
        exact (kl n l hl this.1).1 this.2
    · have hy6 : yk = 6:=by rw [hk];decide
      subst hy6
      have key : ∀ n,cS g h (n + 1) p ↔ ∀ l ∈ yls,l ∈ xls ∧ subT n (kidL yls ((yto.map (obs h n)).map (dT n)) l) (kidL xls (xto.map (obs g n)) l):=fun n=>by
        rw [eS]
        simp [subT,dKind]
      have eo : outL ⟨7,xso,xls,xto⟩ ⟨6,xso,yls,yto⟩ = yls:=rfl
      have ei : inL2 ⟨7,xso,xls,xto⟩ ⟨6,xso,yls,yto⟩ = xls:=rfl
      rw [eo,ei]
      refine ⟨fun n l hl hs=>(key n).2 fun l' hl'=>?_,fun hs=>?_⟩
      · split at hl
        · rename_i ha
          rw [List.all_eq_true] at ha
          cases hl
          have hin:=inL_iff.1 (ha l' hl')
          exact ⟨hin,(kl n l' hin hl').2 (hs _ (List.mem_map.2 ⟨l',hl',rfl⟩))⟩
        · cases hl
      · rw [if_pos (by rw [List.all_eq_true];exact fun l hl=>inL_iff.2 ((key 0).1 (hs 1) l hl).1)]
        refine ⟨_,rfl,fun s hs2 n=>?_⟩
        obtain ⟨l,hl,rfl⟩:=List.mem_map.1 hs2
        have:=(key n).1 (hs (n + 1)) l hl
        exact (kl n l this.1 hl).1 this.2
end Go.Proofs.YtgecnlcbdbaneaaDoor
/- comply.stuck: there is none just if they get on; ComplyBelow in plain words. -/
namespace Go.Proofs.YtgecnlcbdbaneaaDoor
open Go.RowKit Go.Sw

theorem foldC_all {Q : Pc → Prop} (path : List ByteArray) : ∀ (l : List (ByteArray × Pc)) (qu : Quc),(∀ q ∈ qu,Q q.1) → (∀ s ∈ l,Q s.2) → ∀ q ∈ l.foldl (addC path) qu,Q q.1
  | [],qu,h,_=>h
  | s :: l, qu,h,hl=>foldC_all path l (addC path qu s) (by
      intro q hq
      unfold addC at hq
      split at hq
      · exact h q hq
      · rcases List.mem_append.1 hq with hq | hq
        · exact h q hq
        · rw [List.mem_singleton] at hq
          subst hq
          exact hl s (by simp)) fun x hx=>hl x (by simp [hx])
theorem foldC_has (path : List ByteArray) : ∀ (l : List (ByteArray × Pc)) (qu : Quc),(∀ p,hasC p qu = true → hasC p (l.foldl (addC path) qu) = true) ∧ ∀ s ∈ l,hasC s.2 (l.foldl (addC path) qu) = true
  | [],qu=>⟨fun _ h=>h,fun s hs=>by cases hs⟩
  | s :: l,qu=>by
    have ih:=foldC_has path l (addC path qu s)
    have h1 : ∀ p,hasC p qu = true → hasC p (addC path qu s) = true:=fun p hp=>by
      unfold addC
      split
      · exact hp
      · rw [hasC_mem] at hp ⊢
        rw [List.map_append];exact List.mem_append_left _ hp
    have h2 : hasC s.2 (addC path qu s) = true:=by
      unfold addC
      split
      · rename_i h;exact h
      · rw [hasC_mem];simp
    refine ⟨fun p hp=>ih.1 p (h1 p hp),fun x hx=>?_⟩
    rcases List.mem_cons.1 hx with rfl | hx
    · exact ih.1 _ h2
    · exact ih.2 x hx
def inP (g h : List Nd) (p : Pc) : Prop:=(0 ≤ p.a ∧ p.a < (g.length : Int)) ∧ 0 ≤ p.b ∧ p.b < (h.length : Int)
theorem stuckF_none {g h : List Nd} (Hg : Gd g) (Hh : Gd h) : ∀ (f at' : Nat) (qu : Quc),(∀ q ∈ qu,inP g h q.1 ∧ ∀ n,cS g h n q.1) → stuckF g h f at' qu = none
  | 0,_,_,_=>rfl
  | f + 1,at',qu,hq=>by
    unfold stuckF
    cases hx : qu[at']? with
    | none=>rfl
    | some q =>
      obtain ⟨p,path⟩:=q
      obtain ⟨hr,hall⟩:=hq _ (List.mem_of_getElem? hx)
      obtain ⟨l,hl,hs⟩:=(meets_tree Hg Hh hr.1.1 hr.1.2 hr.2.1 hr.2.2).2 hall
      simp only at hl
      simp only [hl]
      exact stuckF_none Hg Hh f _ _ (foldC_all (Q:=fun p=>inP g h p ∧ ∀ n,cS g h n p) path l qu hq fun s hs2=>⟨(meets_ok Hg Hh p hr.1.1 hr.1.2 hr.2.1 hr.2.2 l hl).2 s hs2,hs s hs2⟩)
theorem stuckF_closed {g h : List Nd} (hok : MeetsOK g h) : ∀ (f at' : Nat) (qu : Quc),QC g.length h.length qu → at' ≤ qu.length → g.length * h.length + 1 ≤ at' + f →
    (∀ (i : Nat) (q : Pc × List ByteArray),i < at' → qu[i]? = some q → ∃ l,meetsP g h q.1 = some l ∧ ∀ s ∈ l,hasC s.2 qu = true) → stuckF g h f at' qu = none →
    ∃ qu' : Quc,QC g.length h.length qu' ∧ (∀ p,hasC p qu = true → hasC p qu' = true) ∧ ∀ p,hasC p qu' = true → ∃ l,meetsP g h p = some l ∧ ∀ s ∈ l,hasC s.2 qu' = true
  | 0,at',qu,hq,ha,hf,hc,hw=>by
    have:=hq.len
    omega
  | f + 1, at',qu,hq,ha,hf,hc,hw=>by
    unfold stuckF at hw
    cases hx : qu[at']? with
    | none =>
      have : qu.length ≤ at':=by simpa using hx
      refine ⟨qu,hq,fun _ h=>h,fun p hp=>?_⟩
      rw [hasC_mem] at hp
      obtain ⟨q,hq,rfl⟩:=List.mem_map.1 hp
      obtain ⟨i,hi,rfl⟩:=List.mem_iff_getElem.1 hq
      exact hc i _ (by omega) (List.getElem?_eq_getElem hi)
    | some q =>
      obtain ⟨p,path⟩:=q
      rw [hx] at hw
      simp only at hw
      have hlt:=(List.getElem?_eq_some_iff.1 hx).1
      have hp:=hq.p at' _ hx
      have hr:=hq.r _ (List.mem_of_getElem? hx)
      simp only at hr hp
      cases hF : meetsP g h p with
      | none=>rw [hF] at hw;cases hw
      | some l =>
        rw [hF] at hw
        simp only at hw
        have hl:=addsC_len path l qu
        have hh:=foldC_has path l qu
        obtain ⟨qu',h0,h1,h2⟩:=stuckF_closed hok f (at' + 1) (l.foldl (addC path) qu) (QC.adds hp hq hlt ((hok p hr.1.1 hr.1.2 hr.2.1 hr.2.2 l hF).2)) (by omega) (by omega) (fun i q hi hqi=>by
          rw [hl.2 i (by omega)] at hqi
          by_cases he : i = at'
          · subst he
            rw [hx] at hqi
            cases hqi
            exact ⟨l,hF,hh.2⟩
          · obtain ⟨l',e1,e2⟩:=hc i q (by omega) hqi
            exact ⟨l',e1,fun s hs=>hh.1 _ (e2 s hs)⟩) hw
        exact ⟨qu',h0,fun p hp=>h1 p (hh.1 p hp),h2⟩
theorem stuck_iff {g h : List Nd} (Hg : Gd g) (Hh : Gd h) : stuckP g h = none ↔ ∀ n,subT n (dT n (obs h n 0)) (obs g n 0):=by
  have g0:=Hg.pos
  have h0:=Hh.pos
  constructor
  · intro hw
    unfold stuckP at hw
    obtain ⟨qu,hqc,h1,h2⟩:=stuckF_closed (meets_ok Hg Hh) _ 0 [(⟨0,0⟩,[])] ⟨by simp,by simp;omega,fun i q h=>by
      cases i with
      | zero=>simp at h;subst h;simp
      | succ i=>simp at h⟩ (by simp) (by omega) (fun i q hi=>by omega) hw
    have : ∀ (n : Nat) (p : Pc),hasC p qu = true → cS g h n p:=fun n=>by
      induction n with
      | zero=>intro p _;exact trivial
      | succ n ih =>
        intro p hp
        obtain ⟨l,e1,e2⟩:=h2 p hp
        obtain ⟨q,hq,rfl⟩:=List.mem_map.1 (hasC_mem.1 hp)
        have hr:=hqc.r q hq
        exact (meets_tree Hg Hh hr.1.1 hr.1.2 hr.2.1 hr.2.2).1 n l e1 fun s hs=>ih _ (e2 s hs)
    intro n
    exact this n ⟨0,0⟩ (h1 _ (by rw [hasC_mem];simp))
  · intro hs
    unfold stuckP
    refine stuckF_none Hg Hh _ _ _ fun q hq=>?_
    rw [List.mem_singleton] at hq
    subst hq
    exact ⟨⟨⟨by decide,by simp only;omega⟩,by decide,by simp only;omega⟩,hs⟩
theorem do_iff {x y : Tp} (h : bErr x y = 0) : doP x y = true ↔ ∀ n,subT n (dT n (trT y n)) (trT x n):=by
  obtain ⟨hx,hy⟩:=bErr_zero h
  unfold doP
  rw [if_pos h,Option.isNone_iff_eq_none,stuck_iff (ofP_gd hx) (ofP_gd hy)]
  simp only [ofP_obs hx,ofP_obs hy]
end Go.Proofs.YtgecnlcbdbaneaaDoor
/- Both ends change places: plain. -/
namespace Go.Proofs.YtgecnlcbdbaneaaDoor
open Go.RowKit Go.Sw

def swC (p : Pc) : Pc:=⟨p.b,p.a⟩
theorem swC_inj {p q : Pc} (h : swC p = swC q) : p = q:=by
  obtain ⟨a,b⟩:=p
  obtain ⟨c,d⟩:=q
  simp only [swC,Pc.mk.injEq] at h
  rw [h.1,h.2]
def swS (s : ByteArray × Pc) : ByteArray × Pc:=(s.1,swC s.2)
theorem meets_sw (g h : List Nd) (p : Pc) : meetsP h g (swC p) = (meetsP g h p).map fun l=>l.map swS:=by
  have e1 : meetsP h g (swC p) = (if (gAt g p.a).k ≠ dKind (gAt h p.b).k then none else if (gAt h p.b).so ≠ (gAt g p.a).so then none
    else if (gAt h p.b).k = 2 ∨ (gAt h p.b).k = 3 then some [(dotS,⟨(gAt h p.b).to.getD 0 0,(gAt g p.a).to.getD 0 0⟩)]
    else if (gAt h p.b).k = 4 ∨ (gAt h p.b).k = 5 then (if carryB h g (gAt h p.b) (gAt g p.a) = true then some [(dotS,⟨(gAt h p.b).to.getD 1 0,(gAt g p.a).to.getD 1 0⟩)] else none)
    else if (gAt h p.b).k = 6 ∨ (gAt h p.b).k = 7 then (if (outL (gAt h p.b) (gAt g p.a)).all (fun l=>inL (inL2 (gAt h p.b) (gAt g p.a)) l) = true then some ((outL (gAt h p.b) (gAt g p.a)).map (lPc (gAt h p.b) (gAt g p.a))) else none)
    else some []):=rfl
  have e2 : meetsP g h p = (if (gAt h p.b).k ≠ dKind (gAt g p.a).k then none else if (gAt g p.a).so ≠ (gAt h p.b).so then none
    else if (gAt g p.a).k = 2 ∨ (gAt g p.a).k = 3 then some [(dotS,⟨(gAt g p.a).to.getD 0 0,(gAt h p.b).to.getD 0 0⟩)]
    else if (gAt g p.a).k = 4 ∨ (gAt g p.a).k = 5 then (if carryB g h (gAt g p.a) (gAt h p.b) = true then some [(dotS,⟨(gAt g p.a).to.getD 1 0,(gAt h p.b).to.getD 1 0⟩)] else none)
    else if (gAt g p.a).k = 6 ∨ (gAt g p.a).k = 7 then (if (outL (gAt g p.a) (gAt h p.b)).all (fun l=>inL (inL2 (gAt g p.a) (gAt h p.b)) l) = true then some ((outL (gAt g p.a) (gAt h p.b)).map (lPc (gAt g p.a) (gAt h p.b))) else none)
    else some []):=rfl
  rw [e1,e2]
  clear e1 e2
  generalize gAt g p.a = X
  generalize gAt h p.b = Y
  by_cases hk : Y.k = dKind X.k
  rotate_left
  · have : X.k ≠ dKind Y.k:=fun e=>hk (by rw [e,dKind_inv])
    rw [if_pos hk,if_pos this]
    rfl
  have hk' : X.k = dKind Y.k:=by rw [hk,dKind_inv]
  have n1 : ¬ (Y.k ≠ dKind X.k):=by simpa using hk
  have n2 : ¬ (X.k ≠ dKind Y.k):=by simpa using hk'
  rw [if_neg n1,if_neg n2]
  by_cases hs : X.so = Y.so
  rotate_left
  · rw [if_pos hs,if_pos (Ne.symm hs)]
    rfl
  have n3 : ¬ (X.so ≠ Y.so):=by simpa using hs
  have n4 : ¬ (Y.so ≠ X.so):=by simpa using hs.symm
  rw [if_neg n3,if_neg n4]
  by_cases h23 : X.k = 2 ∨ X.k = 3
  · have : Y.k = 2 ∨ Y.k = 3:=by
      rw [hk];rcases h23 with e | e <;> rw [e] <;> decide
    rw [if_pos h23,if_pos this]
    rfl
  have n23 : ¬ (Y.k = 2 ∨ Y.k = 3):=fun h=>h23 (by rw [hk'];rcases h with e | e <;> rw [e] <;> decide)
  rw [if_neg h23,if_neg n23]
  by_cases h45 : X.k = 4 ∨ X.k = 5
  · have h45' : Y.k = 4 ∨ Y.k = 5:=by
      rw [hk];rcases h45 with e | e <;> rw [e] <;> decide
    rw [if_pos h45,if_pos h45']
    have hc : carryB h g Y X = carryB g h X Y:=by
      unfold carryB
      rcases h45 with e | e
      · have : Y.k = 5:=by rw [hk,e];decide
        rw [if_pos this,if_neg (by omega)]
      · have : Y.k = 4:=by rw [hk,e];decide
        rw [if_neg (by omega),if_pos e]
    rw [hc]
    split <;> rfl
  have n45 : ¬ (Y.k = 4 ∨ Y.k = 5):=fun h=>h45 (by rw [hk'];rcases h with e | e <;> rw [e] <;> decide)
  rw [if_neg h45,if_neg n45]
  by_cases h67 : X.k = 6 ∨ X.k = 7
  · have h67' : Y.k = 6 ∨ Y.k = 7:=by
      rw [hk];rcases h67 with e | e <;> rw [e] <;> decide
    rw [if_pos h67,if_pos h67']
    have ho : outL Y X = outL X Y ∧ inL2 Y X = inL2 X Y:=by
      unfold outL inL2
      rcases h67 with e | e
      · have : Y.k = 7:=by rw [hk,e];decide
        have n7 : ¬ X.k = 7:=by omega
        rw [if_pos this,if_pos this,if_neg n7,if_neg n7]
        exact ⟨rfl,rfl⟩
      · have : Y.k = 6:=by rw [hk,e];decide
        have n7 : ¬ Y.k = 7:=by omega
        rw [if_neg n7,if_neg n7,if_pos e,if_pos e]
        exact ⟨rfl,rfl⟩
    rw [ho.1,ho.2]
    split
    · rw [Option.map_some,List.map_map]
      rfl
    · rfl
  have n67 : ¬ (Y.k = 6 ∨ Y.k = 7):=fun h=>h67 (by rw [hk'];rcases h with e | e <;> rw [e] <;> decide)
  rw [if_neg h67,if_neg n67]
  rfl
def swQ (q : Pc × List ByteArray) : Pc × List ByteArray:=(swC q.1,q.2)
theorem has_sw (p : Pc) (qu : Quc) : hasC (swC p) (qu.map swQ) = hasC p qu:=by
  unfold hasC
  rw [List.any_map]
  congr 1
  funext q
  simp only [Function.comp,swQ]
  by_cases h : p = q.1
  · rw [h];simp
  · have h2 : ¬ swC p = swC q.1:=fun e=>h (swC_inj e)
    simp only [h,h2,decide_false]
theorem adds_sw (path : List ByteArray) : ∀ (l : List (ByteArray × Pc)) (qu : Quc),(l.map swS).foldl (addC path) (qu.map swQ) = (l.foldl (addC path) qu).map swQ
  | [],_=>rfl
  | s :: l,qu=>by
    simp only [List.map_cons,List.foldl_cons]
    have : addC path (qu.map swQ) (swS s) = (addC path qu s).map swQ:=by
      unfold addC
      rw [show (swS s).2 = swC s.2 from rfl,has_sw]
      split
      · rfl
      · simp [swQ,swS]
    rw [this,adds_sw path l]
theorem stuckF_sw (g h : List Nd) : ∀ (f k : Nat) (qu : Quc),stuckF h g f k (qu.map swQ) = stuckF g h f k qu
  | 0,_,_=>rfl
  | f + 1,k,qu=>by
    unfold stuckF
    rw [List.getElem?_map]
    cases qu[k]? with
    | none=>rfl
    | some q =>
      obtain ⟨p,path⟩:=q
      simp only [Option.map_some,swQ,meets_sw]
      cases meetsP g h p with
      | none=>rfl
      | some l =>
        simp only [Option.map_some]
        rw [adds_sw,stuckF_sw g h f]
theorem stuck_sw (g h : List Nd) : stuckP h g = stuckP g h:=by
  unfold stuckP
  rw [Nat.mul_comm,show [((⟨0,0⟩ : Pc),([] : List ByteArray))] = [((⟨0,0⟩ : Pc),([] : List ByteArray))].map swQ from rfl]
  exact stuckF_sw g h _ _ _
abbrev Que:=List (Pc × Int)
def mE (qu : Que) : List (Value × Value):=qu.map fun q=>(cV q.1,.int .i64 q.2)
theorem mE_keys (qu : Que) : ∀ q ∈ mE qu, ∃ r,q.1 = cV r:=fun q hq=>by
  obtain ⟨r, -,rfl⟩:=List.mem_map.1 hq
  exact ⟨_,rfl⟩
def hasE (p : Pc) (qu : Que) : Bool:=qu.any fun q=>decide (p = q.1)
def addE (d : Int) (qu : Que) (s : ByteArray × Pc) : Que:=if hasE s.2 qu = true then qu else qu ++ [(s.2,d + 1)]
def nextP (g h : List Nd) (p : Pc) : List (ByteArray × Pc):=(meetsP g h p).getD []
def endsF (g h : List Nd) : Nat → Nat → Que → Option Int
  | 0,_,_=>none
  | f + 1,k,qu=>match qu[k]? with
    | none=>none
    | some (p,d)=>if (gAt g p.a).k = 1 then some (d - 1) else endsF g h f (k + 1) ((nextP g h p).foldl (addE d) qu)
def endsP (g h : List Nd) : Option Int:=endsF g h (g.length * h.length + 1) 0 [(⟨0,0⟩,1)]
theorem hasE_mem {p : Pc} {qu : Que} : hasE p qu = true ↔ p ∈ qu.map (·.1):=by
  unfold hasE
  rw [List.any_eq_true]
  simp only [decide_eq_true_eq,List.mem_map]
  exact ⟨fun ⟨q,h,e⟩=>⟨q,h,e.symm⟩,fun ⟨q,h,e⟩=>⟨q,h,e.symm⟩⟩
structure QE (n m : Nat) (qu : Que) : Prop where
  nd : (qu.map (·.1)).Nodup
  r : ∀ q ∈ qu,(0 ≤ q.1.a ∧ q.1.a < (n : Int)) ∧ 0 ≤ q.1.b ∧ q.1.b < (m : Int)
  p : ∀ (i : Nat) (q : Pc × Int),qu[i]? = some q → 1 ≤ q.2 ∧ q.2 ≤ (i : Int) + 1
theorem QE.add {n m : Nat} {qu : Que} (h : QE n m qu) {d : Int} {k : Nat} (hd : 1 ≤ d ∧ d ≤ (k : Int) + 1) (hk : k < qu.length) {s : ByteArray × Pc} (hs : (0 ≤ s.2.a ∧ s.2.a < (n : Int)) ∧ 0 ≤ s.2.b ∧ s.2.b < (m : Int)) : QE n m (addE d qu s):=by
  unfold addE
  split
  · exact h
  · rename_i hn
    refine ⟨?_,fun q hq=>?_,fun i q hq=>?_⟩
    · rw [List.map_append,List.nodup_append]
      refine ⟨h.nd,by simp,fun a ha b hb e=>?_⟩
      rw [show b = s.2 by simpa using hb] at e
      exact hn (hasE_mem.2 (e ▸ ha))
    · rcases List.mem_append.1 hq with hq | hq
      · exact h.r q hq
      · rw [show q = (s.2,d + 1) by simpa using hq];exact hs
    · by_cases hi : i < qu.length
      · rw [List.getElem?_append_left hi] at hq
        exact h.p i q hq
      · rw [List.getElem?_append_right (by omega)] at hq
        cases hj : i - qu.length with
        | zero =>
          rw [hj] at hq
          rw [show q = (s.2,d + 1) by simpa using hq.symm]
          simp only
          omega
        | succ j=>rw [hj] at hq;simp at hq
theorem addE_len (d : Int) (qu : Que) (s : ByteArray × Pc) : qu.length ≤ (addE d qu s).length ∧ ∀ j,j < qu.length → (addE d qu s)[j]? = qu[j]? := by
  unfold addE
  split
  · exact ⟨Nat.le_refl _,fun _ _=>rfl⟩
  · exact ⟨by simp,fun j hj=>List.getElem?_append_left hj⟩
theorem addsE_len (d : Int) : ∀ (l : List (ByteArray × Pc)) (qu : Que),qu.length ≤ (l.foldl (addE d) qu).length ∧ ∀ j,j < qu.length → (l.foldl (addE d) qu)[j]? = qu[j]?
  | [],qu=>⟨Nat.le_refl _,fun _ _=>rfl⟩
  | s :: l,qu=>by
    have h1:=addE_len d qu s
    have h2:=addsE_len d l (addE d qu s)
    refine ⟨by simp only [List.foldl_cons];omega,fun j hj=>?_⟩
    simp only [List.foldl_cons]
    rw [h2.2 j (by omega),h1.2 j hj]
theorem QE.adds {n m : Nat} {d : Int} {k : Nat} (hd : 1 ≤ d ∧ d ≤ (k : Int) + 1) : ∀ {l : List (ByteArray × Pc)} {qu : Que},QE n m qu → k < qu.length → (∀ s ∈ l,(0 ≤ s.2.a ∧ s.2.a < (n : Int)) ∧ 0 ≤ s.2.b ∧ s.2.b < (m : Int)) → QE n m (l.foldl (addE d) qu)
  | [],_,h,_,_=>h
  | s :: l,qu,h,hk,hs=>by
    have h1 : QE n m (addE d qu s):=h.add hd hk (hs s (by simp))
    have h2 : k < (addE d qu s).length:=by have:=(addE_len d qu s).1;omega
    have h3:=QE.adds (l:=l) (qu:=addE d qu s) hd h1 h2 fun t ht=>hs t (by simp [ht])
    exact h3
theorem QE.len {n m : Nat} {qu : Que} (h : QE n m qu) : qu.length ≤ n * m:=by
  have hq : QC n m (qu.map fun q=>(q.1,[])):=⟨by rw [List.map_map];exact h.nd,fun q hq=>by
    obtain ⟨r,hr,rfl⟩:=List.mem_map.1 hq
    exact h.r r hr,fun i q hq=>by
    rw [List.getElem?_map] at hq
    cases hx : qu[i]? with
    | none=>rw [hx] at hq;cases hq
    | some r=>rw [hx] at hq;cases hq;simp⟩
  have:=hq.len
  simpa using this
def swE (q : Pc × Int) : Pc × Int:=(swC q.1,q.2)
theorem hasE_sw (p : Pc) (qu : Que) : hasE (swC p) (qu.map swE) = hasE p qu:=by
  unfold hasE
  rw [List.any_map]
  congr 1
  funext q
  simp only [Function.comp,swE]
  by_cases h : p = q.1
  · rw [h];simp
  · have h2 : ¬ swC p = swC q.1:=fun e=>h (swC_inj e)
    simp only [h,h2,decide_false]
theorem addsE_sw (d : Int) : ∀ (l : List (ByteArray × Pc)) (qu : Que),(l.map swS).foldl (addE d) (qu.map swE) = (l.foldl (addE d) qu).map swE
  | [],_=>rfl
  | s :: l,qu=>by
    simp only [List.map_cons,List.foldl_cons]
    have : addE d (qu.map swE) (swS s) = (addE d qu s).map swE:=by
      unfold addE
      rw [show (swS s).2 = swC s.2 from rfl,hasE_sw]
      split
      · rfl
      · simp [swE,swS]
    rw [this,addsE_sw d l]
theorem next_sw (g h : List Nd) (p : Pc) : nextP h g (swC p) = (nextP g h p).map swS:=by
  unfold nextP
  rw [meets_sw]
  cases meetsP g h p <;> rfl
theorem foldE_all {Q : Pc → Prop} (d : Int) : ∀ (l : List (ByteArray × Pc)) (qu : Que),(∀ q ∈ qu,Q q.1) → (∀ s ∈ l,Q s.2) → ∀ q ∈ l.foldl (addE d) qu,Q q.1
  | [],qu,h,_,q,hq=>h q hq
  | s :: l,qu,h,hs,q,hq=>by
    simp only [List.foldl_cons] at hq
    refine foldE_all d l (addE d qu s) (fun r hr=>?_) (fun t ht=>hs t (by simp [ht])) q hq
    unfold addE at hr
    split at hr
    · exact h r hr
    · rcases List.mem_append.1 hr with hr | hr
      · exact h r hr
      · rw [show r = (s.2,d + 1) by simpa using hr]
        exact hs s (by simp)
theorem endsF_sw {g h : List Nd} (Hg : Gd g) (Hh : Gd h) : ∀ (f k : Nat) (qu : Que),(∀ q ∈ qu,inP g h q.1 ∧ ∀ n,cS g h n q.1) → endsF h g f k (qu.map swE) = endsF g h f k qu
  | 0,_,_,_=>rfl
  | f + 1,k,qu,hq=>by
    unfold endsF
    rw [List.getElem?_map]
    cases hx : qu[k]? with
    | none=>rfl
    | some q =>
      obtain ⟨p,d⟩:=q
      obtain ⟨hr,hall⟩:=hq _ (List.mem_of_getElem? hx)
      obtain ⟨l,hl,hs⟩:=(meets_tree Hg Hh hr.1.1 hr.1.2 hr.2.1 hr.2.2).2 hall
      simp only at hl hr
      have hk : (gAt h p.b).k = dKind (gAt g p.a).k:=by
        unfold meetsP at hl
        by_cases e : (gAt h p.b).k = dKind (gAt g p.a).k
        · exact e
        · rw [if_pos e] at hl;cases hl
      have hn : nextP g h p = l:=by unfold nextP;rw [hl];rfl
      simp only [Option.map_some,swE]
      rw [show (swC p).a = p.b from rfl,next_sw,addsE_sw,hn]
      by_cases h1 : (gAt g p.a).k = 1
      · rw [if_pos h1,if_pos (by rw [hk,h1];decide)]
      · have : (gAt h p.b).k ≠ 1:=fun e=>h1 (by have:=dKind_inv (gAt g p.a).k;rw [← hk,e] at this;rw [← this];decide)
        rw [if_neg h1,if_neg this]
        exact endsF_sw Hg Hh f _ _ (foldE_all (Q:=fun p=>inP g h p ∧ ∀ n,cS g h n p) d l qu hq fun s hs2=>⟨(meets_ok Hg Hh p hr.1.1 hr.1.2 hr.2.1 hr.2.2 l hl).2 s hs2,hs s hs2⟩)
theorem ends_sw {g h : List Nd} (Hg : Gd g) (Hh : Gd h) (hs : stuckP g h = none) : endsP h g = endsP g h:=by
  unfold endsP
  rw [Nat.mul_comm,show [((⟨0,0⟩ : Pc),(1 : Int))] = [((⟨0,0⟩ : Pc),(1 : Int))].map swE from rfl]
  refine endsF_sw Hg Hh _ _ _ fun q hq=>?_
  obtain rfl : q = (⟨0,0⟩,1):=by simpa using hq
  have:=Hg.pos
  have:=Hh.pos
  exact ⟨⟨⟨by decide,by simp only;omega⟩,by decide,by simp only;omega⟩,(stuck_iff Hg Hh).1 hs⟩
theorem bErr_sw {x y : Tp} : bErr x y = 0 ↔ bErr y x = 0:=⟨fun h=>bErr_of (bErr_zero h).2 (bErr_zero h).1,fun h=>bErr_of (bErr_zero h).2 (bErr_zero h).1⟩
theorem do_sw (x y : Tp) : doP y x = doP x y:=by
  unfold doP
  by_cases h : bErr x y = 0
  · rw [if_pos h,if_pos (bErr_sw.1 h),stuck_sw]
  · rw [if_neg h,if_neg (fun e=>h (bErr_sw.1 e))]
end Go.Proofs.YtgecnlcbdbaneaaDoor
