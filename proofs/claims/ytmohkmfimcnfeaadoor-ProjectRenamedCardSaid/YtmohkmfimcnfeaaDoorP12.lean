/- What a role does hangs on no names; one that has no part does nothing: plain. -/
-- TYPESA
import Derived.Test.YtmohkmfimcnfeaaDoorP11
set_option linter.unusedVariables false
set_option linter.unusedSimpArgs false
namespace Go.Proofs.YtmohkmfimcnfeaaDoor
open Go.RowKit Go.Sw

mutual
def renL (σ : ByteArray → ByteArray) : Lt → Lt
 | .mk k wi so nm ls l=>.mk k (σ wi) so nm ls (renLs σ l)
def renLs (σ : ByteArray → ByteArray) : List Lt → List Lt
 | []=>[]
 | x :: l=>renL σ x :: renLs σ l
end
theorem renLs_map (σ : ByteArray → ByteArray) : ∀ l,renLs σ l = l.map (renL σ)
 | []=>rfl
 | x :: l=>by simp [renLs,renLs_map σ l]
structure Sg (σ : ByteArray → ByteArray) : Prop where
 two : ∀ s, σ (σ s) = s
 emp : σ noB = noB
 role : ∀ s,isRoleB (σ s) = isRoleB s
mutual
theorem renG_two {σ : ByteArray → ByteArray} (h : Sg σ) : ∀ x : Gt,ren σ (ren σ x) = x
 | .mk k fr to so nm ls l=>by simp only [ren,h.two,rensG_two h l]
theorem rensG_two {σ : ByteArray → ByteArray} (h : Sg σ) : ∀ l : List Gt,rens σ (rens σ l) = l
 | []=>rfl
 | x :: l=>by simp only [rens,renG_two h x,rensG_two h l]
end
theorem sg_inj {σ : ByteArray → ByteArray} (h : Sg σ) {a b : ByteArray} (e : σ a = σ b) : a = b:=by
 rw [← h.two a, ← h.two b,e]
theorem sg_eq {σ : ByteArray → ByteArray} (h : Sg σ) (a b : ByteArray) : (σ a).toList = (σ b).toList ↔ a.toList = b.toList :=
 ⟨fun e=>by rw [sg_inj h (toList_inj e)],fun e=>by rw [toList_inj e]⟩
theorem renL_ok {σ : ByteArray → ByteArray} (h : Sg σ) {x : Lt} (hx : OkL x) : OkL (renL σ x):=by
 induction hx with
 | nil=>simp only [renL,renLs,h.emp];exact .nil
 | pass k so wi x hk hw h1 h3 hx ih=>simp only [renL,renLs];exact .pass k so _ _ hk (by rw [h.role];exact hw) h1 h3 ih
 | pick k wi ls l hk hw hl hn hx ih =>
  simp only [renL]
  refine .pick k _ ls _ hk (by rw [h.role];exact hw) hl (by rw [renLs_map,List.length_map];exact hn) fun y hy=>?_
  rw [renLs_map] at hy
  obtain ⟨z,hz,rfl⟩:=List.mem_map.1 hy
  exact ih z hz
 | bind nm x hn hx ih=>simp only [renL,renLs,h.emp];exact .bind nm _ hn ih
 | var nm hn=>simp only [renL,renLs,h.emp];exact .var nm hn
theorem getL_ren (σ : ByteArray → ByteArray) (s : ByteArray) : ∀ (ls : List ByteArray) (l : List Lt),getL ls (renLs σ l) s = (getL ls l s).map (renL σ)
 | [],l=>by cases l <;> rfl
 | a :: ls,[]=>rfl
 | a :: ls,x :: l=>by
  simp only [renLs]
  rw [getL,getL]
  by_cases e : s.toList = a.toList
  · rw [if_pos e,if_pos e];rfl
  · rw [if_neg e,if_neg e];exact getL_ren σ s ls l
theorem ms_ren {σ : ByteArray → ByteArray} (h : Sg σ) : ∀ (n : Nat) (a b r : Lt),OkL a → OkL b → ms n a b = some r → ms n (renL σ a) (renL σ b) = some (renL σ r)
 | 0,_,_,_,_,_,he=>by cases he
 | n + 1, a,b,r,ha,hb,he=>by
  refine mg_mo1 (renL_ok h ha) ?_
  cases (mo1_iff ha hb).1 he with
  | nil=>simp only [renL,renLs,h.emp];exact .nil
  | pass k so wi x y z hk h'=>simp only [renL,renLs];exact .pass k so _ _ _ _ hk (ms_ren h n x y z (okL_one ha) (okL_one hb) h')
  | pick k wi ls l ls' l' r hk h6 hr hl =>
   have h1:=okL_pick ha hk
   have h2:=okL_pick hb hk
   obtain ⟨q1,q2⟩:=allO_some.1 hr
   simp only [renL]
   refine .pick k _ ls _ ls' _ _ hk h6 (allO_some.2 ⟨by rw [renLs_map,List.length_map];exact q1,fun j s x hs hx=>?_⟩) hl
   rw [renLs_map,List.getElem?_map] at hx
   obtain ⟨y,hy,rfl⟩:=Option.map_eq_some_iff.1 hx
   have:=q2 j s y hs hy
   simp only [getL_ren] at this ⊢
   cases hA : getL ls l s with
   | none =>
    rw [hA] at this
    simp only [omM,Option.map_none] at this ⊢
    rw [this];rfl
   | some u=>cases hB : getL ls' l' s with
    | none =>
     rw [hA,hB] at this
     simp only [omM,Option.map_none,Option.map_some] at this ⊢
     cases this
     rfl
    | some v =>
     rw [hA,hB] at this
     exact ms_ren h n u v y (h1.2.2.2 u (getL_mem hA)) (h2.2.2.2 v (getL_mem hB)) this
  | bind nm x y z h'=>simp only [renL,renLs,h.emp];exact .bind nm _ _ _ (ms_ren h n x y z (okL_one ha) (okL_one hb) h')
  | var nm=>simp only [renL,renLs,h.emp];exact .var nm
theorem kd_ren (σ : ByteArray → ByteArray) (x : Lt) : (renL σ x).kd = x.kd:=by
 obtain ⟨k,wi,so,nm,ls,l⟩:=x
 simp only [renL,Lt.kd]
theorem nm_ren (σ : ByteArray → ByteArray) (x : Lt) : (renL σ x).nm = x.nm:=by
 obtain ⟨k,wi,so,nm,ls,l⟩:=x
 simp only [renL,Lt.nm]
theorem innL_ren (σ : ByteArray → ByteArray) : ∀ (n : Nat) (x : Lt),x.size ≤ n → innL (renL σ x) = renL σ (innL x)
 | 0,x,h=>by have:=x.size_pos;omega
 | n + 1,.mk k wi so nm ls l,h=>by
  rw [renL,innL,innL]
  by_cases h8 : k = 8
  · rw [if_pos h8,if_pos h8]
    cases l with
    | nil=>simp only [renLs,innLs,renL]
    | cons x l =>
     simp only [renLs,innLs]
     exact innL_ren σ n x (by simp only [Lt.size,Lt.sizes] at h;omega)
  · rw [if_neg h8,if_neg h8,renL]
theorem recL_ren {σ : ByteArray → ByteArray} (h : Sg σ) (nm : ByteArray) (x : Lt) : recL nm (renL σ x) = renL σ (recL nm x):=by
 unfold recL
 rw [kd_ren,innL_ren σ _ x (Nat.le_refl _),kd_ren,nm_ren]
 by_cases h1 : x.kd = 1
 · rw [if_pos h1,if_pos h1]
 rw [if_neg h1,if_neg h1]
 by_cases h2 : (innL x).kd = 9
 · rw [if_pos h2,if_pos h2]
   by_cases h3 : (innL x).nm.toList = nm.toList
   · rw [if_pos h3,if_pos h3];simp only [endL,renL,renLs,h.emp]
   · rw [if_neg h3,if_neg h3]
 · rw [if_neg h2,if_neg h2];simp only [renL,renLs,h.emp]
theorem fold1_ren {σ : ByteArray → ByteArray} (h : Sg σ) : ∀ (l : List Lt) (x z : Lt),OkL x → (∀ y ∈ l,OkL y) → fold1 x l = some z → fold1 (renL σ x) (renLs σ l) = some (renL σ z)
 | [],x,z,_,_,he=>by
  unfold fold1 at he
  cases he
  rfl
 | y :: l,x,z,hx,hl,he=>by
  unfold fold1 at he
  cases hm : ms 60 x y with
  | none=>rw [hm] at he;cases he
  | some w =>
   rw [hm] at he
   have hy:=hl y (by simp)
   simp only [renLs]
   unfold fold1
   rw [ms_ren h 60 x y w hx hy hm]
   exact fold1_ren h l w z (ms_ok 60 x y w hx hy hm).1 (fun y hy=>hl y (by simp [hy])) he
theorem foldL_ren {σ : ByteArray → ByteArray} (h : Sg σ) {l : List Lt} {z : Lt} (hl : ∀ y ∈ l,OkL y) (he : foldL l = some z) : foldL (renLs σ l) = some (renL σ z):=by
 cases l with
 | nil=>cases he
 | cons x l=>exact fold1_ren h l x z (hl x (by simp)) (fun y hy=>hl y (by simp [hy])) he
theorem comL_ren {σ : ByteArray → ByteArray} (h : Sg σ) {r : ByteArray} {k : Int} {fr to : ByteArray} {so : Int} {ls : List ByteArray} {xs : List Lt} {z : Lt} (hl : ∀ y ∈ xs,OkL y) (he : comL r k fr to so ls xs = some z) :
 comL (σ r) k (σ fr) (σ to) so ls (renLs σ xs) = some (renL σ z):=by
 unfold comL at he ⊢
 simp only [sg_eq h]
 split at he
 · rename_i h1
   rw [if_pos h1]
   cases he
   split <;> rfl
 · rename_i h1
   rw [if_neg h1]
   exact foldL_ren h hl he
theorem ofPs_ren {σ : ByteArray → ByteArray} {r : ByteArray} : ∀ (l : List Gt) (xs : List Lt),(∀ y ∈ l, ∀ x,ofP r y = some x → ofP (σ r) (ren σ y) = some (renL σ x)) → ofPs r l = some xs → ofPs (σ r) (rens σ l) = some (renLs σ xs)
 | [],xs,_,h=>by
  unfold ofPs at h
  cases h
  rfl
 | y :: l,xs,hh,h=>by
  unfold ofPs at h
  cases hx : ofP r y with
  | none=>rw [hx] at h;cases h
  | some z =>
   rw [hx] at h
   cases hl : ofPs r l with
   | none=>rw [hl] at h;cases h
   | some zs =>
    rw [hl] at h
    cases h
    simp only [rens,renLs]
    unfold ofPs
    rw [hh y (by simp) z hx,ofPs_ren l zs (fun y hy=>hh y (by simp [hy])) hl]
theorem ofPs_ok {r : ByteArray} {l : List Gt} {xs : List Lt} (h : ∀ y ∈ l,OkG y) (hs : ofPs r l = some xs) : ∀ x ∈ xs,OkL x:=fun x hx=>by
 obtain ⟨h1,h2⟩:=ofPs_some hs
 obtain ⟨j,hj,rfl⟩:=List.getElem_of_mem hx
 exact (ofP_ok (h _ (List.getElem_mem (l:=l) (n:=j) (by omega))) _ (h2 j _ _ (List.getElem?_eq_getElem (by omega)) (List.getElem?_eq_getElem hj))).1
theorem ofP_ren {σ : ByteArray → ByteArray} (h : Sg σ) {r : ByteArray} {g : Gt} (hg : OkG g) : ∀ x,ofP r g = some x → ofP (σ r) (ren σ g) = some (renL σ x):=by
 induction hg with
 | nil =>
  intro x he
  simp only [ren]
  rw [ofP_eq,if_pos rfl] at he ⊢
  cases he
  simp only [endL,renL,renLs,h.emp]
 | send fr to so x hr h1 h3 hx ih =>
  intro z he
  simp only [ren]
  rw [ofP_eq,if_neg (by decide),if_neg (by decide),if_neg (by decide)] at he ⊢
  cases hs : ofPs r [x] with
  | none=>rw [hs] at he;cases he
  | some xs =>
   rw [hs] at he
   rw [ofPs_ren [x] xs (fun y hy=>by rw [show y = x by simpa using hy];exact ih) hs]
   exact comL_ren h (ofPs_ok (fun y hy=>by rw [show y = x by simpa using hy];exact hx) hs) he
 | pick fr to ls l hr hl hn hx ih =>
  intro z he
  simp only [ren]
  rw [ofP_eq,if_neg (by decide),if_neg (by decide),if_neg (by decide)] at he ⊢
  cases hs : ofPs r l with
  | none=>rw [hs] at he;cases he
  | some xs =>
   rw [hs] at he
   rw [ofPs_ren l xs ih hs]
   exact comL_ren h (ofPs_ok hx hs) he
 | bind nm x hn hx ih =>
  intro z he
  simp only [ren,rens]
  rw [ofP_eq,if_neg (by decide),if_neg (by decide),if_pos rfl] at he ⊢
  simp only [ofPF] at he ⊢
  cases hs : ofP r x with
  | none=>rw [hs] at he;cases he
  | some y =>
   rw [hs] at he
   cases he
   rw [ih y hs]
   simp only [recL_ren h]
 | var nm hn =>
  intro z he
  simp only [ren]
  rw [ofP_eq,if_neg (by decide),if_pos rfl] at he ⊢
  cases he
  simp only [varL,renL,renLs,h.emp]

theorem rolesB_ren {σ : ByteArray → ByteArray} (h : Sg σ) (b : Bool) (fr to : ByteArray) : rolesB b (σ fr) (σ to) = rolesB b fr to:=by
 have he : ∀ s,emptyB (σ s) = emptyB s:=fun s=>by
  have e1 : emptyB s = decide (s = noB):=by
   by_cases e : s = noB
   · rw [e,empty_rfl];rfl
   · rw [decide_eq_false e]
     cases q : emptyB s with
     | false=>rfl
     | true=>exact absurd (empty_of q) e
  have e2 : emptyB (σ s) = decide (σ s = noB):=by
   by_cases e : σ s = noB
   · rw [e,empty_rfl];rfl
   · rw [decide_eq_false e]
     cases q : emptyB (σ s) with
     | false=>rfl
     | true=>exact absurd (empty_of q) e
  rw [e1,e2,decide_eq_decide]
  constructor
  · intro e;rw [← h.two s,e,h.emp]
  · intro e;rw [e,h.emp]
 have hq : ((σ fr).toList == (σ to).toList) = (fr.toList == to.toList):=by
  rw [Bool.eq_iff_iff,beq_iff_eq,beq_iff_eq];exact sg_eq h fr to
 unfold rolesB
 rw [h.role,h.role,he,he,hq]
theorem shapedG_ren {σ : ByteArray → ByteArray} (h : Sg σ) (k : Int) (fr to : ByteArray) (so : Int) (nm : ByteArray) (ls : List ByteArray) (l : List Gt) : shapedG (.mk k (σ fr) (σ to) so nm ls (rens σ l)) = shapedG (.mk k fr to so nm ls l):=by
 unfold shapedG shapeG
 simp only [rolesB_ren h,rens_map,List.length_map]
mutual
theorem strip_ren (σ : ByteArray → ByteArray) : ∀ x : Gt,stripGK (ren σ x) = stripGK x
 | .mk k fr to so nm ls l=>by
  rw [ren,stripGK,stripGK,stripL_ren σ l k]
theorem stripL_ren (σ : ByteArray → ByteArray) : ∀ (l : List Gt) (k : Int),stripGL (rens σ l) k = stripGL l k
 | [],k=>rfl
 | [x],k=>by simp only [rens,stripGL,strip_ren σ x]
 | x :: y :: l,k=>by simp only [rens,stripGL]
end
mutual
theorem gchk_ren {σ : ByteArray → ByteArray} (h : Sg σ) : ∀ (x : Gt) (b : List ByteArray) (left : Int),gchk (ren σ x) b left = gchk x b left
 | .mk k fr to so nm ls l,b,left=>by
  have e1 : stripGF (rens σ l) = stripGF l:=by
   cases l with
   | nil=>rfl
   | cons x l=>exact strip_ren σ x
  rw [ren,gchk,gchk,shapedG_ren h,gchks_ren h l,gchks_ren h l,e1]
theorem gchks_ren {σ : ByteArray → ByteArray} (h : Sg σ) : ∀ (l : List Gt) (b : List ByteArray) (left : Int),gchks (rens σ l) b left = gchks l b left
 | [],b,left=>rfl
 | x :: l,b,left=>by
  rw [rens,gchks,gchks,gchk_ren h x,gchks_ren h l]
end
theorem gCheck_ren {σ : ByteArray → ByteArray} (h : Sg σ) (x : Gt) : gCheck (ren σ x) = gCheck x:=by unfold gCheck;rw [gchk_ren h]
theorem ofP_ren_none {σ : ByteArray → ByteArray} (h : Sg σ) {r : ByteArray} {g : Gt} (hg : OkG g) (hg2 : OkG (ren σ g)) (he : ofP r g = none) : ofP (σ r) (ren σ g) = none:=by
 cases hx : ofP (σ r) (ren σ g) with
 | none=>rfl
 | some x =>
  have:=ofP_ren h hg2 x hx
  rw [h.two,renG_two h,he] at this
  cases this
end Go.Proofs.YtmohkmfimcnfeaaDoor
