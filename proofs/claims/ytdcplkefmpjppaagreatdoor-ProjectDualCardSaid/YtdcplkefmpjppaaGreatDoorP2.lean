/- Merging is the same both ways, of one with itself it is that, and of three whichever two come first: plain. -/
import Derived.Test.YtdcplkefmpjppaaGreatDoorP1
set_option linter.unusedVariables false
set_option linter.unusedSimpArgs false
namespace Go.Proofs.YtdcplkefmpjppaaGreatDoor.GG
open Go.RowKit Go.Sw

theorem uni_self {a : List ByteArray} (h : a.Pairwise ltB) : uniL a a = a:=sort_ext (uni_sort _ _) h (fun x hx=>by simpa [uni_mem] using hx) (fun x hx=>by simpa [uni_mem] using hx)
theorem uni_nodup (a b : List ByteArray) : (uniL a b).Nodup:=sort_nodup (uni_sort a b)
theorem labels_uni {a b : List ByteArray} (ha : labelsB a = true) (hb : labelsB b = true) (h : (uniL a b).length ≤ 6) : labelsB (uniL a b) = true:=by
 refine labels_of ?_ h (fun x hx=>?_) (uni_sort a b)
 · have:=labels_pos ha
   obtain ⟨x,hx⟩ : ∃ x,x ∈ a:=⟨a[0],by simp⟩
   exact List.length_pos_of_mem (uni_mem.2 (.inl hx))
 · rcases uni_mem.1 hx with h | h
   · exact labels_names ha x h
   · exact labels_names hb x h

inductive Mg (m : Lt → Lt → Option Lt) : Lt → Lt → Lt → Prop
 | nil : Mg m (.mk 1 noB 0 noB [] []) (.mk 1 noB 0 noB [] []) (.mk 1 noB 0 noB [] [])
 | pass (k so : Int) (wi : ByteArray) (x y z : Lt) (hk : k = 2 ∨ k = 3) (h : m x y = some z) : Mg m (.mk k wi so noB [] [x]) (.mk k wi so noB [] [y]) (.mk k wi so noB [] [z])
 | pick (k : Int) (wi : ByteArray) (ls : List ByteArray) (l : List Lt) (ls' : List ByteArray) (l' r : List Lt) (hk : k = 6 ∨ k = 7) (h6 : k = 6 → ls = ls') (hr : allO (fun s=>omM m (getL ls l s) (getL ls' l' s)) (uniL ls ls') = some r) (hl : (uniL ls ls').length ≤ 6) : Mg m (.mk k wi 0 noB ls l) (.mk k wi 0 noB ls' l') (.mk k wi 0 noB (uniL ls ls') r)
 | bind (nm : ByteArray) (x y z : Lt) (h : m x y = some z) : Mg m (.mk 8 noB 0 nm [] [x]) (.mk 8 noB 0 nm [] [y]) (.mk 8 noB 0 nm [] [z])
 | var (nm : ByteArray) : Mg m (.mk 9 noB 0 nm [] []) (.mk 9 noB 0 nm [] []) (.mk 9 noB 0 nm [] [])
theorem labels_ne {ls : List ByteArray} (h : labelsB ls = true) : ls ≠ []:=fun e=>by
 have:=labels_pos h
 rw [e] at this
 simp at this
theorem mg_mo1 {m : Lt → Lt → Option Lt} {a b r : Lt} (ha : OkL a) (h : Mg m a b r) : mo1 m a b = some r:=by
 cases h with
 | nil=>simp [mo1,zipO]
 | pass k so wi x y z hk h =>
  rw [mo1_eq]
  rw [if_pos ⟨rfl,rfl,rfl,rfl,fun e=>by omega⟩,if_pos rfl]
  simp [zipO,h]
 | pick k wi ls l ls' l' r hk h6 hr hl =>
  have hne : ls ≠ []:=by
   cases ha with
   | nil=>omega
   | pass _ _ _ _ hk'=>omega
   | pick _ _ _ _ _ _ hl'=>exact labels_ne hl'
   | bind=>omega
   | var=>omega
  rw [mo1_eq]
  rw [if_pos ⟨rfl,rfl,rfl,rfl,fun e=>eqS_iff.2 (h6 e)⟩,if_neg hne,hr]
  simp [hl]
 | bind nm x y z h =>
  rw [mo1_eq]
  rw [if_pos ⟨rfl,rfl,rfl,rfl,fun e=>by omega⟩,if_pos rfl]
  simp [zipO,h]
 | var nm=>simp [mo1,zipO]
theorem zip_one {m : Lt → Lt → Option Lt} {x y : Lt} {r : List Lt} (h : zipO m [x] [y] = some r) : ∃ z,m x y = some z ∧ r = [z]:=by
 unfold zipO at h
 cases e : m x y with
 | none=>rw [e] at h;cases h
 | some z =>
  rw [e] at h
  simp only [zipO] at h
  cases h
  exact ⟨z,rfl,rfl⟩
theorem mo1_mg {m : Lt → Lt → Option Lt} {a b r : Lt} (ha : OkL a) (hb : OkL b) (h : mo1 m a b = some r) : Mg m a b r:=by
 obtain ⟨k,wi,so,nm,ls,l⟩:=a
 obtain ⟨k',wi',so',nm',ls',l'⟩:=b
 rw [mo1_eq] at h
 split at h
 rotate_left
 · cases h
 rename_i hh
 obtain ⟨rfl,e1,rfl,e2,h6⟩:=hh
 obtain rfl:=toList_inj e1
 obtain rfl:=toList_inj e2
 split at h
 · rename_i hls
   subst hls
   cases hz : zipO m l l' with
   | none=>rw [hz] at h;cases h
   | some q =>
    rw [hz] at h
    cases h
    cases ha with
    | nil =>
     cases hb with
     | nil =>
      simp only [zipO] at hz
      cases hz
      exact .nil
     | pass _ _ _ _ hk=>omega
     | pick _ _ _ _ hk=>omega
    | pass _ _ _ x hk hw h1 h3 hx =>
     cases hb with
     | nil=>omega
     | pass _ _ _ y _ _ _ _ hy =>
      obtain ⟨z,hz2,rfl⟩:=zip_one hz
      exact .pass _ _ _ x y z hk hz2
     | pick _ _ _ _ hk'=>omega
     | bind=>omega
     | var=>omega
    | pick _ _ _ _ _ _ hl=>exact absurd rfl (labels_ne hl)
    | bind _ x _ hx =>
     cases hb with
     | pass _ _ _ _ hk=>omega
     | pick _ _ _ _ hk=>omega
     | bind _ y _ hy =>
      obtain ⟨z,hz2,rfl⟩:=zip_one hz
      exact .bind _ x y z hz2
    | var _ hn =>
     cases hb with
     | pass _ _ _ _ hk=>omega
     | pick _ _ _ _ hk=>omega
     | var =>
      simp only [zipO] at hz
      cases hz
      exact .var _
 · rename_i hls
   cases hz : allO (fun s=>omM m (getL ls l s) (getL ls' l' s)) (uniL ls ls') with
   | none=>rw [hz] at h;cases h
   | some q =>
    rw [hz] at h
    simp only at h
    split at h
    rotate_left
    · cases h
    rename_i hlen
    cases h
    cases ha with
    | nil=>exact absurd rfl hls
    | pass=>exact absurd rfl hls
    | bind=>exact absurd rfl hls
    | var=>exact absurd rfl hls
    | pick _ _ _ _ hk hw hl hn hx =>
     exact .pick _ _ ls l ls' l' q hk (fun e=>eqS_iff.1 (h6 e)) hz hlen
theorem mo1_iff {m : Lt → Lt → Option Lt} {a b r : Lt} (ha : OkL a) (hb : OkL b) : mo1 m a b = some r ↔ Mg m a b r:=⟨mo1_mg ha hb,mg_mo1 ha⟩

theorem okL_pick {k so : Int} {wi nm : ByteArray} {ls : List ByteArray} {l : List Lt} (h : OkL (.mk k wi so nm ls l)) (hk : k = 6 ∨ k = 7) : isRoleB wi = true ∧ labelsB ls = true ∧ l.length = ls.length ∧ ∀ x ∈ l,OkL x:=by
 cases h with
 | nil=>omega
 | pass _ _ _ _ hk'=>omega
 | pick _ _ _ _ _ hw hl hn hx=>exact ⟨hw,hl,hn,hx⟩
 | bind=>omega
 | var=>omega
theorem okL_one {k so : Int} {wi nm : ByteArray} {x : Lt} (h : OkL (.mk k wi so nm [] [x])) : OkL x:=(okL_kids h).2.2 x (by simp)
theorem omM_congr {m m' : Lt → Lt → Option Lt} {A B : Option Lt} (h : ∀ x y,A = some x → B = some y → m x y = m' x y) : omM m A B = omM m' A B:=by
 cases A with
 | none=>rfl
 | some x=>cases B with
  | none=>rfl
  | some y=>exact h x y rfl rfl
theorem getL_mem {ls : List ByteArray} {l : List Lt} {s : ByteArray} {x : Lt} (h : getL ls l s = some x) : x ∈ l:=by
 obtain ⟨j, -,h2, -⟩:=getL_some h
 exact List.mem_of_getElem? h2

theorem take_not {l : List ByteArray} {j : Nat} {s : ByteArray} (h : l.Nodup) (hj : l[j]? = some s) : s ∉ l.take j:=by
 have e : l = l.take j ++ s :: l.drop (j + 1):=by
  obtain ⟨h1,h2⟩:=List.getElem?_eq_some_iff.1 hj
  rw [← h2, ← List.drop_eq_getElem_cons h1,List.take_append_drop]
 rw [e,List.nodup_append] at h
 intro hm
 exact h.2.2 s hm s (by simp) rfl
theorem ms_self : ∀ (n : Nat) (a : Lt),OkL a → a.size ≤ n → ms n a a = some a
 | 0,a,_,h=>by have:=a.size_pos;omega
 | n + 1,a,ha,h=>by
  refine mg_mo1 ha ?_
  cases ha with
  | nil=>exact .nil
  | pass k so wi x hk hw h1 h3 hx=>exact .pass k so wi x x x hk (ms_self n x hx (by simp only [Lt.size,Lt.sizes] at h;omega))
  | pick k wi ls l hk hw hl hn hx =>
   have hs:=labels_sort hl
   have hu:=uni_self hs
   have key : allO (fun s=>omM (ms n) (getL ls l s) (getL ls l s)) ls = some l:=allO_some.2 ⟨hn,fun j s x h1 h2=>by
    have hg : getL ls l s = some x:=getL_at h1 h2 (take_not (sort_nodup hs) h1)
    simp only [hg,omM]
    exact ms_self n x (hx x (List.mem_of_getElem? h2)) (by have:=Lt.size_mem (List.mem_of_getElem? h2);simp only [Lt.size] at h;omega)⟩
   have h6:=labels_len hl
   have:=Mg.pick (m:=ms n) k wi ls l ls l l hk (fun _=>rfl) (by rw [hu];exact key) (by rw [hu];exact h6)
   rw [hu] at this
   exact this
  | bind nm x hn hx=>exact .bind nm x x x (ms_self n x hx (by simp only [Lt.size,Lt.sizes] at h;omega))
  | var nm hn=>exact .var nm

theorem mg_congr {m m' : Lt → Lt → Option Lt} {a b r : Lt} (ha : OkL a) (hb : OkL b) (hm : ∀ x y,OkL x → OkL y → x.size < a.size → y.size < b.size → m x y = m' x y) (h : Mg m a b r) : Mg m' a b r:=by
 cases h with
 | nil=>exact .nil
 | pass k so wi x y z hk h=>exact .pass k so wi x y z hk (by rw [← hm x y (okL_one ha) (okL_one hb) (by simp [Lt.size,Lt.sizes]) (by simp [Lt.size,Lt.sizes])];exact h)
 | pick k wi ls l ls' l' r hk h6 hr hl =>
  refine .pick k wi ls l ls' l' r hk h6 ?_ hl
  rw [← hr]
  refine allO_congr fun s _=>omM_congr fun x y hx hy=>?_
  have h1:=getL_mem hx
  have h2:=getL_mem hy
  have h3:=Lt.size_mem h1
  have h4:=Lt.size_mem h2
  exact (hm x y ((okL_pick ha hk).2.2.2 x h1) ((okL_pick hb hk).2.2.2 y h2) (by simp only [Lt.size];omega) (by simp only [Lt.size];omega)).symm
 | bind nm x y z h=>exact .bind nm x y z (by rw [← hm x y (okL_one ha) (okL_one hb) (by simp [Lt.size,Lt.sizes]) (by simp [Lt.size,Lt.sizes])];exact h)
 | var nm=>exact .var nm
theorem mo1_congr {m m' : Lt → Lt → Option Lt} {a b : Lt} (ha : OkL a) (hb : OkL b) (hm : ∀ x y,OkL x → OkL y → x.size < a.size → y.size < b.size → m x y = m' x y) : mo1 m a b = mo1 m' a b:=by
 apply Option.ext
 intro r
 rw [mo1_iff ha hb,mo1_iff ha hb]
 exact ⟨mg_congr ha hb hm,mg_congr ha hb fun x y h1 h2 h3 h4=>(hm x y h1 h2 h3 h4).symm⟩
theorem mo_ms : ∀ (n : Nat) (a b : Lt),OkL a → OkL b → a.size ≤ n → mo n a b = ms n a b
 | 0,a,b,ha,hb,h=>rfl
 | n + 1,a,b,ha,hb,h=>by
  unfold mo
  by_cases hs : sameP a b = true
  · rw [if_pos hs]
    obtain rfl:=(sameP_iff a b).1 hs
    exact (ms_self (n + 1) a ha h).symm
  · rw [if_neg hs]
    exact mo1_congr ha hb fun x y hx hy h1 h2=>mo_ms n x y hx hy (by omega)
def szo : Option Lt → Nat
 | none=>0
 | some x=>x.size
open Classical in
theorem szo_sum : ∀ (ls : List ByteArray) (l : List Lt) (U : List ByteArray),U.Nodup → (U.map fun s=>szo (getL ls l s)).sum ≤ Lt.sizes l
 | [],l,U,h=>by
  have : (U.map fun s=>szo (getL [] l s)) = U.map fun _=>0:=List.map_congr_left fun s _=>by simp [getL,szo]
  rw [this]
  have : (U.map fun _=>0).sum = 0:=by induction U <;> simp_all
  omega
 | a :: ls,[],U,h=>by
  have : (U.map fun s=>szo (getL (a :: ls) [] s)) = U.map fun _=>0:=List.map_congr_left fun s _=>by simp [getL,szo]
  rw [this]
  have : (U.map fun _=>0).sum = 0:=by induction U <;> simp_all
  omega
 | a :: ls, x :: l,U,h=>by
  have key : ∀ V : List ByteArray,V.Nodup → (V.map fun s=>szo (getL (a :: ls) (x :: l) s)).sum ≤ (if a ∈ V then x.size else 0) + (V.map fun s=>szo (getL ls l s)).sum:=by
   intro V
   induction V with
   | nil=>intro _;simp
   | cons s V ih =>
    intro hV
    have hV:=List.nodup_cons.1 hV
    have:=ih hV.2
    simp only [List.map_cons,List.sum_cons]
    by_cases e : s.toList = a.toList
    · have e2:=toList_inj e
      subst e2
      rw [if_pos (by simp)]
      rw [if_neg hV.1] at this
      have h1 : szo (getL (s :: ls) (x :: l) s) = x.size:=by unfold getL;rw [if_pos rfl];rfl
      omega
    · have hne : s ≠ a:=fun q=>e (by rw [q])
      have h1 : szo (getL (a :: ls) (x :: l) s) = szo (getL ls l s):=by
       rw [getL,if_neg e]
      have h2 : (a ∈ s :: V) ↔ (a ∈ V):=by simp [Ne.symm hne]
      have h3 : (if a ∈ s :: V then x.size else 0) = if a ∈ V then x.size else 0:=by simp only [h2]
      rw [h3]
      omega
  have h1:=key U h
  have h2:=szo_sum ls l U h
  simp only [Lt.sizes]
  split at h1 <;> omega
theorem ms_ok : ∀ (n : Nat) (a b r : Lt),OkL a → OkL b → ms n a b = some r → OkL r ∧ r.size ≤ a.size + b.size
 | 0,_,_,_,_,_,h=>by cases h
 | n + 1, a, b,r,ha,hb,h=>by
  cases (mo1_iff ha hb).1 h with
  | nil=>exact ⟨.nil,by simp [Lt.size]⟩
  | pass k so wi x y z hk h' =>
   obtain ⟨h1,h2⟩:=ms_ok n x y z (okL_one ha) (okL_one hb) h'
   refine ⟨?_,by simp only [Lt.size,Lt.sizes];omega⟩
   cases ha with
   | pass _ _ _ _ _ hw hs1 hs3=>exact .pass k so wi z hk hw hs1 hs3 h1
   | pick _ _ _ _ hk'=>omega
   | bind=>omega
  | pick k wi ls l ls' l' r hk h6 hr hl =>
   have h1:=okL_pick ha hk
   have h2:=okL_pick hb hk
   obtain ⟨q1,q2⟩:=allO_some.1 hr
   have each : ∀ s x,s ∈ uniL ls ls' → omM (ms n) (getL ls l s) (getL ls' l' s) = some x → OkL x ∧ x.size ≤ szo (getL ls l s) + szo (getL ls' l' s):=fun s x hs he=>by
    cases hA : getL ls l s with
    | none =>
     rw [hA] at he
     simp only [omM] at he
     exact ⟨h2.2.2.2 x (getL_mem he),by rw [he];simp [szo]⟩
    | some u=>cases hB : getL ls' l' s with
     | none =>
      rw [hA,hB] at he
      simp only [omM] at he
      cases he
      exact ⟨h1.2.2.2 _ (getL_mem hA),by simp [szo]⟩
     | some v =>
      rw [hA,hB] at he
      exact ms_ok n u v x (h1.2.2.2 u (getL_mem hA)) (h2.2.2.2 v (getL_mem hB)) he
   have sum : ∀ (U : List ByteArray) (r : List Lt),r.length = U.length → (∀ (j : Nat) s x,U[j]? = some s → r[j]? = some x → x.size ≤ szo (getL ls l s) + szo (getL ls' l' s)) → Lt.sizes r ≤ (U.map fun s=>szo (getL ls l s)).sum + (U.map fun s=>szo (getL ls' l' s)).sum:=by
    intro U
    induction U with
    | nil=>intro r h _;rw [List.length_nil] at h;rw [List.eq_nil_of_length_eq_zero h];simp [Lt.sizes]
    | cons s U ih =>
     intro r h he
     match r,h with
     | x :: r,h =>
      have:=ih r (by simpa using h) fun j s x h1 h2=>he (j + 1) s x (by simpa using h1) (by simpa using h2)
      have:=he 0 s x rfl rfl
      simp only [Lt.sizes,List.map_cons,List.sum_cons]
      omega
   have hs:=sum (uniL ls ls') r q1 fun j s x g1 g2=>(each s x (List.mem_of_getElem? g1) (q2 j s x g1 g2)).2
   have s1:=szo_sum ls l _ (uni_nodup ls ls')
   have s2:=szo_sum ls' l' _ (uni_nodup ls ls')
   refine ⟨.pick k wi _ r hk h1.1 (labels_uni h1.2.1 h2.2.1 hl) q1 fun x hx=>?_,by simp only [Lt.size];omega⟩
   obtain ⟨j,hj,rfl⟩:=List.getElem_of_mem hx
   exact (each _ _ (List.getElem_mem (l:=uniL ls ls') (n:=j) (by omega)) (q2 j _ _ (List.getElem?_eq_getElem (by omega)) (List.getElem?_eq_getElem hj))).1
  | bind nm x y z h' =>
   obtain ⟨h1,h2⟩:=ms_ok n x y z (okL_one ha) (okL_one hb) h'
   refine ⟨?_,by simp only [Lt.size,Lt.sizes];omega⟩
   cases ha with
   | pass _ _ _ _ hk'=>omega
   | pick _ _ _ _ hk'=>omega
   | bind _ _ hn=>exact .bind nm z hn h1
  | var nm=>exact ⟨ha,by omega⟩

end Go.Proofs.YtdcplkefmpjppaaGreatDoor.GG
