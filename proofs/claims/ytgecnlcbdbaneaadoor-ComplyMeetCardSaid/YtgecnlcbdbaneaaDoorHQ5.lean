/- What the other end does, of trees and of graphs. -/
import Derived.Test.YtgecnlcbdbaneaaDoorHQ4
import Derived.Lib.SlicesCompact
import Derived.Test.YtgecnlcbdbaneaaDoorH9
set_option linter.unusedVariables false
set_option linter.unusedSimpArgs false
namespace Go.Proofs.YtgecnlcbdbaneaaDoor
open Go.RowKit Go.Sw
open _root_.List renaming getD_eq_getElem?_getD → za, getElem?_eq_getElem → zb, length_map → ze, getElem?_map → zf, map_map → zh, map_congr_left → zi, getElem_mem → zn

theorem qs8 (k : Int) : qg4 (qg4 k) = k:=by
 unfold qg4
 repeat' split
 all_goals omega
theorem yj9 {k k' : Int} (h : qg4 k = qg4 k') : k = k':=by rw [← qs8 k,h,qs8]
def dT : Nat → Tr → Tr
 | 0,t=>t
 | _ + 1,.cut=>.cut
 | n + 1,.nd k so ls l=>.nd (qg4 k) so ls (if k = 4 ∨ k = 5 then l.take 1 ++ (l.drop 1).map (dT n) else l.map (dT n))
theorem dT_cut : ∀ n,dT n .cut = .cut
 | 0=>rfl
 | _ + 1=>rfl
theorem yw1 (n : Nat) (l : List Tr) (i : Nat) : kid (l.map (dT n)) i = dT n (kid l i):=by
 unfold kid
 rw [za,za,zf]
 cases l[i]? with
 | none=>simp [dT_cut]
 | some t=>rfl
theorem vu9 : ∀ (n : Nat) (a b : Tr),wfT n a → wfT n b → (qh7 n (dT n b) (dT n a) ↔ qh7 n a b)
 | 0,a,b,_,_=>by simp [qh7]
 | n + 1,.cut,_,ha,_=>ha.elim
 | n + 1,.nd _ _ _ _,.cut,_,hb=>hb.elim
 | n + 1,.nd k so ls l,.nd k' so' ls' l',ha,hb=>by
  by_cases hk : k = k'
  rotate_left
  · simp only [dT,qh7]
    exact ⟨fun h=>absurd (yj9 h.1).symm hk,fun h=>absurd h.1 hk⟩
  subst hk
  by_cases hs : so = so'
  rotate_left
  · simp only [dT,qh7]
    exact ⟨fun h=>absurd h.2.1.symm hs,fun h=>absurd h.2.1 hs⟩
  subst hs
  obtain ⟨sa,wa⟩:=ha
  obtain ⟨sb,wb⟩:=hb
  have ih:=vu9 n
  rcases sa with ⟨ek,es,el,em⟩ | ⟨ek,es,el,em⟩ | ⟨ek,es,el,em⟩ | ⟨ek,es,el,em⟩
  · rcases sb with ⟨fk,fs,fl,fm⟩ | ⟨fk,fs,fl,fm⟩ | ⟨fk,fs,fl,fm⟩ | ⟨fk,fs,fl,fm⟩ <;> try omega
    subst ek el fl
    simp only [dT,qh7,qg4]
    simp
  · rcases sb with ⟨fk,fs,fl,fm⟩ | ⟨fk,fs,fl,fm⟩ | ⟨fk,fs,fl,fm⟩ | ⟨fk,fs,fl,fm⟩ <;> try omega
    obtain ⟨x,rfl⟩:=len1 em
    obtain ⟨y,rfl⟩:=len1 fm
    have h1:=ih x y (wa x (by simp)) (wb y (by simp))
    subst el fl
    rcases ek with rfl | rfl <;> simp [dT,qh7,qg4,kid,h1]
  · rcases sb with ⟨fk,fs,fl,fm⟩ | ⟨fk,fs,fl,fm⟩ | ⟨fk,fs,fl,fm⟩ | ⟨fk,fs,fl,fm⟩ <;> try omega
    obtain ⟨x,x2,rfl⟩:=len2 em
    obtain ⟨y,y2,rfl⟩:=len2 fm
    have h1:=ih x2 y2 (wa x2 (by simp)) (wb y2 (by simp))
    subst el fl
    rcases ek with rfl | rfl <;> simp [dT,qh7,qg4,kid,h1]
  · rcases sb with ⟨fk,fs,fl,fm⟩ | ⟨fk,fs,fl,fm⟩ | ⟨fk,fs,fl,fm⟩ | ⟨fk,fs,fl,fm⟩ <;> try omega
    have wk : ∀ x : ByteArray,x ∈ ls → wfT n (vg8 ls l x):=fun x hx=>by
     have h2:=qk8 hx
     unfold vg8 kid
     rw [za,zb (by omega),Option.getD_some]
     exact wa _ (zn _)
    have wk' : ∀ x : ByteArray,x ∈ ls' → wfT n (vg8 ls' l' x):=fun x hx=>by
     have h2:=qk8 hx
     unfold vg8 kid
     rw [za,zb (by omega),Option.getD_some]
     exact wb _ (zn _)
    have kd : ∀ (ls : List ByteArray) (l : List Tr) (x : ByteArray),vg8 ls (l.map (dT n)) x = dT n (vg8 ls l x):=fun ls l x=>yw1 n l _
    have h1 : ∀ x : ByteArray,x ∈ ls → x ∈ ls' → (qh7 n (dT n (vg8 ls' l' x)) (dT n (vg8 ls l x)) ↔ qh7 n (vg8 ls l x) (vg8 ls' l' x)):=fun x hx hy=>ih _ _ (wk x hx) (wk' x hy)
    rcases ek with rfl | rfl
    · simp [dT,qh7,qg4,kd]
      exact ⟨fun h x hx=>⟨(h x hx).1,(h1 x (h x hx).1 hx).1 (h x hx).2⟩,fun h x hx=>⟨(h x hx).1,(h1 x (h x hx).1 hx).2 (h x hx).2⟩⟩
    · simp [dT,qh7,qg4,kd]
      exact ⟨fun h x hx=>⟨(h x hx).1,(h1 x hx (h x hx).1).1 (h x hx).2⟩,fun h x hx=>⟨(h x hx).1,(h1 x hx (h x hx).1).2 (h x hx).2⟩⟩
theorem xx8 : ∀ (n : Nat) (a : Tr),dT n (dT n a) = a
 | 0,a=>rfl
 | _ + 1,.cut=>rfl
 | n + 1,.nd k so ls l=>by
  have hd : (qg4 k = 4 ∨ qg4 k = 5) ↔ (k = 4 ∨ k = 5):=by unfold qg4;repeat' split <;> omega
  have hm : ∀ l : List Tr,(l.map (dT n)).map (dT n) = l:=fun l=>by
   rw [zh]
   conv=>rhs;rw [← List.map_id l]
   exact zi fun x _=>xx8 n x
  simp only [dT,qs8,hd]
  split
  · cases l with
    | nil=>rfl
    | cons x l=>simp [hm]
  · rw [hm]
theorem vt5 : ∀ (n : Nat) (a : Tr),wfT n a → wfT n (dT n a)
 | 0,_,h=>h
 | _ + 1,.cut,h=>h.elim
 | n + 1, .nd k so ls l,h=>by
  obtain ⟨hs,hw⟩:=h
  have hl : (if k = 4 ∨ k = 5 then l.take 1 ++ (l.drop 1).map (dT n) else l.map (dT n)).length = l.length:=by
   split
   · cases l <;> simp
   · simp
  refine ⟨?_,fun x hx=>?_⟩
  · rw [hl]
    unfold qg4
    rcases hs with ⟨ek,es⟩ | ⟨ek,es⟩ | ⟨ek,es⟩ | ⟨ek,es⟩
    · exact .inl ⟨by rw [if_neg (by omega),if_neg (by omega)];exact ek,es⟩
    · exact .inr (.inl ⟨by split <;> (try split) <;> omega,es⟩)
    · exact .inr (.inr (.inl ⟨by split <;> (try split) <;> omega,es⟩))
    · exact .inr (.inr (.inr ⟨by split <;> (try split) <;> omega,es⟩))
  · split at hx
    · rcases List.mem_append.1 hx with hx | hx
      · exact hw x (List.mem_of_mem_take hx)
      · obtain ⟨y,hy,rfl⟩:=List.mem_map.1 hx
        exact vt5 n y (hw y (List.mem_of_mem_drop hy))
    · obtain ⟨y,hy,rfl⟩:=List.mem_map.1 hx
      exact vt5 n y (hw y hy)
def addHd (n : Nat) : List Int → List Int
 | []=>[]
 | t :: l=>(t + n) :: l
def dNd (n : Nat) (x : Nd) : Nd:=⟨qg4 x.k,x.so,x.ls,if x.k = 4 ∨ x.k = 5 then addHd n x.to else x.to⟩
def sNd (n : Nat) (x : Nd) : Nd:=⟨x.k,x.so,x.ls,x.to.map fun t=>t + n⟩
def qj5 (g : List Nd) : List Nd:=g.map (dNd g.length) ++ g.map (sNd g.length)
theorem qx9 (g : List Nd) : (qj5 g).length = 2 * g.length:=by simp [qj5];omega
theorem gAt_d1 {g : List Nd} {i : Int} (h0 : 0 ≤ i) (h1 : i < (g.length : Int)) : gAt (qj5 g) i = dNd g.length (gAt g i):=by
 have hi : i.toNat < g.length:=by omega
 unfold gAt qj5
 rw [za,List.getElem?_append_left (by simp;exact hi),zf,za,zb hi]
 rfl
theorem gAt_d2 {g : List Nd} {i : Int} (h0 : 0 ≤ i) (h1 : i < (g.length : Int)) : gAt (qj5 g) (i + g.length) = sNd g.length (gAt g i):=by
 have hi : i.toNat < g.length:=by omega
 unfold gAt qj5
 rw [za,List.getElem?_append_right (by simp;omega),zf,za,ze,show (i + (g.length : Int)).toNat - g.length = i.toNat by omega,zb hi]
 rfl
theorem vq5 {g : List Nd} (hg : ∀ n ∈ g,NdG g.length n) : ∀ (m : Nat) (i : Int),0 ≤ i → i < (g.length : Int) → obs (qj5 g) m (i + g.length) = obs g m i
 | 0,_,_,_=>rfl
 | m + 1,i,h0,h1=>by
  rw [obs,obs,gAt_d2 h0 h1]
  simp only [sNd,zh]
  congr 1
  apply zi
  intro t ht
  have:=(hg _ (qd0 h0 h1)).ok.r t ht
  exact vq5 hg m t this.1 this.2
theorem xn4 {g : List Nd} (hg : ∀ n ∈ g,NdG g.length n) : ∀ (m : Nat) (i : Int),0 ≤ i → i < (g.length : Int) → obs (qj5 g) m i = dT m (obs g m i)
 | 0,_,_,_=>rfl
 | m + 1,i,h0,h1=>by
  rw [obs,obs,gAt_d1 h0 h1]
  have hr:=(hg _ (qd0 h0 h1)).ok.r
  simp only [dNd,dT]
  generalize (gAt g i).to = to at *
  have key : ∀ l : List Int,(∀ t ∈ l,0 ≤ t ∧ t < (g.length : Int)) → l.map (obs (qj5 g) m) = (l.map (obs g m)).map (dT m):=fun l hl=>by
   rw [zh]
   exact zi fun t ht=>xn4 hg m t (hl t ht).1 (hl t ht).2
  congr 1
  split
  · cases to with
    | nil=>rfl
    | cons t to =>
     have ht:=hr t (by simp)
     simp only [addHd,List.map_cons,List.take_succ_cons,List.take_zero,List.drop_succ_cons,List.drop_zero,List.cons_append,List.nil_append]
     rw [vq5 hg m t ht.1 ht.2,key to fun x hx=>hr x (by simp [hx])]
  · exact key to hr
theorem vl5 {g : List Nd} (hg : ∀ n ∈ g,NdG g.length n) (hs : ShG g) : (∀ n ∈ qj5 g,NdG (qj5 g).length n) ∧ ShG (qj5 g):=by
 have hl:=qx9 g
 have ahl : ∀ (to : List Int),(addHd g.length to).length = to.length:=fun to=>by cases to <;> rfl
 have dl : ∀ x : Nd,(dNd g.length x).to.length = x.to.length:=fun x=>by unfold dNd;simp only;split <;> simp [ahl]
 have dk : ∀ x ∈ g,shp (qg4 x.k) x.so x.ls x.to.length:=fun x hx=>by
  unfold qg4
  rcases hs x hx with ⟨ek,es⟩ | ⟨ek,es⟩ | ⟨ek,es⟩ | ⟨ek,es⟩
  · exact .inl ⟨by rw [if_neg (by omega),if_neg (by omega)];exact ek,es⟩
  · exact .inr (.inl ⟨by split <;> (try split) <;> omega,es⟩)
  · exact .inr (.inr (.inl ⟨by split <;> (try split) <;> omega,es⟩))
  · exact .inr (.inr (.inr ⟨by split <;> (try split) <;> omega,es⟩))
 have shNd : ∀ x : Nd,shp x.k x.so x.ls x.to.length → yn3 x:=fun x h=>by
  rcases h with ⟨ek,es,el,em⟩ | ⟨ek,es,el,em⟩ | ⟨ek,es,el,em⟩ | ⟨ek,es,el,em⟩
  · exact ⟨fun h=>by omega,fun h=>by omega,by rw [el];simp,by rw [el];simp⟩
  · exact ⟨fun h=>by omega,fun h=>by omega,by rw [el];simp,by rw [el];simp⟩
  · exact ⟨fun h=>by omega,fun h=>by omega,by rw [el];simp,by rw [el];simp⟩
  · exact ⟨fun h=>by omega,fun h=>by omega,by omega,ql6 el⟩
 have kr : ∀ {k so : Int} {ls : List ByteArray} {m : Nat},shp k so ls m → 0 ≤ k ∧ k < 100:=fun h=>by
  rcases h with ⟨ek, -⟩ | ⟨ek, -⟩ | ⟨ek, -⟩ | ⟨ek, -⟩ <;> omega
 constructor
 · intro n hn
   rw [hl]
   rcases List.mem_append.1 hn with hn | hn
   · obtain ⟨x,hx,rfl⟩:=List.mem_map.1 hn
     have gx:=hg x hx
     have sx : shp (dNd g.length x).k (dNd g.length x).so (dNd g.length x).ls (dNd g.length x).to.length:=by rw [dl];exact dk x hx
     refine ⟨⟨kr sx,gx.ok.so,gx.ok.ls,gx.ok.lb,by rw [dl];exact gx.ok.to,fun t ht=>?_⟩,shNd _ sx,gx.nm⟩
     have hr:=gx.ok.r
     unfold dNd at ht
     simp only at ht
     generalize x.to = to at *
     split at ht
     · cases to with
       | nil=>cases ht
       | cons a to =>
        rcases List.mem_cons.1 ht with rfl | ht
        · have:=hr a (by simp);omega
        · have:=hr t (by simp [ht]);omega
     · have:=hr t ht;omega
   · obtain ⟨x,hx,rfl⟩:=List.mem_map.1 hn
     have gx:=hg x hx
     have sx : shp (sNd g.length x).k (sNd g.length x).so (sNd g.length x).ls (sNd g.length x).to.length:=by simp only [sNd,ze];exact hs x hx
     refine ⟨⟨kr sx,gx.ok.so,gx.ok.ls,gx.ok.lb,by simp only [sNd,ze];exact gx.ok.to,fun t ht=>?_⟩,shNd _ sx,gx.nm⟩
     obtain ⟨u,hu,rfl⟩:=List.mem_map.1 ht
     have:=gx.ok.r u hu
     omega
 · intro n hn
   rcases List.mem_append.1 hn with hn | hn
   · obtain ⟨x,hx,rfl⟩:=List.mem_map.1 hn
     rw [dl];exact dk x hx
   · obtain ⟨x,hx,rfl⟩:=List.mem_map.1 hn
     simp only [sNd,ze];exact hs x hx
end Go.Proofs.YtgecnlcbdbaneaaDoor
/- Texts in order, each once: plain. -/
namespace Go.Proofs.YtgecnlcbdbaneaaDoor
open Go.RowKit Go.Sw
open _root_.List renaming range → za, pairwise_map → zb, length_map → ze, map_map → zf, map_id → zh, map_congr_left → zi, mem_map → zm, mergeSort_perm → zn, pairwise_lt_range → zo, pairwise_cons → zq

theorem vq3 {α : Type} [Inhabited α] [DecidableEq α] {zs : List α} {x : α} : x ∈ Lib.compact zs ↔ x ∈ zs:=by
 unfold Lib.compact Lib.compactUpTo
 constructor
 · intro h
   obtain ⟨j,hj,rfl⟩:=List.mem_map.1 h
   have:=List.mem_range.1 (List.mem_filter.1 hj).1
   simp [this]
 · intro h
   obtain ⟨i,hi,rfl⟩:=List.getElem_of_mem h
   have key : ∀ j,j < zs.length → zs.toArray[j]! ∈ ((za zs.length).filter (Lib.keeps zs.toArray)).map (zs.toArray[·]!):=by
    intro j
    induction j with
    | zero=>intro hj;exact List.mem_map.2 ⟨0,List.mem_filter.2 ⟨List.mem_range.2 hj,by simp [Lib.keeps]⟩,rfl⟩
    | succ j ih =>
     intro hj
     by_cases hk : Lib.keeps zs.toArray (j + 1) = true
     · exact List.mem_map.2 ⟨j + 1,List.mem_filter.2 ⟨List.mem_range.2 hj,hk⟩,rfl⟩
     · have he : zs.toArray[j + 1]! = zs.toArray[j]! := by
        by_cases he : zs.toArray[j + 1]! = zs.toArray[j]!
        · exact he
        · exact absurd (Lib.keeps_pos (m:=j + 1) (by simpa using he)) hk
       rw [he]
       exact ih (by omega)
   have:=key i hi
   simpa [hi] using this
theorem vj5 {α : Type} [Inhabited α] [DecidableEq α] (zs : List α) : (Lib.compact zs).length ≤ zs.length:=by
 unfold Lib.compact Lib.compactUpTo
 rw [ze]
 exact Nat.le_trans (List.length_filter_le _ _) (by simp)
def qf1 (L : List ByteArray) : List (List UInt8):=L.map fun s=>s.data.toList
def qq5 (ss : List (List UInt8)) : List ByteArray:=ss.map fun l=>⟨l.toArray⟩
theorem vt1 (L : List ByteArray) : qq5 (qf1 L) = L:=by
 unfold qq5 qf1
 rw [zf]
 conv=>rhs;rw [← zh L]
 apply zi
 intro s _
 rfl
theorem xt7 (ss : List (List UInt8)) : qf1 (qq5 ss) = ss:=by
 unfold qq5 qf1
 rw [zf]
 conv=>rhs;rw [← zh ss]
 apply zi
 intro s _
 simp
def qm2 (L : List ByteArray) : List ByteArray:=qq5 ((qf1 L).mergeSort fun x y=>decide (x ≤ y))
def qo3 (L : List ByteArray) : List ByteArray:=qq5 (Lib.compact (qf1 L))
theorem qm1 (L : List ByteArray) : (qm2 L).length = L.length:=by simp [qm2,qq5,qf1]
theorem vk9 (L : List ByteArray) : (qo3 L).length ≤ L.length:=by
 have:=vj5 (qf1 L)
 simp only [qo3,qq5,ze]
 simpa [qf1] using this
theorem yk4 (L : List ByteArray) (s : ByteArray) : s ∈ qm2 L ↔ s ∈ L:=by
 have h : s ∈ qq5 (qf1 L) ↔ s ∈ qm2 L:=by
  unfold qm2 qq5
  simp only [zm]
  constructor
  · rintro ⟨l,h,rfl⟩;exact ⟨l,(zn _ _).mem_iff.2 h,rfl⟩
  · rintro ⟨l,h,rfl⟩;exact ⟨l,(zn _ _).mem_iff.1 h,rfl⟩
 rw [vt1] at h
 exact h.symm
theorem yj2 (L : List ByteArray) (s : ByteArray) : s ∈ qo3 L ↔ s ∈ L:=by
 have h : s ∈ qq5 (qf1 L) ↔ s ∈ qo3 L:=by
  unfold qo3 qq5
  simp only [zm]
  constructor
  · rintro ⟨l,h,rfl⟩;exact ⟨l,vq3.2 h,rfl⟩
  · rintro ⟨l,h,rfl⟩;exact ⟨l,vq3.1 h,rfl⟩
 rw [vt1] at h
 exact h.symm

theorem vw2 (ss : List (List UInt8)) (h : ss.Pairwise (· ≤ ·)) : (Lib.compact ss).Nodup:=by
 unfold Lib.compact Lib.compactUpTo List.Nodup
 rw [zb]
 have h1 : ((za ss.length).filter (Lib.keeps ss.toArray)).Pairwise (· < ·):=List.Pairwise.filter _ zo
 refine List.Pairwise.imp_of_mem ?_ h1
 intro i j hi hj hlt he
 have hj2:=(List.mem_filter.1 hj).2
 have hjl:=List.mem_range.1 (List.mem_filter.1 hj).1
 have hk : ss.toArray[j]! ≠ ss.toArray[j - 1]! := by
  intro hq
  unfold Lib.keeps at hj2
  simp [hq] at hj2
  omega
 have hp:=List.pairwise_iff_getElem.1 h
 have e1 : ss.toArray[i]! = ss[i]:=by simp [show i < ss.length by omega]
 have e2 : ss.toArray[j]! = ss[j]:=by simp [hjl]
 have e3 : ss.toArray[j - 1]! = ss[j - 1]:=by simp [show j - 1 < ss.length by omega]
 rw [e1,e2] at he
 rw [e2,e3] at hk
 have g1 : ss[j - 1] ≤ ss[j]:=hp (j - 1) j (by omega) hjl (by omega)
 have g2 : ss[j] ≤ ss[j - 1]:=by
  rw [← he]
  by_cases hij : i = j - 1
  · subst hij;exact List.le_refl _
  · exact hp i (j - 1) (by omega) (by omega) (by omega)
 exact hk (List.le_antisymm g2 g1)
theorem vk8 (ss : List (List UInt8)) : (ss.mergeSort fun x y=>decide (x ≤ y)).Pairwise (· ≤ ·):=by
 have:=List.pairwise_mergeSort (le:=fun x y : List UInt8=>decide (x ≤ y)) (fun a b c h1 h2=>by simp at h1 h2 ⊢;exact List.le_trans h1 h2) (fun a b=>by simp;exact List.le_total a b) ss
 exact this.imp (fun h=>by simpa using h)
theorem vl2 {α : Type} [DecidableEq α] : ∀ (l m : List α),l.Nodup → (∀ x ∈ l,x ∈ m) → l.length ≤ m.length
 | [],m,_,_=>Nat.zero_le _
 | x :: l,m,h,hs=>by
  have hx:=hs x (by simp)
  have h2:=List.nodup_cons.1 h
  have:=vl2 l (m.erase x) h2.2 (fun y hy=>(List.mem_erase_of_ne (fun e=>h2.1 (by rw [← e];exact hy))).2 (hs y (by simp [hy])))
  rw [List.length_erase_of_mem hx] at this
  have:=List.length_pos_of_mem hx
  simp only [List.length_cons];omega
theorem vp3 (ss : List (List UInt8)) (h : ss.Pairwise (· ≤ ·)) : (Lib.compact ss).Pairwise (· ≤ ·):=by
 unfold Lib.compact Lib.compactUpTo
 rw [zb]
 have h1 : ((za ss.length).filter (Lib.keeps ss.toArray)).Pairwise (· < ·):=List.Pairwise.filter _ zo
 refine List.Pairwise.imp_of_mem ?_ h1
 intro i j hi hj hlt
 have hjl:=List.mem_range.1 (List.mem_filter.1 hj).1
 have hp:=List.pairwise_iff_getElem.1 h
 have e1 : ss.toArray[i]! = ss[i]:=by simp [show i < ss.length by omega]
 have e2 : ss.toArray[j]! = ss[j]:=by simp [hjl]
 rw [e1,e2]
 exact hp i j (by omega) hjl hlt
theorem ym0 : ∀ a b : List UInt8,Op.bytesLess a b = true → a < b
 | _,[],h=>by simp [Op.bytesLess] at h
 | [],_ :: _,_=>by simp
 | x :: a,y :: b,h=>by
  simp only [Op.bytesLess,Bool.or_eq_true,decide_eq_true_iff,Bool.and_eq_true,beq_iff_eq] at h
  rcases h with h | ⟨rfl,h⟩
  · exact List.Lex.rel h
  · exact List.Lex.cons (ym0 a b h)
theorem le_less {a b : List UInt8} (h : a ≤ b) (hne : a ≠ b) : Op.bytesLess a b = true:=by
 rcases ve2 a b with h1 | h1 | h1
 · exact h1
 · exact absurd h1 hne
 · exact absurd (ym0 b a h1) (List.not_lt.2 h)
def ym6 (x y : List ByteArray) : List ByteArray:=qo3 (qm2 (x ++ y))
def vz1 (x y : List ByteArray) : List ByteArray:=x.filter fun s=>inL y s
theorem ya1 {x y : List ByteArray} {s : ByteArray} : s ∈ ym6 x y ↔ s ∈ x ∨ s ∈ y:=by
 unfold ym6
 rw [yj2,yk4,List.mem_append]
theorem int_mem {x y : List ByteArray} {s : ByteArray} : s ∈ vz1 x y ↔ s ∈ x ∧ s ∈ y:=by
 unfold vz1
 rw [List.mem_filter,ql5]
theorem yo2 (x y : List ByteArray) : (ym6 x y).Pairwise ltB:=by
 unfold ym6 qo3 qm2
 rw [xt7]
 unfold qq5
 rw [zb]
 have h1:=vp3 _ (vk8 (qf1 (x ++ y)))
 have h2:=vw2 _ (vk8 (qf1 (x ++ y)))
 refine List.Pairwise.imp₂ (fun a b hle hne=>?_) h1 h2
 unfold ltB
 rw [Lib.toList_data,Lib.toList_data]
 exact le_less hle hne
theorem ys5 {x y : List ByteArray} (h : x.Pairwise ltB) : (vz1 x y).Pairwise ltB:=h.filter _
theorem xl7 : ∀ (l : List ByteArray) (p : ByteArray),(∀ x ∈ l,qe8 x = true) → (∀ x ∈ l,ltB p x) → l.Pairwise ltB → vd5 p l = true
 | [],_,_,_,_=>rfl
 | s :: l,p,hn,hp,hs=>by
  unfold vd5
  rw [zq] at hs
  have ih:=xl7 l s (fun x hx=>hn x (by simp [hx])) hs.1 hs.2
  have h1:=hn s (by simp)
  have h2:=hp s (by simp)
  have h3 : leB s p = false:=by
   unfold leB
   unfold ltB at h2
   have a : Op.bytesLess s.toList p.toList = false:=by
    cases e : Op.bytesLess s.toList p.toList with
    | false=>rfl
    | true=>exact absurd (vf3 _ _ _ e h2) (by rw [vh6];decide)
   have b : (s.toList == p.toList) = false:=by
    rw [beq_eq_false_iff_ne]
    intro e
    rw [e,vh6] at h2
    cases h2
   rw [a,b];rfl
  simp [h1,h3,ih]
theorem yi9 {l : List ByteArray} (h1 : 1 ≤ l.length) (h6 : l.length ≤ 6) (hn : ∀ x ∈ l,qe8 x = true) (hs : l.Pairwise ltB) : qh8 l = true:=by
 unfold qh8
 rw [if_neg (by omega),if_neg (by omega)]
 cases l with
 | nil=>simp at h1
 | cons s l =>
  rw [zq] at hs
  have:=xl7 l s (fun x hx=>hn x (by simp [hx])) hs.1 hs.2
  unfold va9
  simp [hn s (by simp),this]
end Go.Proofs.YtgecnlcbdbaneaaDoor
/- Graphs that are right. -/
namespace Go.Proofs.YtgecnlcbdbaneaaDoor
open Go.RowKit Go.Sw

def endT : Tp:=.mk 1 0 noB [] []
theorem vt4 {g : List Nd} (hg : ∀ n ∈ g,NdG g.length n) (h0 : 0 < g.length) (hs : ShG g) : ShG (qk0 g):=by
 obtain ⟨o,a1,a2,a3,a4⟩:=qz9 (cl:=ql4 g) hg (g.length + 1) 0 [0] [] (xh6 h0 _) (by simp) rfl (by omega) (by intro p x v hp;simp at hp)
 intro x hx
 obtain ⟨p,hp,rfl⟩:=List.mem_iff_getElem.1 hx
 have hp' : p < o.length:=by rw [a2];exact hp
 obtain ⟨e1,e2,e3,e4, -⟩:=a4 p _ o[p] (List.getElem?_eq_getElem hp) (List.getElem?_eq_getElem hp')
 have hr:=a1.r o[p] (List.getElem_mem hp')
 have:=hs _ (qd0 hr.1 hr.2)
 rw [e1,e2,e3,e4]
 exact this
theorem yx4 {x : Tp} (h : qd9 x = 0) : ShG (ofP x):=by
 obtain ⟨-, -, -,h4,h5,h6⟩:=qr1 h
 unfold ofP
 rw [if_pos h]
 exact vt4 (g:=vv8 x) h6 h4 (yy2 h)
structure Gd (g : List Nd) : Prop where
 pos : 0 < g.length
 le : g.length ≤ 200
 ok : ∀ n ∈ g,NdG g.length n
 sh : ShG g
theorem qo7 {x : Tp} (h : qd9 x = 0) : Gd (ofP x):=⟨(vj0 h).1,by have:=(vj0 h).2.1;omega,(vj0 h).2.2,yx4 h⟩
theorem vt3 {x y : Tp} (h1 : qd9 x = 0) (h2 : qd9 y = 0) : qs6 x y = 0:=by unfold qs6;rw [if_pos h1];exact h2
end Go.Proofs.YtgecnlcbdbaneaaDoor
