/- What the other end does, of trees and of graphs. -/
import Derived.Test.YtgecnlcbdbaneaaDoorHQ4
import Derived.Test.YtgecnlcbdbaneaaDoorH16
import Derived.Lib.SlicesCompact
set_option linter.unusedVariables false
set_option linter.unusedSimpArgs false
namespace Go.Proofs.YtgecnlcbdbaneaaDoor
open Go.RowKit Go.Sw

theorem dKind_inv (k : Int) : dKind (dKind k) = k:=by
 unfold dKind
 repeat' split
 all_goals omega
theorem dKind_inj {k k' : Int} (h : dKind k = dKind k') : k = k':=by rw [← dKind_inv k,h,dKind_inv]
def dT : Nat → Tr → Tr
 | 0,t=>t
 | _ + 1,.cut=>.cut
 | n + 1,.nd k so ls l=>.nd (dKind k) so ls (if k = 4 ∨ k = 5 then l.take 1 ++ (l.drop 1).map (dT n) else l.map (dT n))
theorem dT_cut : ∀ n,dT n .cut = .cut
 | 0=>rfl
 | _ + 1=>rfl
theorem kid_dT (n : Nat) (l : List Tr) (i : Nat) : kid (l.map (dT n)) i = dT n (kid l i):=by
 unfold kid
 rw [List.getD_eq_getElem?_getD,List.getD_eq_getElem?_getD,List.getElem?_map]
 cases l[i]? with
 | none=>simp [dT_cut]
 | some t=>rfl
theorem sub_dual : ∀ (n : Nat) (a b : Tr),wfT n a → wfT n b → (subT n (dT n b) (dT n a) ↔ subT n a b)
 | 0,a,b,_,_=>by simp [subT]
 | n + 1,.cut,_,ha,_=>ha.elim
 | n + 1,.nd _ _ _ _,.cut,_,hb=>hb.elim
 | n + 1,.nd k so ls l,.nd k' so' ls' l',ha,hb=>by
  by_cases hk : k = k'
  rotate_left
  · simp only [dT,subT]
    exact ⟨fun h=>absurd (dKind_inj h.1).symm hk,fun h=>absurd h.1 hk⟩
  subst hk
  by_cases hs : so = so'
  rotate_left
  · simp only [dT,subT]
    exact ⟨fun h=>absurd h.2.1.symm hs,fun h=>absurd h.2.1 hs⟩
  subst hs
  obtain ⟨sa,wa⟩:=ha
  obtain ⟨sb,wb⟩:=hb
  have ih:=sub_dual n
  rcases sa with ⟨ek,es,el,em⟩ | ⟨ek,es,el,em⟩ | ⟨ek,es,el,em⟩ | ⟨ek,es,el,em⟩
  · rcases sb with ⟨fk,fs,fl,fm⟩ | ⟨fk,fs,fl,fm⟩ | ⟨fk,fs,fl,fm⟩ | ⟨fk,fs,fl,fm⟩ <;> try omega
    subst ek el fl
    simp only [dT,subT,dKind]
    simp
  · rcases sb with ⟨fk,fs,fl,fm⟩ | ⟨fk,fs,fl,fm⟩ | ⟨fk,fs,fl,fm⟩ | ⟨fk,fs,fl,fm⟩ <;> try omega
    obtain ⟨x,rfl⟩:=len1 em
    obtain ⟨y,rfl⟩:=len1 fm
    have h1:=ih x y (wa x (by simp)) (wb y (by simp))
    subst el fl
    rcases ek with rfl | rfl <;> simp [dT,subT,dKind,kid,h1]
  · rcases sb with ⟨fk,fs,fl,fm⟩ | ⟨fk,fs,fl,fm⟩ | ⟨fk,fs,fl,fm⟩ | ⟨fk,fs,fl,fm⟩ <;> try omega
    obtain ⟨x,x2,rfl⟩:=len2 em
    obtain ⟨y,y2,rfl⟩:=len2 fm
    have h1:=ih x2 y2 (wa x2 (by simp)) (wb y2 (by simp))
    subst el fl
    rcases ek with rfl | rfl <;> simp [dT,subT,dKind,kid,h1]
  · rcases sb with ⟨fk,fs,fl,fm⟩ | ⟨fk,fs,fl,fm⟩ | ⟨fk,fs,fl,fm⟩ | ⟨fk,fs,fl,fm⟩ <;> try omega
    have wk : ∀ x : ByteArray,x ∈ ls → wfT n (kidL ls l x):=fun x hx=>by
     have h2:=ixL_mem hx
     unfold kidL kid
     rw [List.getD_eq_getElem?_getD,List.getElem?_eq_getElem (by omega),Option.getD_some]
     exact wa _ (List.getElem_mem _)
    have wk' : ∀ x : ByteArray,x ∈ ls' → wfT n (kidL ls' l' x):=fun x hx=>by
     have h2:=ixL_mem hx
     unfold kidL kid
     rw [List.getD_eq_getElem?_getD,List.getElem?_eq_getElem (by omega),Option.getD_some]
     exact wb _ (List.getElem_mem _)
    have kd : ∀ (ls : List ByteArray) (l : List Tr) (x : ByteArray),kidL ls (l.map (dT n)) x = dT n (kidL ls l x):=fun ls l x=>kid_dT n l _
    have h1 : ∀ x : ByteArray,x ∈ ls → x ∈ ls' → (subT n (dT n (kidL ls' l' x)) (dT n (kidL ls l x)) ↔ subT n (kidL ls l x) (kidL ls' l' x)):=fun x hx hy=>ih _ _ (wk x hx) (wk' x hy)
    rcases ek with rfl | rfl
    · simp [dT,subT,dKind,kd]
      exact ⟨fun h x hx=>⟨(h x hx).1,(h1 x (h x hx).1 hx).1 (h x hx).2⟩,fun h x hx=>⟨(h x hx).1,(h1 x (h x hx).1 hx).2 (h x hx).2⟩⟩
    · simp [dT,subT,dKind,kd]
      exact ⟨fun h x hx=>⟨(h x hx).1,(h1 x hx (h x hx).1).1 (h x hx).2⟩,fun h x hx=>⟨(h x hx).1,(h1 x hx (h x hx).1).2 (h x hx).2⟩⟩
theorem dT_inv : ∀ (n : Nat) (a : Tr),dT n (dT n a) = a
 | 0,a=>rfl
 | _ + 1,.cut=>rfl
 | n + 1,.nd k so ls l=>by
  have hd : (dKind k = 4 ∨ dKind k = 5) ↔ (k = 4 ∨ k = 5):=by unfold dKind;repeat' split <;> omega
  have hm : ∀ l : List Tr,(l.map (dT n)).map (dT n) = l:=fun l=>by
   rw [List.map_map]
   conv=>rhs;rw [← List.map_id l]
   exact List.map_congr_left fun x _=>dT_inv n x
  simp only [dT,dKind_inv,hd]
  split
  · cases l with
    | nil=>rfl
    | cons x l=>simp [hm]
  · rw [hm]
theorem wf_dual : ∀ (n : Nat) (a : Tr),wfT n a → wfT n (dT n a)
 | 0,_,h=>h
 | _ + 1,.cut,h=>h.elim
 | n + 1, .nd k so ls l,h=>by
  obtain ⟨hs,hw⟩:=h
  have hl : (if k = 4 ∨ k = 5 then l.take 1 ++ (l.drop 1).map (dT n) else l.map (dT n)).length = l.length:=by
   split
   · cases l <;> simp
   · simp
  refine ⟨?_,fun x hx=>?_⟩
  · rw [hl]
    unfold dKind
    rcases hs with ⟨ek,es⟩ | ⟨ek,es⟩ | ⟨ek,es⟩ | ⟨ek,es⟩
    · exact .inl ⟨by rw [if_neg (by omega),if_neg (by omega)];exact ek,es⟩
    · exact .inr (.inl ⟨by split <;> (try split) <;> omega,es⟩)
    · exact .inr (.inr (.inl ⟨by split <;> (try split) <;> omega,es⟩))
    · exact .inr (.inr (.inr ⟨by split <;> (try split) <;> omega,es⟩))
  · split at hx
    · rcases List.mem_append.1 hx with hx | hx
      · exact hw x (List.mem_of_mem_take hx)
      · obtain ⟨y,hy,rfl⟩:=List.mem_map.1 hx
        exact wf_dual n y (hw y (List.mem_of_mem_drop hy))
    · obtain ⟨y,hy,rfl⟩:=List.mem_map.1 hx
      exact wf_dual n y (hw y hy)
def addHd (n : Nat) : List Int → List Int
 | []=>[]
 | t :: l=>(t + n) :: l
def dNd (n : Nat) (x : Nd) : Nd:=⟨dKind x.k,x.so,x.ls,if x.k = 4 ∨ x.k = 5 then addHd n x.to else x.to⟩
def sNd (n : Nat) (x : Nd) : Nd:=⟨x.k,x.so,x.ls,x.to.map fun t=>t + n⟩
def dualRaw (g : List Nd) : List Nd:=g.map (dNd g.length) ++ g.map (sNd g.length)
theorem dualRaw_len (g : List Nd) : (dualRaw g).length = 2 * g.length:=by simp [dualRaw];omega
theorem gAt_d1 {g : List Nd} {i : Int} (h0 : 0 ≤ i) (h1 : i < (g.length : Int)) : gAt (dualRaw g) i = dNd g.length (gAt g i):=by
 have hi : i.toNat < g.length:=by omega
 unfold gAt dualRaw
 rw [List.getD_eq_getElem?_getD,List.getElem?_append_left (by simp;exact hi),List.getElem?_map,List.getD_eq_getElem?_getD,List.getElem?_eq_getElem hi]
 rfl
theorem gAt_d2 {g : List Nd} {i : Int} (h0 : 0 ≤ i) (h1 : i < (g.length : Int)) : gAt (dualRaw g) (i + g.length) = sNd g.length (gAt g i):=by
 have hi : i.toNat < g.length:=by omega
 unfold gAt dualRaw
 rw [List.getD_eq_getElem?_getD,List.getElem?_append_right (by simp;omega),List.getElem?_map,List.getD_eq_getElem?_getD,List.length_map,show (i + (g.length : Int)).toNat - g.length = i.toNat by omega,List.getElem?_eq_getElem hi]
 rfl
theorem obs_second {g : List Nd} (hg : ∀ n ∈ g,NdG g.length n) : ∀ (m : Nat) (i : Int),0 ≤ i → i < (g.length : Int) → obs (dualRaw g) m (i + g.length) = obs g m i
 | 0,_,_,_=>rfl
 | m + 1,i,h0,h1=>by
  rw [obs,obs,gAt_d2 h0 h1]
  simp only [sNd,List.map_map]
  congr 1
  apply List.map_congr_left
  intro t ht
  have:=(hg _ (gAt_mem h0 h1)).ok.r t ht
  exact obs_second hg m t this.1 this.2
theorem obs_dual {g : List Nd} (hg : ∀ n ∈ g,NdG g.length n) : ∀ (m : Nat) (i : Int),0 ≤ i → i < (g.length : Int) → obs (dualRaw g) m i = dT m (obs g m i)
 | 0,_,_,_=>rfl
 | m + 1,i,h0,h1=>by
  rw [obs,obs,gAt_d1 h0 h1]
  have hr:=(hg _ (gAt_mem h0 h1)).ok.r
  simp only [dNd,dT]
  generalize (gAt g i).to = to at *
  have key : ∀ l : List Int,(∀ t ∈ l,0 ≤ t ∧ t < (g.length : Int)) → l.map (obs (dualRaw g) m) = (l.map (obs g m)).map (dT m):=fun l hl=>by
   rw [List.map_map]
   exact List.map_congr_left fun t ht=>obs_dual hg m t (hl t ht).1 (hl t ht).2
  congr 1
  split
  · cases to with
    | nil=>rfl
    | cons t to =>
     have ht:=hr t (by simp)
     simp only [addHd,List.map_cons,List.take_succ_cons,List.take_zero,List.drop_succ_cons,List.drop_zero,List.cons_append,List.nil_append]
     rw [obs_second hg m t ht.1 ht.2,key to fun x hx=>hr x (by simp [hx])]
  · exact key to hr
theorem dual_good {g : List Nd} (hg : ∀ n ∈ g,NdG g.length n) (hs : ShG g) : (∀ n ∈ dualRaw g,NdG (dualRaw g).length n) ∧ ShG (dualRaw g):=by
 have hl:=dualRaw_len g
 have ahl : ∀ (to : List Int),(addHd g.length to).length = to.length:=fun to=>by cases to <;> rfl
 have dl : ∀ x : Nd,(dNd g.length x).to.length = x.to.length:=fun x=>by unfold dNd;simp only;split <;> simp [ahl]
 have dk : ∀ x ∈ g,shp (dKind x.k) x.so x.ls x.to.length:=fun x hx=>by
  unfold dKind
  rcases hs x hx with ⟨ek,es⟩ | ⟨ek,es⟩ | ⟨ek,es⟩ | ⟨ek,es⟩
  · exact .inl ⟨by rw [if_neg (by omega),if_neg (by omega)];exact ek,es⟩
  · exact .inr (.inl ⟨by split <;> (try split) <;> omega,es⟩)
  · exact .inr (.inr (.inl ⟨by split <;> (try split) <;> omega,es⟩))
  · exact .inr (.inr (.inr ⟨by split <;> (try split) <;> omega,es⟩))
 have shNd : ∀ x : Nd,shp x.k x.so x.ls x.to.length → NdSh x:=fun x h=>by
  rcases h with ⟨ek,es,el,em⟩ | ⟨ek,es,el,em⟩ | ⟨ek,es,el,em⟩ | ⟨ek,es,el,em⟩
  · exact ⟨fun h=>by omega,fun h=>by omega,by rw [el];simp,by rw [el];simp⟩
  · exact ⟨fun h=>by omega,fun h=>by omega,by rw [el];simp,by rw [el];simp⟩
  · exact ⟨fun h=>by omega,fun h=>by omega,by rw [el];simp,by rw [el];simp⟩
  · exact ⟨fun h=>by omega,fun h=>by omega,by omega,labels_len el⟩
 have kr : ∀ {k so : Int} {ls : List ByteArray} {m : Nat},shp k so ls m → 0 ≤ k ∧ k < 100:=fun h=>by
  rcases h with ⟨ek, -⟩ | ⟨ek, -⟩ | ⟨ek, -⟩ | ⟨ek, -⟩ <;> omega
 constructor
 · intro n hn
   rw [hl]
   rcases List.mem_append.1 hn with hn | hn
   · obtain ⟨x,hx,rfl⟩:=List.mem_map.1 hn
     have gx:=hg x hx
     have sx : shp (dNd g.length x).k (dNd g.length x).so (dNd g.length x).ls (dNd g.length x).to.length:=by rw [dl];exact dk x hx
     refine ⟨⟨kr sx,gx.ok.so,gx.ok.ls,gx.ok.lb,by rw [dl];exact gx.ok.to,fun t ht=>?_⟩,shNd _ sx,gx.nm⟩
     have hr:=gx.ok.r
     unfold dNd at ht
     simp only at ht
     generalize x.to = to at *
     split at ht
     · cases to with
       | nil=>cases ht
       | cons a to =>
        rcases List.mem_cons.1 ht with rfl | ht
        · have:=hr a (by simp);omega
        · have:=hr t (by simp [ht]);omega
     · have:=hr t ht;omega
   · obtain ⟨x,hx,rfl⟩:=List.mem_map.1 hn
     have gx:=hg x hx
     have sx : shp (sNd g.length x).k (sNd g.length x).so (sNd g.length x).ls (sNd g.length x).to.length:=by simp only [sNd,List.length_map];exact hs x hx
     refine ⟨⟨kr sx,gx.ok.so,gx.ok.ls,gx.ok.lb,by simp only [sNd,List.length_map];exact gx.ok.to,fun t ht=>?_⟩,shNd _ sx,gx.nm⟩
     obtain ⟨u,hu,rfl⟩:=List.mem_map.1 ht
     have:=gx.ok.r u hu
     omega
 · intro n hn
   rcases List.mem_append.1 hn with hn | hn
   · obtain ⟨x,hx,rfl⟩:=List.mem_map.1 hn
     rw [dl];exact dk x hx
   · obtain ⟨x,hx,rfl⟩:=List.mem_map.1 hn
     simp only [sNd,List.length_map];exact hs x hx
end Go.Proofs.YtgecnlcbdbaneaaDoor
/- Texts in order, each once: plain. -/
namespace Go.Proofs.YtgecnlcbdbaneaaDoor
open Go.RowKit Go.Sw

theorem compact_in {α : Type} [Inhabited α] [DecidableEq α] {zs : List α} {x : α} : x ∈ Lib.compact zs ↔ x ∈ zs:=by
 unfold Lib.compact Lib.compactUpTo
 constructor
 · intro h
   obtain ⟨j,hj,rfl⟩:=List.mem_map.1 h
   have:=List.mem_range.1 (List.mem_filter.1 hj).1
   simp [this]
 · intro h
   obtain ⟨i,hi,rfl⟩:=List.getElem_of_mem h
   have key : ∀ j,j < zs.length → zs.toArray[j]! ∈ ((List.range zs.length).filter (Lib.keeps zs.toArray)).map (zs.toArray[·]!):=by
    intro j
    induction j with
    | zero=>intro hj;exact List.mem_map.2 ⟨0,List.mem_filter.2 ⟨List.mem_range.2 hj,by simp [Lib.keeps]⟩,rfl⟩
    | succ j ih =>
     intro hj
     by_cases hk : Lib.keeps zs.toArray (j + 1) = true
     · exact List.mem_map.2 ⟨j + 1,List.mem_filter.2 ⟨List.mem_range.2 hj,hk⟩,rfl⟩
     · have he : zs.toArray[j + 1]! = zs.toArray[j]! := by
        by_cases he : zs.toArray[j + 1]! = zs.toArray[j]!
        · exact he
        · exact absurd (Lib.keeps_pos (m:=j + 1) (by simpa using he)) hk
       rw [he]
       exact ih (by omega)
   have:=key i hi
   simpa [hi] using this
theorem compact_len {α : Type} [Inhabited α] [DecidableEq α] (zs : List α) : (Lib.compact zs).length ≤ zs.length:=by
 unfold Lib.compact Lib.compactUpTo
 rw [List.length_map]
 exact Nat.le_trans (List.length_filter_le _ _) (by simp)
def bytesL (L : List ByteArray) : List (List UInt8):=L.map fun s=>s.data.toList
def packL (ss : List (List UInt8)) : List ByteArray:=ss.map fun l=>⟨l.toArray⟩
theorem pack_bytes (L : List ByteArray) : packL (bytesL L) = L:=by
 unfold packL bytesL
 rw [List.map_map]
 conv=>rhs;rw [← List.map_id L]
 apply List.map_congr_left
 intro s _
 rfl
theorem bytes_pack (ss : List (List UInt8)) : bytesL (packL ss) = ss:=by
 unfold packL bytesL
 rw [List.map_map]
 conv=>rhs;rw [← List.map_id ss]
 apply List.map_congr_left
 intro s _
 simp
def sortS (L : List ByteArray) : List ByteArray:=packL ((bytesL L).mergeSort fun x y=>decide (x ≤ y))
def compS (L : List ByteArray) : List ByteArray:=packL (Lib.compact (bytesL L))
theorem sortS_len (L : List ByteArray) : (sortS L).length = L.length:=by simp [sortS,packL,bytesL]
theorem compS_len (L : List ByteArray) : (compS L).length ≤ L.length:=by
 have:=compact_len (bytesL L)
 simp only [compS,packL,List.length_map]
 simpa [bytesL] using this
theorem sortS_mem (L : List ByteArray) (s : ByteArray) : s ∈ sortS L ↔ s ∈ L:=by
 have h : s ∈ packL (bytesL L) ↔ s ∈ sortS L:=by
  unfold sortS packL
  simp only [List.mem_map]
  constructor
  · rintro ⟨l,h,rfl⟩;exact ⟨l,(List.mergeSort_perm _ _).mem_iff.2 h,rfl⟩
  · rintro ⟨l,h,rfl⟩;exact ⟨l,(List.mergeSort_perm _ _).mem_iff.1 h,rfl⟩
 rw [pack_bytes] at h
 exact h.symm
theorem compS_mem (L : List ByteArray) (s : ByteArray) : s ∈ compS L ↔ s ∈ L:=by
 have h : s ∈ packL (bytesL L) ↔ s ∈ compS L:=by
  unfold compS packL
  simp only [List.mem_map]
  constructor
  · rintro ⟨l,h,rfl⟩;exact ⟨l,compact_in.2 h,rfl⟩
  · rintro ⟨l,h,rfl⟩;exact ⟨l,compact_in.1 h,rfl⟩
 rw [pack_bytes] at h
 exact h.symm

theorem compact_nodup (ss : List (List UInt8)) (h : ss.Pairwise (· ≤ ·)) : (Lib.compact ss).Nodup:=by
 unfold Lib.compact Lib.compactUpTo List.Nodup
 rw [List.pairwise_map]
 have h1 : ((List.range ss.length).filter (Lib.keeps ss.toArray)).Pairwise (· < ·):=List.Pairwise.filter _ List.pairwise_lt_range
 refine List.Pairwise.imp_of_mem ?_ h1
 intro i j hi hj hlt he
 have hj2:=(List.mem_filter.1 hj).2
 have hjl:=List.mem_range.1 (List.mem_filter.1 hj).1
 have hk : ss.toArray[j]! ≠ ss.toArray[j - 1]! := by
  intro hq
  unfold Lib.keeps at hj2
  simp [hq] at hj2
  omega
 have hp:=List.pairwise_iff_getElem.1 h
 have e1 : ss.toArray[i]! = ss[i]:=by simp [show i < ss.length by omega]
 have e2 : ss.toArray[j]! = ss[j]:=by simp [hjl]
 have e3 : ss.toArray[j - 1]! = ss[j - 1]:=by simp [show j - 1 < ss.length by omega]
 rw [e1,e2] at he
 rw [e2,e3] at hk
 have g1 : ss[j - 1] ≤ ss[j]:=hp (j - 1) j (by omega) hjl (by omega)
 have g2 : ss[j] ≤ ss[j - 1]:=by
  rw [← he]
  by_cases hij : i = j - 1
  · subst hij;exact List.le_refl _
  · exact hp i (j - 1) (by omega) (by omega) (by omega)
 exact hk (List.le_antisymm g2 g1)
theorem sort_sorted (ss : List (List UInt8)) : (ss.mergeSort fun x y=>decide (x ≤ y)).Pairwise (· ≤ ·):=by
 have:=List.pairwise_mergeSort (le:=fun x y : List UInt8=>decide (x ≤ y)) (fun a b c h1 h2=>by simp at h1 h2 ⊢;exact List.le_trans h1 h2) (fun a b=>by simp;exact List.le_total a b) ss
 exact this.imp (fun h=>by simpa using h)
theorem nodup_len {α : Type} [DecidableEq α] : ∀ (l m : List α),l.Nodup → (∀ x ∈ l,x ∈ m) → l.length ≤ m.length
 | [],m,_,_=>Nat.zero_le _
 | x :: l,m,h,hs=>by
  have hx:=hs x (by simp)
  have h2:=List.nodup_cons.1 h
  have:=nodup_len l (m.erase x) h2.2 (fun y hy=>(List.mem_erase_of_ne (fun e=>h2.1 (by rw [← e];exact hy))).2 (hs y (by simp [hy])))
  rw [List.length_erase_of_mem hx] at this
  have:=List.length_pos_of_mem hx
  simp only [List.length_cons];omega
theorem compact_sorted (ss : List (List UInt8)) (h : ss.Pairwise (· ≤ ·)) : (Lib.compact ss).Pairwise (· ≤ ·):=by
 unfold Lib.compact Lib.compactUpTo
 rw [List.pairwise_map]
 have h1 : ((List.range ss.length).filter (Lib.keeps ss.toArray)).Pairwise (· < ·):=List.Pairwise.filter _ List.pairwise_lt_range
 refine List.Pairwise.imp_of_mem ?_ h1
 intro i j hi hj hlt
 have hjl:=List.mem_range.1 (List.mem_filter.1 hj).1
 have hp:=List.pairwise_iff_getElem.1 h
 have e1 : ss.toArray[i]! = ss[i]:=by simp [show i < ss.length by omega]
 have e2 : ss.toArray[j]! = ss[j]:=by simp [hjl]
 rw [e1,e2]
 exact hp i j (by omega) hjl hlt
theorem less_lt : ∀ a b : List UInt8,Op.bytesLess a b = true → a < b
 | _,[],h=>by simp [Op.bytesLess] at h
 | [],_ :: _,_=>by simp
 | x :: a,y :: b,h=>by
  simp only [Op.bytesLess,Bool.or_eq_true,decide_eq_true_iff,Bool.and_eq_true,beq_iff_eq] at h
  rcases h with h | ⟨rfl,h⟩
  · exact List.Lex.rel h
  · exact List.Lex.cons (less_lt a b h)
theorem le_less {a b : List UInt8} (h : a ≤ b) (hne : a ≠ b) : Op.bytesLess a b = true:=by
 rcases less_total a b with h1 | h1 | h1
 · exact h1
 · exact absurd h1 hne
 · exact absurd (less_lt b a h1) (List.not_lt.2 h)
def uniL (x y : List ByteArray) : List ByteArray:=compS (sortS (x ++ y))
def intL (x y : List ByteArray) : List ByteArray:=x.filter fun s=>inL y s
theorem uni_mem {x y : List ByteArray} {s : ByteArray} : s ∈ uniL x y ↔ s ∈ x ∨ s ∈ y:=by
 unfold uniL
 rw [compS_mem,sortS_mem,List.mem_append]
theorem int_mem {x y : List ByteArray} {s : ByteArray} : s ∈ intL x y ↔ s ∈ x ∧ s ∈ y:=by
 unfold intL
 rw [List.mem_filter,inL_iff]
theorem uni_sort (x y : List ByteArray) : (uniL x y).Pairwise ltB:=by
 unfold uniL compS sortS
 rw [bytes_pack]
 unfold packL
 rw [List.pairwise_map]
 have h1:=compact_sorted _ (sort_sorted (bytesL (x ++ y)))
 have h2:=compact_nodup _ (sort_sorted (bytesL (x ++ y)))
 refine List.Pairwise.imp₂ (fun a b hle hne=>?_) h1 h2
 unfold ltB
 rw [Lib.toList_data,Lib.toList_data]
 exact le_less hle hne
theorem int_sort {x y : List ByteArray} (h : x.Pairwise ltB) : (intL x y).Pairwise ltB:=h.filter _
theorem labGo_of : ∀ (l : List ByteArray) (p : ByteArray),(∀ x ∈ l,isNameB x = true) → (∀ x ∈ l,ltB p x) → l.Pairwise ltB → labGo p l = true
 | [],_,_,_,_=>rfl
 | s :: l,p,hn,hp,hs=>by
  unfold labGo
  rw [List.pairwise_cons] at hs
  have ih:=labGo_of l s (fun x hx=>hn x (by simp [hx])) hs.1 hs.2
  have h1:=hn s (by simp)
  have h2:=hp s (by simp)
  have h3 : leB s p = false:=by
   unfold leB
   unfold ltB at h2
   have a : Op.bytesLess s.toList p.toList = false:=by
    cases e : Op.bytesLess s.toList p.toList with
    | false=>rfl
    | true=>exact absurd (less_trans _ _ _ e h2) (by rw [less_irr];decide)
   have b : (s.toList == p.toList) = false:=by
    rw [beq_eq_false_iff_ne]
    intro e
    rw [e,less_irr] at h2
    cases h2
   rw [a,b];rfl
  simp [h1,h3,ih]
theorem labels_of {l : List ByteArray} (h1 : 1 ≤ l.length) (h6 : l.length ≤ 6) (hn : ∀ x ∈ l,isNameB x = true) (hs : l.Pairwise ltB) : labelsB l = true:=by
 unfold labelsB
 rw [if_neg (by omega),if_neg (by omega)]
 cases l with
 | nil=>simp at h1
 | cons s l =>
  rw [List.pairwise_cons] at hs
  have:=labGo_of l s (fun x hx=>hn x (by simp [hx])) hs.1 hs.2
  unfold labAll
  simp [hn s (by simp),this]
end Go.Proofs.YtgecnlcbdbaneaaDoor
