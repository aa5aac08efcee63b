/- What the other end does, of trees and of graphs. -/
import Derived.Test.YtdcplkefmpjppaaGreatDoorHQ4
set_option linter.unusedVariables false
set_option linter.unusedSimpArgs false
namespace Go.Proofs.YtdcplkefmpjppaaGreatDoor
open Go.RowKit Go.Sw

theorem dKind_inv (k : Int) : dKind (dKind k) = k:=by
 unfold dKind
 repeat' split
 all_goals omega
def dT : Nat → Tr → Tr
 | 0,t=>t
 | _ + 1,.cut=>.cut
 | n + 1,.nd k so ls l=>.nd (dKind k) so ls (if k = 4 ∨ k = 5 then l.take 1 ++ (l.drop 1).map (dT n) else l.map (dT n))
theorem dT_cut : ∀ n,dT n .cut = .cut
 | 0=>rfl
 | _ + 1=>rfl
def addHd (n : Nat) : List Int → List Int
 | []=>[]
 | t :: l=>(t + n) :: l
def dNd (n : Nat) (x : Nd) : Nd:=⟨dKind x.k,x.so,x.ls,if x.k = 4 ∨ x.k = 5 then addHd n x.to else x.to⟩
def sNd (n : Nat) (x : Nd) : Nd:=⟨x.k,x.so,x.ls,x.to.map fun t=>t + n⟩
def dualRaw (g : List Nd) : List Nd:=g.map (dNd g.length) ++ g.map (sNd g.length)
theorem dualRaw_len (g : List Nd) : (dualRaw g).length = 2 * g.length:=by simp [dualRaw];omega
theorem gAt_d1 {g : List Nd} {i : Int} (h0 : 0 ≤ i) (h1 : i < (g.length : Int)) : gAt (dualRaw g) i = dNd g.length (gAt g i):=by
 have hi : i.toNat < g.length:=by omega
 unfold gAt dualRaw
 rw [List.getD_eq_getElem?_getD,List.getElem?_append_left (by simp;exact hi),List.getElem?_map,List.getD_eq_getElem?_getD,List.getElem?_eq_getElem hi]
 rfl
theorem gAt_d2 {g : List Nd} {i : Int} (h0 : 0 ≤ i) (h1 : i < (g.length : Int)) : gAt (dualRaw g) (i + g.length) = sNd g.length (gAt g i):=by
 have hi : i.toNat < g.length:=by omega
 unfold gAt dualRaw
 rw [List.getD_eq_getElem?_getD,List.getElem?_append_right (by simp;omega),List.getElem?_map,List.getD_eq_getElem?_getD,List.length_map,show (i + (g.length : Int)).toNat - g.length = i.toNat by omega,List.getElem?_eq_getElem hi]
 rfl
theorem obs_second {g : List Nd} (hg : ∀ n ∈ g,NdG g.length n) : ∀ (m : Nat) (i : Int),0 ≤ i → i < (g.length : Int) → obs (dualRaw g) m (i + g.length) = obs g m i
 | 0,_,_,_=>rfl
 | m + 1,i,h0,h1=>by
  rw [obs,obs,gAt_d2 h0 h1]
  simp only [sNd,List.map_map]
  congr 1
  apply List.map_congr_left
  intro t ht
  have:=(hg _ (gAt_mem h0 h1)).ok.r t ht
  exact obs_second hg m t this.1 this.2
theorem obs_dual {g : List Nd} (hg : ∀ n ∈ g,NdG g.length n) : ∀ (m : Nat) (i : Int),0 ≤ i → i < (g.length : Int) → obs (dualRaw g) m i = dT m (obs g m i)
 | 0,_,_,_=>rfl
 | m + 1,i,h0,h1=>by
  rw [obs,obs,gAt_d1 h0 h1]
  have hr:=(hg _ (gAt_mem h0 h1)).ok.r
  simp only [dNd,dT]
  generalize (gAt g i).to = to at *
  have key : ∀ l : List Int,(∀ t ∈ l,0 ≤ t ∧ t < (g.length : Int)) → l.map (obs (dualRaw g) m) = (l.map (obs g m)).map (dT m):=fun l hl=>by
   rw [List.map_map]
   exact List.map_congr_left fun t ht=>obs_dual hg m t (hl t ht).1 (hl t ht).2
  congr 1
  split
  · cases to with
    | nil=>rfl
    | cons t to =>
     have ht:=hr t (by simp)
     simp only [addHd,List.map_cons,List.take_succ_cons,List.take_zero,List.drop_succ_cons,List.drop_zero,List.cons_append,List.nil_append]
     rw [obs_second hg m t ht.1 ht.2,key to fun x hx=>hr x (by simp [hx])]
  · exact key to hr
theorem dual_good {g : List Nd} (hg : ∀ n ∈ g,NdG g.length n) (hs : ShG g) : (∀ n ∈ dualRaw g,NdG (dualRaw g).length n) ∧ ShG (dualRaw g):=by
 have hl:=dualRaw_len g
 have ahl : ∀ (to : List Int),(addHd g.length to).length = to.length:=fun to=>by cases to <;> rfl
 have dl : ∀ x : Nd,(dNd g.length x).to.length = x.to.length:=fun x=>by unfold dNd;simp only;split <;> simp [ahl]
 have dk : ∀ x ∈ g,shp (dKind x.k) x.so x.ls x.to.length:=fun x hx=>by
  unfold dKind
  rcases hs x hx with ⟨ek,es⟩ | ⟨ek,es⟩ | ⟨ek,es⟩ | ⟨ek,es⟩
  · exact .inl ⟨by rw [if_neg (by omega),if_neg (by omega)];exact ek,es⟩
  · exact .inr (.inl ⟨by split <;> (try split) <;> omega,es⟩)
  · exact .inr (.inr (.inl ⟨by split <;> (try split) <;> omega,es⟩))
  · exact .inr (.inr (.inr ⟨by split <;> (try split) <;> omega,es⟩))
 have shNd : ∀ x : Nd,shp x.k x.so x.ls x.to.length → NdSh x:=fun x h=>by
  rcases h with ⟨ek,es,el,em⟩ | ⟨ek,es,el,em⟩ | ⟨ek,es,el,em⟩ | ⟨ek,es,el,em⟩
  · exact ⟨fun h=>by omega,fun h=>by omega,by rw [el];simp,by rw [el];simp⟩
  · exact ⟨fun h=>by omega,fun h=>by omega,by rw [el];simp,by rw [el];simp⟩
  · exact ⟨fun h=>by omega,fun h=>by omega,by rw [el];simp,by rw [el];simp⟩
  · exact ⟨fun h=>by omega,fun h=>by omega,by omega,labels_len el⟩
 have kr : ∀ {k so : Int} {ls : List ByteArray} {m : Nat},shp k so ls m → 0 ≤ k ∧ k < 100:=fun h=>by
  rcases h with ⟨ek, -⟩ | ⟨ek, -⟩ | ⟨ek, -⟩ | ⟨ek, -⟩ <;> omega
 constructor
 · intro n hn
   rw [hl]
   rcases List.mem_append.1 hn with hn | hn
   · obtain ⟨x,hx,rfl⟩:=List.mem_map.1 hn
     have gx:=hg x hx
     have sx : shp (dNd g.length x).k (dNd g.length x).so (dNd g.length x).ls (dNd g.length x).to.length:=by rw [dl];exact dk x hx
     refine ⟨⟨kr sx,gx.ok.so,gx.ok.ls,gx.ok.lb,by rw [dl];exact gx.ok.to,fun t ht=>?_⟩,shNd _ sx,gx.nm⟩
     have hr:=gx.ok.r
     unfold dNd at ht
     simp only at ht
     generalize x.to = to at *
     split at ht
     · cases to with
       | nil=>cases ht
       | cons a to =>
        rcases List.mem_cons.1 ht with rfl | ht
        · have:=hr a (by simp);omega
        · have:=hr t (by simp [ht]);omega
     · have:=hr t ht;omega
   · obtain ⟨x,hx,rfl⟩:=List.mem_map.1 hn
     have gx:=hg x hx
     have sx : shp (sNd g.length x).k (sNd g.length x).so (sNd g.length x).ls (sNd g.length x).to.length:=by simp only [sNd,List.length_map];exact hs x hx
     refine ⟨⟨kr sx,gx.ok.so,gx.ok.ls,gx.ok.lb,by simp only [sNd,List.length_map];exact gx.ok.to,fun t ht=>?_⟩,shNd _ sx,gx.nm⟩
     obtain ⟨u,hu,rfl⟩:=List.mem_map.1 ht
     have:=gx.ok.r u hu
     omega
 · intro n hn
   rcases List.mem_append.1 hn with hn | hn
   · obtain ⟨x,hx,rfl⟩:=List.mem_map.1 hn
     rw [dl];exact dk x hx
   · obtain ⟨x,hx,rfl⟩:=List.mem_map.1 hn
     simp only [sNd,List.length_map];exact hs x hx
end Go.Proofs.YtdcplkefmpjppaaGreatDoor
