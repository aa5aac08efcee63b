/- Arguments that are types, and no longer than a machine holds. -/
import Derived.Test.YtgecnlcbdbaneaaDoorU6
import Derived.Test.YtgecnlcbdbaneaaDoorH21
import Derived.Test.YtgecnlcbdbaneaaDoorHQ4
import Derived.Lib.SlicesCompact
import Derived.Test.YtgecnlcbdbaneaaDoorHP5
-- TYPESA
set_option linter.unusedVariables false
set_option linter.unusedSimpArgs false
namespace Go.Proofs.YtgecnlcbdbaneaaDoor
open Go.RowKit Go.Sw

theorem reach_47 : reachBytes ≤ 140737488355328:=by unfold reachBytes;omega
set_option maxRecDepth 100000 in
theorem tyStrsZ {m : Nat} {ds : List D} (h : Ty Tryd.prog m 22 ds) : ∃ ls : List ByteArray,ds = [.slc (ls.map sD)] ∧ ls.length ≤ reachBytes ∧ ∀ x ∈ ls,x.size ≤ reachBytes:=by
 obtain ⟨L,m2,hm2,rfl,hb,hx⟩:=ty_slc un22 h
 obtain ⟨ls,rfl,hls⟩:=map_of (f:=sD) (p:=fun y=>y.size ≤ reachBytes) (L:=L) fun x hm=>by
  obtain ⟨xs,h6,rfl⟩:=hx x hm
  obtain ⟨y,rfl,hy⟩:=ty_str un9 h6
  exact ⟨y,mkD_one (by simp [un9]) _,hy⟩
 refine ⟨ls,rfl,?_,hls⟩
 rw [List.length_map,show Tryd.prog.bytesOf 9 = 16 by kernel_rfl] at hb
 omega
set_option maxRecDepth 100000 in
theorem tyTZ : ∀ (m : Nat) {ds : List D},Ty Tryd.prog m 25 ds → ∃ x : Tp,D.agg ds = x.d ∧ szT x
 | 0,ds,h=>h.elim
 | m + 1,ds,h=>by
  obtain ⟨m',hm,a,b,rfl,h1,a2,b2,rfl,h2,a3,b3,rfl,h3,a4,b4,rfl,h4,a5,b5,rfl,h5,rfl⟩:=ty_struct Tryd.underlying25 h
  obtain rfl : m' = m:=by omega
  obtain ⟨k,rfl, -⟩:=ty_int un3 h1
  obtain ⟨so,rfl, -⟩:=ty_int un3 h2
  obtain ⟨nm,rfl,hnm⟩:=ty_str un9 h3
  obtain ⟨ls,rfl,hl1,hl2⟩:=tyStrsZ h4
  obtain ⟨L2,m3,hm3,rfl,hb,hx2⟩:=ty_slc un23 h5
  obtain ⟨l,rfl,hl⟩:=map_of (f:=Tp.d) (p:=szT) (L:=L2) fun x hm=>by
   obtain ⟨xs,h8,rfl⟩:=hx2 x hm
   subst hm3
   obtain ⟨y,h9,h10⟩:=tyTZ m3 h8
   exact ⟨y,by rw [mkD_struct Tryd.underlying25,h9],h10⟩
  have r:=reach_47
  rw [List.length_map,show Tryd.prog.bytesOf 25 = 80 by kernel_rfl] at hb
  refine ⟨.mk k so nm ls l,by rw [← tds_map];simp only [Tp.d,List.append_nil,List.cons_append,List.nil_append],⟨by omega,by omega,fun x hx=>by have:=hl2 x hx;omega,by omega⟩,szTs_of hl⟩
section
variable {H : Type} {enc : TypeId × Value → H} {W : World} {r : Reach} {base b0 : Nat} {sp : Nat → Bool} {held : Bool} {v : Value} {d : DataW H} {p : List MemPlace}
set_option maxRecDepth 100000 in
theorem openZ25 (hv : Value.okWide Tryd.prog W r base 25 v) (h : DataW.Trod enc Tryd.prog W b0 sp held 25 v d p) (hw : (d.weights Tryd.prog 25).all (· ≤ reachBytes) = true) : ∃ x : Tp,RpD W M0 (.d x.d v) ∧ szT x:=by
 obtain ⟨m,xs,h1,h2⟩:=open_top TY_ok (by decide) hv h hw
 rw [mkD_struct Tryd.underlying25] at h2
 obtain ⟨x,h3,h4⟩:=tyTZ m h1
 rw [h3] at h2
 exact ⟨x,h2,h4⟩
end
end Go.Proofs.YtgecnlcbdbaneaaDoor
/- What the other end does, of trees and of graphs. -/
namespace Go.Proofs.YtgecnlcbdbaneaaDoor
open Go.RowKit Go.Sw

def addHd (n : Nat) : List Int → List Int
 | []=>[]
 | t :: l=>(t + n) :: l
def dNd (n : Nat) (x : Nd) : Nd:=⟨dKind x.k,x.so,x.ls,if x.k = 4 ∨ x.k = 5 then addHd n x.to else x.to⟩
def sNd (n : Nat) (x : Nd) : Nd:=⟨x.k,x.so,x.ls,x.to.map fun t=>t + n⟩
def dualRaw (g : List Nd) : List Nd:=g.map (dNd g.length) ++ g.map (sNd g.length)
theorem dualRaw_len (g : List Nd) : (dualRaw g).length = 2 * g.length:=by simp [dualRaw];omega
theorem dual_good {g : List Nd} (hg : ∀ n ∈ g,NdG g.length n) (hs : ShG g) : (∀ n ∈ dualRaw g,NdG (dualRaw g).length n) ∧ ShG (dualRaw g):=by
 have hl:=dualRaw_len g
 have ahl : ∀ (to : List Int),(addHd g.length to).length = to.length:=fun to=>by cases to <;> rfl
 have dl : ∀ x : Nd,(dNd g.length x).to.length = x.to.length:=fun x=>by unfold dNd;simp only;split <;> simp [ahl]
 have dk : ∀ x ∈ g,shp (dKind x.k) x.so x.ls x.to.length:=fun x hx=>by
  unfold dKind
  rcases hs x hx with ⟨ek,es⟩ | ⟨ek,es⟩ | ⟨ek,es⟩ | ⟨ek,es⟩
  · exact .inl ⟨by rw [if_neg (by omega),if_neg (by omega)];exact ek,es⟩
  · exact .inr (.inl ⟨by split <;> (try split) <;> omega,es⟩)
  · exact .inr (.inr (.inl ⟨by split <;> (try split) <;> omega,es⟩))
  · exact .inr (.inr (.inr ⟨by split <;> (try split) <;> omega,es⟩))
 have shNd : ∀ x : Nd,shp x.k x.so x.ls x.to.length → NdSh x:=fun x h=>by
  rcases h with ⟨ek,es,el,em⟩ | ⟨ek,es,el,em⟩ | ⟨ek,es,el,em⟩ | ⟨ek,es,el,em⟩
  · exact ⟨fun h=>by omega,fun h=>by omega,by rw [el];simp,by rw [el];simp⟩
  · exact ⟨fun h=>by omega,fun h=>by omega,by rw [el];simp,by rw [el];simp⟩
  · exact ⟨fun h=>by omega,fun h=>by omega,by rw [el];simp,by rw [el];simp⟩
  · exact ⟨fun h=>by omega,fun h=>by omega,by omega,labels_len el⟩
 have kr : ∀ {k so : Int} {ls : List ByteArray} {m : Nat},shp k so ls m → 0 ≤ k ∧ k < 100:=fun h=>by
  rcases h with ⟨ek, -⟩ | ⟨ek, -⟩ | ⟨ek, -⟩ | ⟨ek, -⟩ <;> omega
 constructor
 · intro n hn
   rw [hl]
   rcases List.mem_append.1 hn with hn | hn
   · obtain ⟨x,hx,rfl⟩:=List.mem_map.1 hn
     have gx:=hg x hx
     have sx : shp (dNd g.length x).k (dNd g.length x).so (dNd g.length x).ls (dNd g.length x).to.length:=by rw [dl];exact dk x hx
     refine ⟨⟨kr sx,gx.ok.so,gx.ok.ls,gx.ok.lb,by rw [dl];exact gx.ok.to,fun t ht=>?_⟩,shNd _ sx,gx.nm⟩
     have hr:=gx.ok.r
     unfold dNd at ht
     simp only at ht
     generalize x.to = to at *
     split at ht
     · cases to with
       | nil=>cases ht
       | cons a to =>
        rcases List.mem_cons.1 ht with rfl | ht
        · have:=hr a (by simp);omega
        · have:=hr t (by simp [ht]);omega
     · have:=hr t ht;omega
   · obtain ⟨x,hx,rfl⟩:=List.mem_map.1 hn
     have gx:=hg x hx
     have sx : shp (sNd g.length x).k (sNd g.length x).so (sNd g.length x).ls (sNd g.length x).to.length:=by simp only [sNd,List.length_map];exact hs x hx
     refine ⟨⟨kr sx,gx.ok.so,gx.ok.ls,gx.ok.lb,by simp only [sNd,List.length_map];exact gx.ok.to,fun t ht=>?_⟩,shNd _ sx,gx.nm⟩
     obtain ⟨u,hu,rfl⟩:=List.mem_map.1 ht
     have:=gx.ok.r u hu
     omega
 · intro n hn
   rcases List.mem_append.1 hn with hn | hn
   · obtain ⟨x,hx,rfl⟩:=List.mem_map.1 hn
     rw [dl];exact dk x hx
   · obtain ⟨x,hx,rfl⟩:=List.mem_map.1 hn
     simp only [sNd,List.length_map];exact hs x hx
end Go.Proofs.YtgecnlcbdbaneaaDoor
/- Texts in order, each once: plain. -/
namespace Go.Proofs.YtgecnlcbdbaneaaDoor
open Go.RowKit Go.Sw

theorem compact_in {α : Type} [Inhabited α] [DecidableEq α] {zs : List α} {x : α} : x ∈ Lib.compact zs ↔ x ∈ zs:=by
 unfold Lib.compact Lib.compactUpTo
 constructor
 · intro h
   obtain ⟨j,hj,rfl⟩:=List.mem_map.1 h
   have:=List.mem_range.1 (List.mem_filter.1 hj).1
   simp [this]
 · intro h
   obtain ⟨i,hi,rfl⟩:=List.getElem_of_mem h
   have key : ∀ j,j < zs.length → zs.toArray[j]! ∈ ((List.range zs.length).filter (Lib.keeps zs.toArray)).map (zs.toArray[·]!):=by
    intro j
    induction j with
    | zero=>intro hj;exact List.mem_map.2 ⟨0,List.mem_filter.2 ⟨List.mem_range.2 hj,by simp [Lib.keeps]⟩,rfl⟩
    | succ j ih =>
     intro hj
     by_cases hk : Lib.keeps zs.toArray (j + 1) = true
     · exact List.mem_map.2 ⟨j + 1,List.mem_filter.2 ⟨List.mem_range.2 hj,hk⟩,rfl⟩
     · have he : zs.toArray[j + 1]! = zs.toArray[j]! := by
        by_cases he : zs.toArray[j + 1]! = zs.toArray[j]!
        · exact he
        · exact absurd (Lib.keeps_pos (m:=j + 1) (by simpa using he)) hk
       rw [he]
       exact ih (by omega)
   have:=key i hi
   simpa [hi] using this
theorem compact_len {α : Type} [Inhabited α] [DecidableEq α] (zs : List α) : (Lib.compact zs).length ≤ zs.length:=by
 unfold Lib.compact Lib.compactUpTo
 rw [List.length_map]
 exact Nat.le_trans (List.length_filter_le _ _) (by simp)
def bytesL (L : List ByteArray) : List (List UInt8):=L.map fun s=>s.data.toList
def packL (ss : List (List UInt8)) : List ByteArray:=ss.map fun l=>⟨l.toArray⟩
theorem pack_bytes (L : List ByteArray) : packL (bytesL L) = L:=by
 unfold packL bytesL
 rw [List.map_map]
 conv=>rhs;rw [← List.map_id L]
 apply List.map_congr_left
 intro s _
 rfl
theorem bytes_pack (ss : List (List UInt8)) : bytesL (packL ss) = ss:=by
 unfold packL bytesL
 rw [List.map_map]
 conv=>rhs;rw [← List.map_id ss]
 apply List.map_congr_left
 intro s _
 simp
def sortS (L : List ByteArray) : List ByteArray:=packL ((bytesL L).mergeSort fun x y=>decide (x ≤ y))
def compS (L : List ByteArray) : List ByteArray:=packL (Lib.compact (bytesL L))
theorem sortS_len (L : List ByteArray) : (sortS L).length = L.length:=by simp [sortS,packL,bytesL]
theorem compS_len (L : List ByteArray) : (compS L).length ≤ L.length:=by
 have:=compact_len (bytesL L)
 simp only [compS,packL,List.length_map]
 simpa [bytesL] using this
theorem sortS_mem (L : List ByteArray) (s : ByteArray) : s ∈ sortS L ↔ s ∈ L:=by
 have h : s ∈ packL (bytesL L) ↔ s ∈ sortS L:=by
  unfold sortS packL
  simp only [List.mem_map]
  constructor
  · rintro ⟨l,h,rfl⟩;exact ⟨l,(List.mergeSort_perm _ _).mem_iff.2 h,rfl⟩
  · rintro ⟨l,h,rfl⟩;exact ⟨l,(List.mergeSort_perm _ _).mem_iff.1 h,rfl⟩
 rw [pack_bytes] at h
 exact h.symm
theorem compS_mem (L : List ByteArray) (s : ByteArray) : s ∈ compS L ↔ s ∈ L:=by
 have h : s ∈ packL (bytesL L) ↔ s ∈ compS L:=by
  unfold compS packL
  simp only [List.mem_map]
  constructor
  · rintro ⟨l,h,rfl⟩;exact ⟨l,compact_in.2 h,rfl⟩
  · rintro ⟨l,h,rfl⟩;exact ⟨l,compact_in.1 h,rfl⟩
 rw [pack_bytes] at h
 exact h.symm

theorem compact_nodup (ss : List (List UInt8)) (h : ss.Pairwise (· ≤ ·)) : (Lib.compact ss).Nodup:=by
 unfold Lib.compact Lib.compactUpTo List.Nodup
 rw [List.pairwise_map]
 have h1 : ((List.range ss.length).filter (Lib.keeps ss.toArray)).Pairwise (· < ·):=List.Pairwise.filter _ List.pairwise_lt_range
 refine List.Pairwise.imp_of_mem ?_ h1
 intro i j hi hj hlt he
 have hj2:=(List.mem_filter.1 hj).2
 have hjl:=List.mem_range.1 (List.mem_filter.1 hj).1
 have hk : ss.toArray[j]! ≠ ss.toArray[j - 1]! := by
  intro hq
  unfold Lib.keeps at hj2
  simp [hq] at hj2
  omega
 have hp:=List.pairwise_iff_getElem.1 h
 have e1 : ss.toArray[i]! = ss[i]:=by simp [show i < ss.length by omega]
 have e2 : ss.toArray[j]! = ss[j]:=by simp [hjl]
 have e3 : ss.toArray[j - 1]! = ss[j - 1]:=by simp [show j - 1 < ss.length by omega]
 rw [e1,e2] at he
 rw [e2,e3] at hk
 have g1 : ss[j - 1] ≤ ss[j]:=hp (j - 1) j (by omega) hjl (by omega)
 have g2 : ss[j] ≤ ss[j - 1]:=by
  rw [← he]
  by_cases hij : i = j - 1
  · subst hij;exact List.le_refl _
  · exact hp i (j - 1) (by omega) (by omega) (by omega)
 exact hk (List.le_antisymm g2 g1)
theorem sort_sorted (ss : List (List UInt8)) : (ss.mergeSort fun x y=>decide (x ≤ y)).Pairwise (· ≤ ·):=by
 have:=List.pairwise_mergeSort (le:=fun x y : List UInt8=>decide (x ≤ y)) (fun a b c h1 h2=>by simp at h1 h2 ⊢;exact List.le_trans h1 h2) (fun a b=>by simp;exact List.le_total a b) ss
 exact this.imp (fun h=>by simpa using h)
theorem nodup_len {α : Type} [DecidableEq α] : ∀ (l m : List α),l.Nodup → (∀ x ∈ l,x ∈ m) → l.length ≤ m.length
 | [],m,_,_=>Nat.zero_le _
 | x :: l,m,h,hs=>by
  have hx:=hs x (by simp)
  have h2:=List.nodup_cons.1 h
  have:=nodup_len l (m.erase x) h2.2 (fun y hy=>(List.mem_erase_of_ne (fun e=>h2.1 (by rw [← e];exact hy))).2 (hs y (by simp [hy])))
  rw [List.length_erase_of_mem hx] at this
  have:=List.length_pos_of_mem hx
  simp only [List.length_cons];omega
theorem compact_sorted (ss : List (List UInt8)) (h : ss.Pairwise (· ≤ ·)) : (Lib.compact ss).Pairwise (· ≤ ·):=by
 unfold Lib.compact Lib.compactUpTo
 rw [List.pairwise_map]
 have h1 : ((List.range ss.length).filter (Lib.keeps ss.toArray)).Pairwise (· < ·):=List.Pairwise.filter _ List.pairwise_lt_range
 refine List.Pairwise.imp_of_mem ?_ h1
 intro i j hi hj hlt
 have hjl:=List.mem_range.1 (List.mem_filter.1 hj).1
 have hp:=List.pairwise_iff_getElem.1 h
 have e1 : ss.toArray[i]! = ss[i]:=by simp [show i < ss.length by omega]
 have e2 : ss.toArray[j]! = ss[j]:=by simp [hjl]
 rw [e1,e2]
 exact hp i j (by omega) hjl hlt
theorem less_lt : ∀ a b : List UInt8,Op.bytesLess a b = true → a < b
 | _,[],h=>by simp [Op.bytesLess] at h
 | [],_ :: _,_=>by simp
 | x :: a,y :: b,h=>by
  simp only [Op.bytesLess,Bool.or_eq_true,decide_eq_true_iff,Bool.and_eq_true,beq_iff_eq] at h
  rcases h with h | ⟨rfl,h⟩
  · exact List.Lex.rel h
  · exact List.Lex.cons (less_lt a b h)
theorem le_less {a b : List UInt8} (h : a ≤ b) (hne : a ≠ b) : Op.bytesLess a b = true:=by
 rcases less_total a b with h1 | h1 | h1
 · exact h1
 · exact absurd h1 hne
 · exact absurd (less_lt b a h1) (List.not_lt.2 h)
def uniL (x y : List ByteArray) : List ByteArray:=compS (sortS (x ++ y))
def intL (x y : List ByteArray) : List ByteArray:=x.filter fun s=>inL y s
theorem uni_mem {x y : List ByteArray} {s : ByteArray} : s ∈ uniL x y ↔ s ∈ x ∨ s ∈ y:=by
 unfold uniL
 rw [compS_mem,sortS_mem,List.mem_append]
theorem int_mem {x y : List ByteArray} {s : ByteArray} : s ∈ intL x y ↔ s ∈ x ∧ s ∈ y:=by
 unfold intL
 rw [List.mem_filter,inL_iff]
theorem uni_sort (x y : List ByteArray) : (uniL x y).Pairwise ltB:=by
 unfold uniL compS sortS
 rw [bytes_pack]
 unfold packL
 rw [List.pairwise_map]
 have h1:=compact_sorted _ (sort_sorted (bytesL (x ++ y)))
 have h2:=compact_nodup _ (sort_sorted (bytesL (x ++ y)))
 refine List.Pairwise.imp₂ (fun a b hle hne=>?_) h1 h2
 unfold ltB
 rw [Lib.toList_data,Lib.toList_data]
 exact le_less hle hne
theorem int_sort {x y : List ByteArray} (h : x.Pairwise ltB) : (intL x y).Pairwise ltB:=h.filter _
theorem labGo_of : ∀ (l : List ByteArray) (p : ByteArray),(∀ x ∈ l,isNameB x = true) → (∀ x ∈ l,ltB p x) → l.Pairwise ltB → labGo p l = true
 | [],_,_,_,_=>rfl
 | s :: l,p,hn,hp,hs=>by
  unfold labGo
  rw [List.pairwise_cons] at hs
  have ih:=labGo_of l s (fun x hx=>hn x (by simp [hx])) hs.1 hs.2
  have h1:=hn s (by simp)
  have h2:=hp s (by simp)
  have h3 : leB s p = false:=by
   unfold leB
   unfold ltB at h2
   have a : Op.bytesLess s.toList p.toList = false:=by
    cases e : Op.bytesLess s.toList p.toList with
    | false=>rfl
    | true=>exact absurd (less_trans _ _ _ e h2) (by rw [less_irr];decide)
   have b : (s.toList == p.toList) = false:=by
    rw [beq_eq_false_iff_ne]
    intro e
    rw [e,less_irr] at h2
    cases h2
   rw [a,b];rfl
  simp [h1,h3,ih]
theorem labels_of {l : List ByteArray} (h1 : 1 ≤ l.length) (h6 : l.length ≤ 6) (hn : ∀ x ∈ l,isNameB x = true) (hs : l.Pairwise ltB) : labelsB l = true:=by
 unfold labelsB
 rw [if_neg (by omega),if_neg (by omega)]
 cases l with
 | nil=>simp at h1
 | cons s l =>
  rw [List.pairwise_cons] at hs
  have:=labGo_of l s (fun x hx=>hn x (by simp [hx])) hs.1 hs.2
  unfold labAll
  simp [hn s (by simp),this]
end Go.Proofs.YtgecnlcbdbaneaaDoor
/- Graphs that are right. -/
namespace Go.Proofs.YtgecnlcbdbaneaaDoor
open Go.RowKit Go.Sw

def endT : Tp:=.mk 1 0 noB [] []
theorem least_sh {g : List Nd} (hg : ∀ n ∈ g,NdG g.length n) (h0 : 0 < g.length) (hs : ShG g) : ShG (leastP g):=by
 obtain ⟨o,a1,a2,a3,a4⟩:=lstF_made (cl:=partedP g) hg (g.length + 1) 0 [0] [] (ord_one h0 _) (by simp) rfl (by omega) (by intro p x v hp;simp at hp)
 intro x hx
 obtain ⟨p,hp,rfl⟩:=List.mem_iff_getElem.1 hx
 have hp' : p < o.length:=by rw [a2];exact hp
 obtain ⟨e1,e2,e3,e4, -⟩:=a4 p _ o[p] (List.getElem?_eq_getElem hp) (List.getElem?_eq_getElem hp')
 have hr:=a1.r o[p] (List.getElem_mem hp')
 have:=hs _ (gAt_mem hr.1 hr.2)
 rw [e1,e2,e3,e4]
 exact this
theorem ofP_sh {x : Tp} (h : tCheck x = 0) : ShG (ofP x):=by
 obtain ⟨-, -, -,h4,h5,h6⟩:=raw_good h
 unfold ofP
 rw [if_pos h]
 exact least_sh (g:=rawP x) h6 h4 (raw_sh h)
structure Gd (g : List Nd) : Prop where
 pos : 0 < g.length
 le : g.length ≤ 200
 ok : ∀ n ∈ g,NdG g.length n
 sh : ShG g
theorem ofP_gd {x : Tp} (h : tCheck x = 0) : Gd (ofP x):=⟨(ofP_good h).1,by have:=(ofP_good h).2.1;omega,(ofP_good h).2.2,ofP_sh h⟩
theorem bErr_of {x y : Tp} (h1 : tCheck x = 0) (h2 : tCheck y = 0) : bErr x y = 0:=by unfold bErr;rw [if_pos h1];exact h2
end Go.Proofs.YtgecnlcbdbaneaaDoor
