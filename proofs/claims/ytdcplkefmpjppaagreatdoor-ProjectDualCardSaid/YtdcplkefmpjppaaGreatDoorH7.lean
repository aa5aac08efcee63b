/- below.both's fits; a symbolic walk. -/
import Derived.Test.YtdcplkefmpjppaaGreatDoorH4
import Derived.Laws.StructEq
import Derived.WideKeyRuns
import Derived.Test.YtdcplkefmpjppaaGreatDoorHP
-- TYPESA
set_option linter.unusedVariables false
set_option linter.unusedSimpArgs false
namespace Go.Proofs.YtdcplkefmpjppaaGreatDoor
open Go.RowKit Go.Sw

abbrev dotS : ByteArray:=⟨#[46]⟩
abbrev hatS : ByteArray:=⟨#[94]⟩
def stD (s : ByteArray × Pr) : D:=.agg [sD s.1,iD s.2.a,iD s.2.b,bD s.2.t]
def ixL (l : ByteArray) (ls : List ByteArray) : Int:=idxS l.toList ls 0
def fewL (x y : Nd) : List ByteArray:=if x.k = 6 then y.ls else x.ls
def manyL (x y : Nd) : List ByteArray:=if x.k = 6 then x.ls else y.ls
def lStep (g h : List Nd) (p : Pr) (l : ByteArray) : ByteArray × Pr:=(l,toP g h p (ixL l (ndX g h p).ls) (ixL l (ndY g h p).ls) false)
def fitsP (g h : List Nd) (p : Pr) : Option (List (ByteArray × Pr)) :=
 if (ndX g h p).k ≠ (ndY g h p).k then none else if (ndX g h p).so ≠ (ndY g h p).so then none
 else if (ndX g h p).k = 2 ∨ (ndX g h p).k = 3 then some [(dotS,toP g h p 0 0 false)]
 else if (ndX g h p).k = 4 ∨ (ndX g h p).k = 5 then some [(hatS,toP g h p 0 0 ((ndX g h p).k == 4)),(dotS,toP g h p 1 1 false)]
 else if (fewL (ndX g h p) (ndY g h p)).all (fun l=>inL (manyL (ndX g h p) (ndY g h p)) l) = true then some ((fewL (ndX g h p) (ndY g h p)).map (lStep g h p)) else none
structure NdSh (x : Nd) : Prop where
 one : x.k = 2 ∨ x.k = 3 → 1 ≤ x.to.length
 two : x.k = 4 ∨ x.k = 5 → 2 ≤ x.to.length
 ls : x.ls.length ≤ x.to.length
 l6 : x.ls.length ≤ 6
end Go.Proofs.YtdcplkefmpjppaaGreatDoor
/- below.both's why as a plain function; pairs as keys. -/
namespace Go.Proofs.YtdcplkefmpjppaaGreatDoor
open Go.RowKit Go.Sw Go.MapKept

abbrev Qu:=List (Pr × List ByteArray)
def hasQ (p : Pr) (qu : Qu) : Bool:=qu.any fun q=>decide (p = q.1)
def addQ (path : List ByteArray) (qu : Qu) (s : ByteArray × Pr) : Qu:=if hasQ s.2 qu = true then qu else qu ++ [(s.2,path ++ [s.1])]
def whyF (g h : List Nd) : Nat → Nat → Qu → Option (List ByteArray)
 | 0,_,_=>none
 | f + 1,at',qu=>match qu[at']? with
  | none=>none
  | some (p,path)=>match fitsP g h p with
   | none=>some path
   | some l=>whyF g h f (at' + 1) (l.foldl (addQ path) qu)
def whyP (g h : List Nd) : Option (List ByteArray):=whyF g h (2 * g.length * h.length + 1) 0 [(⟨0,0,false⟩,[])]
structure QI (n m : Nat) (qu : Qu) : Prop where
 nd : (qu.map (·.1)).Nodup
 r : ∀ q ∈ qu,(0 ≤ q.1.a ∧ q.1.a < (n : Int)) ∧ 0 ≤ q.1.b ∧ q.1.b < (m : Int)
 p : ∀ (i : Nat) (q : Pr × List ByteArray),qu[i]? = some q → q.2.length ≤ i
theorem has_mem {p : Pr} {qu : Qu} : hasQ p qu = true ↔ p ∈ qu.map (·.1):=by
 simp only [hasQ,List.any_eq_true,decide_eq_true_iff,List.mem_map]
 constructor
 · rintro ⟨q,h1,h2⟩;exact ⟨q,h1,h2.symm⟩
 · rintro ⟨q,h1,h2⟩;exact ⟨q,h1,h2.symm⟩
theorem QI.add {n m : Nat} {qu : Qu} (h : QI n m qu) {at' : Nat} {path : List ByteArray} (hp : path.length ≤ at') (ha : at' < qu.length) {s : ByteArray × Pr} (hs : (0 ≤ s.2.a ∧ s.2.a < (n : Int)) ∧ 0 ≤ s.2.b ∧ s.2.b < (m : Int)) : QI n m (addQ path qu s):=by
 unfold addQ
 split
 · exact h
 · rename_i hx
   refine ⟨?_,fun q hq=>?_,fun i q hq=>?_⟩
   · rw [List.map_append]
     refine List.nodup_append.2 ⟨h.nd,by simp,fun a h1 b h2 hab=>?_⟩
     obtain rfl : b = s.2:=by simpa using h2
     exact hx (has_mem.2 (hab ▸ h1))
   · rcases List.mem_append.1 hq with hq | hq
     · exact h.r q hq
     · obtain rfl : q = (s.2,path ++ [s.1]):=by simpa using hq
       exact hs
   · by_cases hi : i < qu.length
     · rw [List.getElem?_append_left hi] at hq;exact h.p i q hq
     · rw [List.getElem?_append_right (by omega)] at hq
       by_cases h0 : i - qu.length = 0
       · rw [h0] at hq
         simp at hq
         subst hq
         simp;omega
       · rw [List.getElem?_eq_none (by simp;omega)] at hq;cases hq
theorem QI.len {n m : Nat} {qu : Qu} (h : QI n m qu) : qu.length ≤ 2 * n * m:=by
 have:=pigeon (2 * n * m) (qu.map fun q=>(q.1.a * m + q.1.b) * 2 + (if q.1.t = true then 1 else 0)) ?_ ?_
 · simpa using this
 · rw [List.Nodup,List.pairwise_map]
   have hn:=h.nd
   rw [List.Nodup,List.pairwise_map] at hn
   refine hn.imp_of_mem fun {x y} hx hy hne he=>hne ?_
   obtain ⟨⟨a0,a1⟩,b0,b1⟩:=h.r x hx
   obtain ⟨⟨c0,c1⟩,d0,d1⟩:=h.r y hy
   obtain ⟨⟨xa,xb,xt⟩,xp⟩:=x
   obtain ⟨⟨ya,yb,yt⟩,yp⟩:=y
   simp only at a0 a1 b0 b1 c0 c1 d0 d1 he ⊢
   have ht : xt = yt:=by cases xt <;> cases yt <;> simp at he ⊢ <;> omega
   subst ht
   have e : xa * m + xb = ya * m + yb:=by omega
   have e1 : xa = ya:=by
    have q1 : (xa * m + xb) / m = xa:=by rw [Int.add_comm,Int.add_mul_ediv_right _ _ (by omega),Int.ediv_eq_zero_of_lt b0 b1];omega
    have q2 : (ya * m + yb) / m = ya:=by rw [Int.add_comm,Int.add_mul_ediv_right _ _ (by omega),Int.ediv_eq_zero_of_lt d0 d1];omega
    rw [← q1, ← q2,e]
   subst e1
   have : xb = yb:=by omega
   rw [this]
 · intro v hv
   obtain ⟨x,hx,rfl⟩:=List.mem_map.1 hv
   obtain ⟨⟨a0,a1⟩,b0,b1⟩:=h.r x hx
   have h1 : 0 ≤ x.1.a * (m : Int):=Int.mul_nonneg a0 (by omega)
   have h2 : (x.1.a + 1) * (m : Int) ≤ (n : Int) * (m : Int):=Int.mul_le_mul_of_nonneg_right (by omega) (by omega)
   have h3 : ((2 * n * m : Nat) : Int) = 2 * ((n : Int) * (m : Int)):=by push_cast;rw [Int.mul_assoc]
   rw [h3]
   rw [Int.add_mul] at h2
   split <;> omega
end Go.Proofs.YtdcplkefmpjppaaGreatDoor
/- below.both's why; a symbolic walk. -/
-- TYPESA
namespace Go.Proofs.YtdcplkefmpjppaaGreatDoor
open Go.RowKit Go.Sw

end Go.Proofs.YtdcplkefmpjppaaGreatDoor
/- below.of, Is, Why; a symbolic walk. -/
-- TYPESA
namespace Go.Proofs.YtdcplkefmpjppaaGreatDoor
open Go.RowKit Go.Sw

def bErr (x y : Tp) : Int:=if tCheck x = 0 then tCheck y else tCheck x
def OfFn (Γ : Gl) (x : Tp) : Prop:=DFn Tryz.prog Γ 41 [x.d] (.tup [.slc ((ofP x).map Nd.d),iD (tCheck x)])
def wyE (x y : Tp) : Int:=if bErr x y = 0 then (match whyP (ofP x) (ofP y) with | some _=>0 | none=>8) else bErr x y
def wyL (x y : Tp) : List ByteArray:=if bErr x y = 0 then (match whyP (ofP x) (ofP y) with | some l=>l | none=>[]) else []
end Go.Proofs.YtdcplkefmpjppaaGreatDoor
/- The nodes of a type that is right. -/
namespace Go.Proofs.YtdcplkefmpjppaaGreatDoor
open Go.RowKit Go.Sw

mutual
def cnT : Tp → Prop
 | .mk k so nm ls l=>(k = 8 → stripF l ≠ 9) ∧ cnTs l
def cnTs : List Tp → Prop
 | []=>True
 | x :: l=>cnT x ∧ cnTs l
end
mutual
theorem cl_tchk : ∀ (x : Tp) (b : List ByteArray) (left : Int),(tchk x b left).1 = 0 → clT x b ∧ cnT x
 | .mk k so nm ls l,b,left,h=>by
  unfold tchk at h
  unfold clT cnT
  by_cases h1 : left - 1 < 0
  · rw [if_pos h1] at h;simp at h
  rw [if_neg h1] at h
  by_cases h2 : shapedB (.mk k so nm ls l) = false
  · rw [if_pos h2] at h;simp at h
  rw [if_neg h2] at h
  by_cases h3 : k = 9
  · rw [if_pos h3] at h
    by_cases h4 : inL b nm = false
    · rw [if_pos h4] at h;simp at h
    · rw [if_neg h4] at h
      have:=cls_tchk l b _ h
      rw [if_neg (by omega)]
      exact ⟨⟨fun _=>by simpa using h4,this.1⟩,fun h8=>by omega,this.2⟩
  rw [if_neg h3] at h
  by_cases h5 : k = 8
  · rw [if_pos h5] at h
    by_cases h6 : stripF l = 9
    · rw [if_pos h6] at h;simp at h
    · rw [if_neg h6] at h
      have:=cls_tchk l _ _ h
      rw [if_pos h5]
      exact ⟨⟨fun h=>absurd h h3,this.1⟩,fun _=>h6,this.2⟩
  · rw [if_neg h5] at h
    have:=cls_tchk l _ _ h
    rw [if_neg h5]
    exact ⟨⟨fun h=>absurd h h3,this.1⟩,fun h=>absurd h h5,this.2⟩
theorem cls_tchk : ∀ (l : List Tp) (b : List ByteArray) (left : Int),(tchks l b left).1 = 0 → clTs l b ∧ cnTs l
 | [],b,left,h=>by simp [clTs,cnTs]
 | x :: l,b,left,h=>by
  unfold tchks at h
  split at h
  · rename_i he;exact absurd h he
  · rename_i he
    have h1:=cl_tchk x b left (by omega)
    have h2:=cls_tchk l b _ h
    unfold clTs cnTs
    exact ⟨⟨h1.1,h2.1⟩,h1.2,h2.2⟩
end
structure NdG (M : Nat) (x : Nd) : Prop where
 ok : NdOK M x
 sh : NdSh x
 nm : ∀ l ∈ x.ls,isNameB l = true
def TGood (M : Nat) (x : Tp) : Prop:=cnT x → ∀ (ns : List ByteArray) (av : List Int) (L : List Nd),ns.length = av.length → clT x ns → (∀ a ∈ av,0 ≤ a ∧ a < (M : Int)) → (addT x ns av L).2.length ≤ M →
 (∀ i n,L.length ≤ i → (addT x ns av L).2[i]? = some n → NdG M n) ∧ (0 ≤ (addT x ns av L).1 ∧ (addT x ns av L).1 < (M : Int)) ∧ (stripK x ≠ 9 → L.length < (addT x ns av L).2.length)
theorem kids_good {M : Nat} : ∀ {l : List Tp},(∀ x ∈ l,TGood M x) → cnTs l → ∀ (ns : List ByteArray) (av : List Int) (L : List Nd),ns.length = av.length → clTs l ns → (∀ a ∈ av,0 ≤ a ∧ a < (M : Int)) → (addTs l ns av L).2.length ≤ M →
 (∀ i n,L.length ≤ i → (addTs l ns av L).2[i]? = some n → NdG M n) ∧ ∀ t ∈ (addTs l ns av L).1,0 ≤ t ∧ t < (M : Int)
 | [],hl,hc,ns,av,L,hn,hcl,ha,hM=>by
  refine ⟨fun i n hi h=>?_,fun t ht=>by simp [addTs] at ht⟩
  simp only [addTs] at h
  rw [List.getElem?_eq_none hi] at h;cases h
 | x :: l,hl,hc,ns,av,L,hn,hcl,ha,hM=>by
  unfold cnTs at hc
  unfold clTs at hcl
  simp only [addTs] at hM ⊢
  have hlen:=addTs_len l ns av (addT x ns av L).2
  have h1:=hl x (by simp) hc.1 ns av L hn hcl.1 ha (by omega)
  have h2:=kids_good (l:=l) (fun y hy=>hl y (by simp [hy])) hc.2 ns av (addT x ns av L).2 hn hcl.2 ha hM
  refine ⟨fun i n hi h=>?_,fun t ht=>?_⟩
  · by_cases hi2 : i < (addT x ns av L).2.length
    · rw [addTs_keep l ns av _ i hi2] at h
      exact h1.1 i n hi h
    · exact h2.1 i n (by omega) h
  · rcases List.mem_cons.1 ht with rfl | ht
    · exact h1.2.1
    · exact h2.2 t ht
theorem node_good {M : Nat} {k so : Int} {nm : ByteArray} {ls : List ByteArray} {l : List Tp} (h9 : k ≠ 9) (h8 : k ≠ 8) (hl : ∀ x ∈ l,TGood M x)
 (hg : ∀ to : List Int,to.length = l.length → (∀ t ∈ to,0 ≤ t ∧ t < (M : Int)) → NdG M ⟨k,so,ls,to⟩) : TGood M (.mk k so nm ls l):=by
 intro hc ns av L hn hcl ha hM
 unfold cnT at hc
 unfold clT at hcl
 rw [if_neg h8] at hcl
 unfold addT at hM ⊢
 rw [if_neg h9,if_neg h8] at hM ⊢
 simp only [List.length_set] at hM ⊢
 have hlen:=addTs_len l ns av (L ++ [⟨k,so,ls,[]⟩])
 have hto:=addTs_to l ns av (L ++ [⟨k,so,ls,[]⟩])
 have hk:=kids_good hl hc.2 ns av (L ++ [⟨k,so,ls,[]⟩]) hn hcl.2 ha hM
 simp only [List.length_append,List.length_cons,List.length_nil] at hlen hk
 refine ⟨fun i n hi h=>?_,⟨by omega,by omega⟩,fun _=>by omega⟩
 by_cases he : i = L.length
 · subst he
   rw [List.getElem?_set_self (by omega)] at h
   cases h
   exact hg _ hto hk.2
 · rw [List.getElem?_set_ne (Ne.symm he)] at h
   exact hk.1 i n (by omega) h
theorem name_size8 {s : ByteArray} (h : isNameB s = true) : s.size ≤ 8:=by
 unfold isNameB at h
 split at h
 · cases h
 split at h
 · cases h
 · omega
theorem mkG {M : Nat} {k so : Int} {ls : List ByteArray} {to : List Int} (hk : 0 ≤ k ∧ k < 100) (hs : 0 ≤ so ∧ so < 100) (hls : ls.length ≤ 6) (hnm : ∀ x ∈ ls,isNameB x = true) (hto : to.length ≤ 6) (hr : ∀ t ∈ to,0 ≤ t ∧ t < (M : Int))
 (h1 : k = 2 ∨ k = 3 → 1 ≤ to.length) (h2 : k = 4 ∨ k = 5 → 2 ≤ to.length) (h3 : ls.length ≤ to.length) : NdG M ⟨k,so,ls,to⟩ :=
 ⟨⟨hk,hs,hls,fun x hx=>name_size8 (hnm x hx),hto,hr⟩,⟨h1,h2,h3,hls⟩,hnm⟩
theorem labGo_names : ∀ (l : List ByteArray) (p : ByteArray),labGo p l = true → ∀ x ∈ l,isNameB x = true
 | s :: l,p,h,x,hx=>by
  unfold labGo at h
  split at h
  · rename_i h1
    split at h
    · cases h
    · rcases List.mem_cons.1 hx with rfl | hx
      · exact h1
      · exact labGo_names l s h x hx
  · cases h
theorem labels_names {ls : List ByteArray} (h : labelsB ls = true) : ∀ x ∈ ls,isNameB x = true:=by
 unfold labelsB at h
 split at h
 · cases h
 split at h
 · cases h
 cases ls with
 | nil=>intro x hx;cases hx
 | cons s l =>
  simp only [labAll] at h
  split at h
  · rename_i h1
    intro x hx
    rcases List.mem_cons.1 hx with rfl | hx
    · exact h1
    · exact labGo_names l s h x hx
  · cases h
theorem addT_grows {x : Tp} (h : OkT x) : cnT x → stripK x ≠ 9 → ∀ (ns : List ByteArray) (av : List Int) (L : List Nd),ns.length = av.length → clT x ns → L.length < (addT x ns av L).2.length:=by
 have node : ∀ (k so : Int) (nm : ByteArray) (ls : List ByteArray) (l : List Tp) (ns : List ByteArray) (av : List Int) (L : List Nd),k ≠ 9 → k ≠ 8 → L.length < (addT (.mk k so nm ls l) ns av L).2.length:=fun k so nm ls l ns av L h9 h8=>by
  unfold addT
  rw [if_neg h9,if_neg h8]
  have:=addTs_len l ns av (L ++ [⟨k,so,ls,[]⟩])
  simp only [List.length_set,List.length_append,List.length_cons,List.length_nil] at this ⊢
  omega
 induction h with
 | nil=>intro _ _ ns av L _ _;exact node _ _ _ _ _ _ _ _ (by decide) (by decide)
 | pass k so x hk h1 h3 hx ih=>intro _ _ ns av L _ _;exact node _ _ _ _ _ _ _ _ (by omega) (by omega)
 | give k x y hk hx hy ih1 ih2=>intro _ _ ns av L _ _;exact node _ _ _ _ _ _ _ _ (by omega) (by omega)
 | pick k ls l hk hl hn h ih=>intro _ _ ns av L _ _;exact node _ _ _ _ _ _ _ _ (by omega) (by omega)
 | bind nm x hn hx ih =>
  intro hc hs ns av L hna hcl
  unfold cnT at hc
  unfold clT at hcl
  rw [if_pos rfl] at hcl
  have e : addT (.mk 8 0 nm [] [x]) ns av L = addT x (ns ++ [nm]) (av ++ [(L.length : Int)]) L:=by
   conv=>lhs;unfold addT
   rw [if_neg (by decide),if_pos rfl]
   simp only [addF]
  rw [e]
  exact ih hc.2.1 (hc.1 rfl) _ _ L (by simp [hna]) hcl.2.1
 | var nm hn=>intro _ hs;exact absurd (by simp [stripK]) hs
theorem addT_good (M : Nat) {x : Tp} (h : OkT x) : TGood M x:=by
 induction h with
 | nil =>
  exact node_good (by decide) (by decide) (fun x hx=>by cases hx) fun to hto hr=>by
   simp at hto
   exact mkG (by simp) (by simp) (by simp) (by simp) (by simp [hto]) hr (by simp) (by simp) (by simp)
 | pass k so x hk h1 h3 hx ih =>
  exact node_good (by omega) (by omega) (fun y hy=>by rw [show y = x by simpa using hy];exact ih) fun to hto hr=>by
   simp at hto
   exact mkG (by omega) (by omega) (by simp) (by simp) (by omega) hr (by omega) (by omega) (by simp)
 | give k x y hk hx hy ih1 ih2 =>
  exact node_good (by omega) (by omega) (fun z hz=>by
   rcases List.mem_cons.1 hz with rfl | hz
   · exact ih1
   · rw [show z = y by simpa using hz];exact ih2) fun to hto hr=>by
   simp at hto
   exact mkG (by omega) (by simp) (by simp) (by simp) (by omega) hr (by omega) (by omega) (by simp)
 | pick k ls l hk hl hn h ih =>
  exact node_good (by omega) (by omega) ih fun to hto hr=>by
   have h6:=labels_len hl
   exact mkG (by omega) (by simp) h6 (labels_names hl) (by omega) hr (by omega) (by omega) (by omega)
 | bind nm x hn hx ih =>
  intro hc ns av L hna hcl ha hM
  unfold cnT at hc
  unfold clT at hcl
  rw [if_pos rfl] at hcl
  have h9 : stripK x ≠ 9:=hc.1 rfl
  have e : addT (.mk 8 0 nm [] [x]) ns av L = addT x (ns ++ [nm]) (av ++ [(L.length : Int)]) L:=by
   conv=>lhs;unfold addT
   rw [if_neg (by decide),if_pos rfl]
   simp only [addF]
  rw [e] at hM ⊢
  have hlt : L.length < (addT x (ns ++ [nm]) (av ++ [(L.length : Int)]) L).2.length:=addT_grows hx hc.2.1 h9 _ _ L (by simp [hna]) hcl.2.1
  refine ⟨?_,?_,fun _=>hlt⟩
  · exact (ih hc.2.1 _ _ L (by simp [hna]) hcl.2.1 (fun a hm=>by
     rcases List.mem_append.1 hm with hm | hm
     · exact ha a hm
     · obtain rfl : a = (L.length : Int):=by simpa using hm
       omega) hM).1
  · exact (ih hc.2.1 _ _ L (by simp [hna]) hcl.2.1 (fun a hm=>by
     rcases List.mem_append.1 hm with hm | hm
     · exact ha a hm
     · obtain rfl : a = (L.length : Int):=by simpa using hm
       omega) hM).2.1
 | var nm hn =>
  intro hc ns av L hna hcl ha hM
  unfold clT at hcl
  obtain ⟨J,hJ⟩:=lastIx_in (hcl.1 rfl)
  have hJn:=lastIx_some hJ
  have e : addT (.mk 9 0 nm [] []) ns av L = (av.getD J 0,L):=by
   unfold addT
   rw [if_pos rfl,hJ]
  rw [e]
  refine ⟨fun i n hi h=>?_,?_,fun h=>absurd (by simp [stripK]) h⟩
  · simp only at h
    rw [List.getElem?_eq_none hi] at h;cases h
  · simp only
    rw [List.getD_eq_getElem?_getD,List.getElem?_eq_getElem (by omega),Option.getD_some]
    exact ha _ (List.getElem_mem _)
theorem strip_top : ∀ (x : Tp),OkT x → cnT x → clT x [] → stripK x ≠ 9:=by
 intro x h hc hcl
 cases h with
 | nil=>simp [stripK]
 | pass k so x hk h1 h3 hx=>simp only [stripK];rw [if_neg (by omega)];omega
 | give k x y hk hx hy=>simp only [stripK];rw [if_neg (by omega)];omega
 | pick k ls l hk hl hn h=>simp only [stripK];rw [if_neg (by omega)];omega
 | bind nm x hn hx =>
  unfold cnT at hc
  simp only [stripK,stripL,if_true]
  exact hc.1 rfl
 | var nm hn =>
  unfold clT at hcl
  have:=hcl.1 rfl
  simp [inL] at this
theorem NdG.mono {M M' : Nat} (h : M ≤ M') {n : Nd} (hn : NdG M n) : NdG M' n :=
 ⟨⟨hn.ok.k,hn.ok.so,hn.ok.ls,hn.ok.lb,hn.ok.to,fun t ht=>by have:=hn.ok.r t ht;omega⟩,hn.sh,hn.nm⟩
theorem raw_good {x : Tp} (h : tCheck x = 0) : OkT x ∧ clT x [] ∧ x.size ≤ 60 ∧ 0 < (addT x [] [] []).2.length ∧ (addT x [] [] []).2.length ≤ 60 ∧ ∀ n ∈ (addT x [] [] []).2,NdG (addT x [] [] []).2.length n:=by
 have h1:=ok_check h
 have h2:=cl_tchk x [] 60 h
 have h3:=addT_good (addT x [] [] []).2.length h1.1 h2.2 [] [] [] rfl h2.1 (fun a ha=>by cases ha) (Nat.le_refl _)
 have h4:=addT_len x [] [] []
 have h5:=h3.2.2 (strip_top x h1.1 h2.2 h2.1)
 simp only [List.length_nil] at h4 h5
 refine ⟨h1.1,h2.1,h1.2,h5,by omega,fun n hn=>?_⟩
 obtain ⟨i,hi,rfl⟩:=List.mem_iff_getElem.1 hn
 exact h3.1 i _ (by simp) (List.getElem?_eq_getElem hi)
theorem nxtK_len (l : List ByteArray) : (nxtK l).length = l.length:=by simp [nxtK]
theorem partF_len (g : List Nd) : ∀ (f : Nat) (cl : List Int) (many : Nat),cl.length = g.length → (partF g f cl many).length = g.length
 | 0,cl,many,h=>h
 | f + 1,cl,many,h=>by
  unfold partF
  split
  · rw [nxtK_len,keysF_len]
  · exact partF_len g f _ _ (by rw [nxtK_len,keysF_len])
theorem parted_len (g : List Nd) : (partedP g).length = g.length:=partF_len g _ _ _ (by simp)
theorem plI_range {c : Int} {Cs : List Int} (h : c ∈ Cs) : 0 ≤ plI c Cs ∧ plI c Cs < (Cs.length : Int):=by
 unfold plI
 cases hi : ixI c Cs 0 with
 | none=>exact absurd h (ixI_none hi)
 | some p =>
  have:=ixI_lt hi
  simp only [Option.getD_some];omega
theorem ixI_some_mem {c : Int} : ∀ {Cs : List Int} {i p : Nat},ixI c Cs i = some p → c ∈ Cs
 | x :: Cs,i,p,h=>by
  unfold ixI at h
  cases hb : c == x with
  | true =>
   have : c = x:=by simpa using hb
   simp [this]
  | false =>
   rw [hb,cond_false] at h
   exact List.mem_cons_of_mem _ (ixI_some_mem h)
theorem addO_mem (cl ord : List Int) (k : Int) : cOf cl k ∈ (addO cl ord k).map (cOf cl):=by
 unfold addO
 split
 · rename_i p h;exact ixI_some_mem h
 · simp
theorem rowO_range (cl : List Int) : ∀ (to ord : List Int), ∀ t ∈ (rowO cl to ord).1,0 ≤ t ∧ t < ((rowO cl to ord).2.length : Int)
 | [],ord,t,ht=>by simp [rowO] at ht
 | k :: to,ord,t,ht=>by
  have h1:=rowO_sub cl to (addO cl ord k)
  simp only [rowO] at ht ⊢
  rcases List.mem_cons.1 ht with rfl | ht
  · have:=plI_range (addO_mem cl ord k)
    rw [List.length_map] at this
    omega
  · exact rowO_range cl to _ t ht
theorem lstF_good {g : List Nd} {cl : List Int} (hg : ∀ n ∈ g,NdG g.length n) : ∀ (f at' : Nat) (ord : List Int) (out : List Nd),OrdI cl g.length ord → out.length = at' → at' ≤ ord.length → g.length + 1 - at' ≤ f → (∀ n ∈ out,NdG ord.length n) →
 ord.length ≤ (lstF g cl f at' ord out).length ∧ (lstF g cl f at' ord out).length ≤ g.length ∧ ∀ n ∈ lstF g cl f at' ord out,NdG (lstF g cl f at' ord out).length n
 | 0,at',ord,out,ho,hl,ha,hf,hout=>by
  have:=ho.len
  omega
 | f + 1, at',ord,out,ho,hl,ha,hf,hout=>by
  have hol:=ho.len
  unfold lstF
  cases hv : ord[at']? with
  | none =>
   have : ord.length ≤ at':=by simpa using hv
   simp only
   have e : out.length = ord.length:=by omega
   rw [e]
   exact ⟨Nat.le_refl _,hol,hout⟩
  | some v =>
   simp only
   have hvr:=ho.r v (List.mem_of_getElem? hv)
   have hlt:=(List.getElem?_eq_some_iff.1 hv).1
   rw [show g[v.toNat]? = some g[v.toNat] from List.getElem?_eq_getElem (by omega)]
   simp only
   have hn:=hg g[v.toNat] (List.getElem_mem _)
   have hsub:=rowO_sub cl g[v.toNat].to ord
   have hrl:=rowO_len cl g[v.toNat].to ord
   have ih:=lstF_good hg f (at' + 1) (rowO cl g[v.toNat].to ord).2 (out ++ [⟨g[v.toNat].k,g[v.toNat].so,g[v.toNat].ls,(rowO cl g[v.toNat].to ord).1⟩]) (ho.row hn.ok.r) (by simp [hl]) (by omega) (by omega) (fun m hm=>by
    rcases List.mem_append.1 hm with hm | hm
    · exact (hout m hm).mono hsub.1
    · rw [List.mem_singleton] at hm
      subst hm
      refine mkG hn.ok.k hn.ok.so hn.ok.ls hn.nm ?_ (rowO_range cl _ _) ?_ ?_ ?_
      · rw [hrl];exact hn.ok.to
      · rw [hrl];exact hn.sh.one
      · rw [hrl];exact hn.sh.two
      · rw [hrl];exact hn.sh.ls)
   exact ⟨by omega,ih.2.1,ih.2.2⟩
theorem least_good {g : List Nd} (h0 : 0 < g.length) (hg : ∀ n ∈ g,NdG g.length n) : 0 < (leastP g).length ∧ (leastP g).length ≤ g.length ∧ ∀ n ∈ leastP g,NdG (leastP g).length n:=by
 have:=lstF_good (cl:=partedP g) hg (g.length + 1) 0 [0] [] ⟨by simp;omega,by simp⟩ rfl (by simp) (Nat.le_refl _) (fun n hn=>by cases hn)
 unfold leastP
 exact ⟨by have:=this.1;simp at this;omega,this.2.1,this.2.2⟩
end Go.Proofs.YtdcplkefmpjppaaGreatDoor
