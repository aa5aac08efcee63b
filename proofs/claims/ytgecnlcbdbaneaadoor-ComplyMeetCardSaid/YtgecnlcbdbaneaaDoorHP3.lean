/- The nodes of a type that is right. -/
import Derived.Test.YtgecnlcbdbaneaaDoorHP
import Derived.Test.YtgecnlcbdbaneaaDoorH7
set_option linter.unusedVariables false
set_option linter.unusedSimpArgs false
namespace Go.Proofs.YtgecnlcbdbaneaaDoor
open Go.RowKit Go.Sw
open _root_.List renaming length_nil → za, getElem?_eq_getElem → zb, getElem?_eq_none → zf, length_set → zh, length_append → zi, length_cons → zm, getElem_mem → zo

mutual
def cnT : Tp → Prop
 | .mk k so nm ls l=>(k = 8 → xc3 l ≠ 9) ∧ xw9 l
def xw9 : List Tp → Prop
 | []=>True
 | x :: l=>cnT x ∧ xw9 l
end
mutual
theorem xh9 : ∀ (x : Tp) (b : List ByteArray) (left : Int),(qx2 x b left).1 = 0 → clT x b ∧ cnT x
 | .mk k so nm ls l,b,left,h=>by
  unfold qx2 at h
  unfold clT cnT
  by_cases h1 : left - 1 < 0
  · rw [if_pos h1] at h;simp at h
  rw [if_neg h1] at h
  by_cases h2 : qg0 (.mk k so nm ls l) = false
  · rw [if_pos h2] at h;simp at h
  rw [if_neg h2] at h
  by_cases h3 : k = 9
  · rw [if_pos h3] at h
    by_cases h4 : inL b nm = false
    · rw [if_pos h4] at h;simp at h
    · rw [if_neg h4] at h
      have:=vh0 l b _ h
      rw [if_neg (by omega)]
      exact ⟨⟨fun _=>by simpa using h4,this.1⟩,fun h8=>by omega,this.2⟩
  rw [if_neg h3] at h
  by_cases h5 : k = 8
  · rw [if_pos h5] at h
    by_cases h6 : xc3 l = 9
    · rw [if_pos h6] at h;simp at h
    · rw [if_neg h6] at h
      have:=vh0 l _ _ h
      rw [if_pos h5]
      exact ⟨⟨fun h=>absurd h h3,this.1⟩,fun _=>h6,this.2⟩
  · rw [if_neg h5] at h
    have:=vh0 l _ _ h
    rw [if_neg h5]
    exact ⟨⟨fun h=>absurd h h3,this.1⟩,fun h=>absurd h h5,this.2⟩
theorem vh0 : ∀ (l : List Tp) (b : List ByteArray) (left : Int),(qi0 l b left).1 = 0 → xq8 l b ∧ xw9 l
 | [],b,left,h=>by simp [xq8,xw9]
 | x :: l,b,left,h=>by
  unfold qi0 at h
  split at h
  · rename_i he;exact absurd h he
  · rename_i he
    have h1:=xh9 x b left (by omega)
    have h2:=vh0 l b _ h
    unfold xq8 xw9
    exact ⟨⟨h1.1,h2.1⟩,h1.2,h2.2⟩
end
structure NdG (M : Nat) (x : Nd) : Prop where
 ok : NdOK M x
 sh : yn3 x
 nm : ∀ l ∈ x.ls,qe8 l = true
def yp3 (M : Nat) (x : Tp) : Prop:=cnT x → ∀ (ns : List ByteArray) (av : List Int) (L : List Nd),ns.length = av.length → clT x ns → (∀ a ∈ av,0 ≤ a ∧ a < (M : Int)) → (qh9 x ns av L).2.length ≤ M →
 (∀ i n,L.length ≤ i → (qh9 x ns av L).2[i]? = some n → NdG M n) ∧ (0 ≤ (qh9 x ns av L).1 ∧ (qh9 x ns av L).1 < (M : Int)) ∧ (qf9 x ≠ 9 → L.length < (qh9 x ns av L).2.length)
theorem xc8 {M : Nat} : ∀ {l : List Tp},(∀ x ∈ l,yp3 M x) → xw9 l → ∀ (ns : List ByteArray) (av : List Int) (L : List Nd),ns.length = av.length → xq8 l ns → (∀ a ∈ av,0 ≤ a ∧ a < (M : Int)) → (qg3 l ns av L).2.length ≤ M →
 (∀ i n,L.length ≤ i → (qg3 l ns av L).2[i]? = some n → NdG M n) ∧ ∀ t ∈ (qg3 l ns av L).1,0 ≤ t ∧ t < (M : Int)
 | [],hl,hc,ns,av,L,hn,hcl,ha,hM=>by
  refine ⟨fun i n hi h=>?_,fun t ht=>by simp [qg3] at ht⟩
  simp only [qg3] at h
  rw [zf hi] at h;cases h
 | x :: l,hl,hc,ns,av,L,hn,hcl,ha,hM=>by
  unfold xw9 at hc
  unfold xq8 at hcl
  simp only [qg3] at hM ⊢
  have hlen:=qk1 l ns av (qh9 x ns av L).2
  have h1:=hl x (by simp) hc.1 ns av L hn hcl.1 ha (by omega)
  have h2:=xc8 (l:=l) (fun y hy=>hl y (by simp [hy])) hc.2 ns av (qh9 x ns av L).2 hn hcl.2 ha hM
  refine ⟨fun i n hi h=>?_,fun t ht=>?_⟩
  · by_cases hi2 : i < (qh9 x ns av L).2.length
    · rw [qn8 l ns av _ i hi2] at h
      exact h1.1 i n hi h
    · exact h2.1 i n (by omega) h
  · rcases List.mem_cons.1 ht with rfl | ht
    · exact h1.2.1
    · exact h2.2 t ht
theorem vc2 {M : Nat} {k so : Int} {nm : ByteArray} {ls : List ByteArray} {l : List Tp} (h9 : k ≠ 9) (h8 : k ≠ 8) (hl : ∀ x ∈ l,yp3 M x)
 (hg : ∀ to : List Int,to.length = l.length → (∀ t ∈ to,0 ≤ t ∧ t < (M : Int)) → NdG M ⟨k,so,ls,to⟩) : yp3 M (.mk k so nm ls l):=by
 intro hc ns av L hn hcl ha hM
 unfold cnT at hc
 unfold clT at hcl
 rw [if_neg h8] at hcl
 unfold qh9 at hM ⊢
 rw [if_neg h9,if_neg h8] at hM ⊢
 simp only [zh] at hM ⊢
 have hlen:=qk1 l ns av (L ++ [⟨k,so,ls,[]⟩])
 have hto:=vh5 l ns av (L ++ [⟨k,so,ls,[]⟩])
 have hk:=xc8 hl hc.2 ns av (L ++ [⟨k,so,ls,[]⟩]) hn hcl.2 ha hM
 simp only [zi,zm,za] at hlen hk
 refine ⟨fun i n hi h=>?_,⟨by omega,by omega⟩,fun _=>by omega⟩
 by_cases he : i = L.length
 · subst he
   rw [List.getElem?_set_self (by omega)] at h
   cases h
   exact hg _ hto hk.2
 · rw [List.getElem?_set_ne (Ne.symm he)] at h
   exact hk.1 i n (by omega) h
theorem vp5 {s : ByteArray} (h : qe8 s = true) : s.size ≤ 8:=by
 unfold qe8 at h
 split at h
 · cases h
 split at h
 · cases h
 · omega
theorem mkG {M : Nat} {k so : Int} {ls : List ByteArray} {to : List Int} (hk : 0 ≤ k ∧ k < 100) (hs : 0 ≤ so ∧ so < 100) (hls : ls.length ≤ 6) (hnm : ∀ x ∈ ls,qe8 x = true) (hto : to.length ≤ 6) (hr : ∀ t ∈ to,0 ≤ t ∧ t < (M : Int))
 (h1 : k = 2 ∨ k = 3 → 1 ≤ to.length) (h2 : k = 4 ∨ k = 5 → 2 ≤ to.length) (h3 : ls.length ≤ to.length) : NdG M ⟨k,so,ls,to⟩ :=
 ⟨⟨hk,hs,hls,fun x hx=>vp5 (hnm x hx),hto,hr⟩,⟨h1,h2,h3,hls⟩,hnm⟩
theorem vk3 : ∀ (l : List ByteArray) (p : ByteArray),vd5 p l = true → ∀ x ∈ l,qe8 x = true
 | s :: l,p,h,x,hx=>by
  unfold vd5 at h
  split at h
  · rename_i h1
    split at h
    · cases h
    · rcases List.mem_cons.1 hx with rfl | hx
      · exact h1
      · exact vk3 l s h x hx
  · cases h
theorem xg2 {ls : List ByteArray} (h : qh8 ls = true) : ∀ x ∈ ls,qe8 x = true:=by
 unfold qh8 at h
 split at h
 · cases h
 split at h
 · cases h
 cases ls with
 | nil=>intro x hx;cases hx
 | cons s l =>
  simp only [va9] at h
  split at h
  · rename_i h1
    intro x hx
    rcases List.mem_cons.1 hx with rfl | hx
    · exact h1
    · exact vk3 l s h x hx
  · cases h
theorem xv5 {x : Tp} (h : OkT x) : cnT x → qf9 x ≠ 9 → ∀ (ns : List ByteArray) (av : List Int) (L : List Nd),ns.length = av.length → clT x ns → L.length < (qh9 x ns av L).2.length:=by
 have node : ∀ (k so : Int) (nm : ByteArray) (ls : List ByteArray) (l : List Tp) (ns : List ByteArray) (av : List Int) (L : List Nd),k ≠ 9 → k ≠ 8 → L.length < (qh9 (.mk k so nm ls l) ns av L).2.length:=fun k so nm ls l ns av L h9 h8=>by
  unfold qh9
  rw [if_neg h9,if_neg h8]
  have:=qk1 l ns av (L ++ [⟨k,so,ls,[]⟩])
  simp only [zh,zi,zm,za] at this ⊢
  omega
 induction h with
 | nil=>intro _ _ ns av L _ _;exact node _ _ _ _ _ _ _ _ (by decide) (by decide)
 | pass k so x hk h1 h3 hx ih=>intro _ _ ns av L _ _;exact node _ _ _ _ _ _ _ _ (by omega) (by omega)
 | give k x y hk hx hy ih1 ih2=>intro _ _ ns av L _ _;exact node _ _ _ _ _ _ _ _ (by omega) (by omega)
 | pick k ls l hk hl hn h ih=>intro _ _ ns av L _ _;exact node _ _ _ _ _ _ _ _ (by omega) (by omega)
 | bind nm x hn hx ih =>
  intro hc hs ns av L hna hcl
  unfold cnT at hc
  unfold clT at hcl
  rw [if_pos rfl] at hcl
  have e : qh9 (.mk 8 0 nm [] [x]) ns av L = qh9 x (ns ++ [nm]) (av ++ [(L.length : Int)]) L:=by
   conv=>lhs;unfold qh9
   rw [if_neg (by decide),if_pos rfl]
   simp only [xw2]
  rw [e]
  exact ih hc.2.1 (hc.1 rfl) _ _ L (by simp [hna]) hcl.2.1
 | var nm hn=>intro _ hs;exact absurd (by simp [qf9]) hs
theorem yd2 (M : Nat) {x : Tp} (h : OkT x) : yp3 M x:=by
 induction h with
 | nil =>
  exact vc2 (by decide) (by decide) (fun x hx=>by cases hx) fun to hto hr=>by
   simp at hto
   exact mkG (by simp) (by simp) (by simp) (by simp) (by simp [hto]) hr (by simp) (by simp) (by simp)
 | pass k so x hk h1 h3 hx ih =>
  exact vc2 (by omega) (by omega) (fun y hy=>by rw [show y = x by simpa using hy];exact ih) fun to hto hr=>by
   simp at hto
   exact mkG (by omega) (by omega) (by simp) (by simp) (by omega) hr (by omega) (by omega) (by simp)
 | give k x y hk hx hy ih1 ih2 =>
  exact vc2 (by omega) (by omega) (fun z hz=>by
   rcases List.mem_cons.1 hz with rfl | hz
   · exact ih1
   · rw [show z = y by simpa using hz];exact ih2) fun to hto hr=>by
   simp at hto
   exact mkG (by omega) (by simp) (by simp) (by simp) (by omega) hr (by omega) (by omega) (by simp)
 | pick k ls l hk hl hn h ih =>
  exact vc2 (by omega) (by omega) ih fun to hto hr=>by
   have h6:=ql6 hl
   exact mkG (by omega) (by simp) h6 (xg2 hl) (by omega) hr (by omega) (by omega) (by omega)
 | bind nm x hn hx ih =>
  intro hc ns av L hna hcl ha hM
  unfold cnT at hc
  unfold clT at hcl
  rw [if_pos rfl] at hcl
  have h9 : qf9 x ≠ 9:=hc.1 rfl
  have e : qh9 (.mk 8 0 nm [] [x]) ns av L = qh9 x (ns ++ [nm]) (av ++ [(L.length : Int)]) L:=by
   conv=>lhs;unfold qh9
   rw [if_neg (by decide),if_pos rfl]
   simp only [xw2]
  rw [e] at hM ⊢
  have hlt : L.length < (qh9 x (ns ++ [nm]) (av ++ [(L.length : Int)]) L).2.length:=xv5 hx hc.2.1 h9 _ _ L (by simp [hna]) hcl.2.1
  refine ⟨?_,?_,fun _=>hlt⟩
  · exact (ih hc.2.1 _ _ L (by simp [hna]) hcl.2.1 (fun a hm=>by
     rcases List.mem_append.1 hm with hm | hm
     · exact ha a hm
     · obtain rfl : a = (L.length : Int):=by simpa using hm
       omega) hM).1
  · exact (ih hc.2.1 _ _ L (by simp [hna]) hcl.2.1 (fun a hm=>by
     rcases List.mem_append.1 hm with hm | hm
     · exact ha a hm
     · obtain rfl : a = (L.length : Int):=by simpa using hm
       omega) hM).2.1
 | var nm hn =>
  intro hc ns av L hna hcl ha hM
  unfold clT at hcl
  obtain ⟨J,hJ⟩:=vk1 (hcl.1 rfl)
  have hJn:=qx4 hJ
  have e : qh9 (.mk 9 0 nm [] []) ns av L = (av.getD J 0,L):=by
   unfold qh9
   rw [if_pos rfl,hJ]
  rw [e]
  refine ⟨fun i n hi h=>?_,?_,fun h=>absurd (by simp [qf9]) h⟩
  · simp only at h
    rw [zf hi] at h;cases h
  · simp only
    rw [List.getD_eq_getElem?_getD,zb (by omega),Option.getD_some]
    exact ha _ (zo _)
theorem vz9 : ∀ (x : Tp),OkT x → cnT x → clT x [] → qf9 x ≠ 9:=by
 intro x h hc hcl
 cases h with
 | nil=>simp [qf9]
 | pass k so x hk h1 h3 hx=>simp only [qf9];rw [if_neg (by omega)];omega
 | give k x y hk hx hy=>simp only [qf9];rw [if_neg (by omega)];omega
 | pick k ls l hk hl hn h=>simp only [qf9];rw [if_neg (by omega)];omega
 | bind nm x hn hx =>
  unfold cnT at hc
  simp only [qf9,stripL,if_true]
  exact hc.1 rfl
 | var nm hn =>
  unfold clT at hcl
  have:=hcl.1 rfl
  simp [inL] at this
theorem NdG.mono {M M' : Nat} (h : M ≤ M') {n : Nd} (hn : NdG M n) : NdG M' n :=
 ⟨⟨hn.ok.k,hn.ok.so,hn.ok.ls,hn.ok.lb,hn.ok.to,fun t ht=>by have:=hn.ok.r t ht;omega⟩,hn.sh,hn.nm⟩
theorem qr1 {x : Tp} (h : qd9 x = 0) : OkT x ∧ clT x [] ∧ x.size ≤ 60 ∧ 0 < (qh9 x [] [] []).2.length ∧ (qh9 x [] [] []).2.length ≤ 60 ∧ ∀ n ∈ (qh9 x [] [] []).2,NdG (qh9 x [] [] []).2.length n:=by
 have h1:=xo5 h
 have h2:=xh9 x [] 60 h
 have h3:=yd2 (qh9 x [] [] []).2.length h1.1 h2.2 [] [] [] rfl h2.1 (fun a ha=>by cases ha) (Nat.le_refl _)
 have h4:=vb4 x [] [] []
 have h5:=h3.2.2 (vz9 x h1.1 h2.2 h2.1)
 simp only [za] at h4 h5
 refine ⟨h1.1,h2.1,h1.2,h5,by omega,fun n hn=>?_⟩
 obtain ⟨i,hi,rfl⟩:=List.mem_iff_getElem.1 hn
 exact h3.1 i _ (by simp) (zb hi)
theorem vh9 (l : List ByteArray) : (qv4 l).length = l.length:=by simp [qv4]
theorem xc2 (g : List Nd) : ∀ (f : Nat) (cl : List Int) (many : Nat),cl.length = g.length → (vy4 g f cl many).length = g.length
 | 0,cl,many,h=>h
 | f + 1,cl,many,h=>by
  unfold vy4
  split
  · rw [vh9,qh4]
  · exact xc2 g f _ _ (by rw [vh9,qh4])
theorem vs5 (g : List Nd) : (ql4 g).length = g.length:=xc2 g _ _ _ (by simp)
theorem xz4 {c : Int} {Cs : List Int} (h : c ∈ Cs) : 0 ≤ plI c Cs ∧ plI c Cs < (Cs.length : Int):=by
 unfold plI
 cases hi : ixI c Cs 0 with
 | none=>exact absurd h (vi1 hi)
 | some p =>
  have:=yc3 hi
  simp only [Option.getD_some];omega
theorem vg0 {c : Int} : ∀ {Cs : List Int} {i p : Nat},ixI c Cs i = some p → c ∈ Cs
 | x :: Cs,i,p,h=>by
  unfold ixI at h
  cases hb : c == x with
  | true =>
   have : c = x:=by simpa using hb
   simp [this]
  | false =>
   rw [hb,cond_false] at h
   exact List.mem_cons_of_mem _ (vg0 h)
theorem xl6 (cl ord : List Int) (k : Int) : cOf cl k ∈ (vd6 cl ord k).map (cOf cl):=by
 unfold vd6
 split
 · rename_i p h;exact vg0 h
 · simp
theorem vr0 (cl : List Int) : ∀ (to ord : List Int), ∀ t ∈ (qv0 cl to ord).1,0 ≤ t ∧ t < ((qv0 cl to ord).2.length : Int)
 | [],ord,t,ht=>by simp [qv0] at ht
 | k :: to,ord,t,ht=>by
  have h1:=qr7 cl to (vd6 cl ord k)
  simp only [qv0] at ht ⊢
  rcases List.mem_cons.1 ht with rfl | ht
  · have:=xz4 (xl6 cl ord k)
    rw [List.length_map] at this
    omega
  · exact vr0 cl to _ t ht
theorem vm6 {g : List Nd} {cl : List Int} (hg : ∀ n ∈ g,NdG g.length n) : ∀ (f at' : Nat) (ord : List Int) (out : List Nd),vo5 cl g.length ord → out.length = at' → at' ≤ ord.length → g.length + 1 - at' ≤ f → (∀ n ∈ out,NdG ord.length n) →
 ord.length ≤ (vs8 g cl f at' ord out).length ∧ (vs8 g cl f at' ord out).length ≤ g.length ∧ ∀ n ∈ vs8 g cl f at' ord out,NdG (vs8 g cl f at' ord out).length n
 | 0,at',ord,out,ho,hl,ha,hf,hout=>by
  have:=ho.len
  omega
 | f + 1, at',ord,out,ho,hl,ha,hf,hout=>by
  have hol:=ho.len
  unfold vs8
  cases hv : ord[at']? with
  | none =>
   have : ord.length ≤ at':=by simpa using hv
   simp only
   have e : out.length = ord.length:=by omega
   rw [e]
   exact ⟨Nat.le_refl _,hol,hout⟩
  | some v =>
   simp only
   have hvr:=ho.r v (List.mem_of_getElem? hv)
   have hlt:=(List.getElem?_eq_some_iff.1 hv).1
   rw [show g[v.toNat]? = some g[v.toNat] from zb (by omega)]
   simp only
   have hn:=hg g[v.toNat] (zo _)
   have hsub:=qr7 cl g[v.toNat].to ord
   have hrl:=qv9 cl g[v.toNat].to ord
   have ih:=vm6 hg f (at' + 1) (qv0 cl g[v.toNat].to ord).2 (out ++ [⟨g[v.toNat].k,g[v.toNat].so,g[v.toNat].ls,(qv0 cl g[v.toNat].to ord).1⟩]) (ho.row hn.ok.r) (by simp [hl]) (by omega) (by omega) (fun m hm=>by
    rcases List.mem_append.1 hm with hm | hm
    · exact (hout m hm).mono hsub.1
    · rw [List.mem_singleton] at hm
      subst hm
      refine mkG hn.ok.k hn.ok.so hn.ok.ls hn.nm ?_ (vr0 cl _ _) ?_ ?_ ?_
      · rw [hrl];exact hn.ok.to
      · rw [hrl];exact hn.sh.one
      · rw [hrl];exact hn.sh.two
      · rw [hrl];exact hn.sh.ls)
   exact ⟨by omega,ih.2.1,ih.2.2⟩
theorem vf2 {g : List Nd} (h0 : 0 < g.length) (hg : ∀ n ∈ g,NdG g.length n) : 0 < (qk0 g).length ∧ (qk0 g).length ≤ g.length ∧ ∀ n ∈ qk0 g,NdG (qk0 g).length n:=by
 have:=vm6 (cl:=ql4 g) hg (g.length + 1) 0 [0] [] ⟨by simp;omega,by simp⟩ rfl (by simp) (Nat.le_refl _) (fun n hn=>by cases hn)
 unfold qk0
 exact ⟨by have:=this.1;simp at this;omega,this.2.1,this.2.2⟩
end Go.Proofs.YtgecnlcbdbaneaaDoor
