/- What a type does, told by its parts; the graph that is made of it does that. -/
import Derived.Test.YtdcplkefmpjppaaGreatDoorHQ4
import Derived.Test.YtdcplkefmpjppaaGreatDoorH14
set_option linter.unusedVariables false
set_option linter.unusedSimpArgs false
namespace Go.Proofs.YtdcplkefmpjppaaGreatDoor
open Go.RowKit Go.Sw

abbrev Beh:=Nat → Tr
abbrev Env:=ByteArray → Beh
def cutB : Beh:=fun _=>.cut
def updE (ρ : Env) (a : ByteArray) (X : Beh) : Env:=fun b=>if b = a then X else ρ b
def itB (F : Beh → Beh) : Nat → Beh
 | 0=>cutB
 | j + 1=>F (itB F j)
def fixB (F : Beh → Beh) : Beh:=fun n=>itB F (n + 1) n
mutual
def den : Tp → Env → Beh
 | .mk k so nm ls l, ρ => if k = 9 then ρ nm else if k = 8 then fixB (fun X=>denF l (updE ρ nm X))
  else fun n=>match n with | 0=>.cut | n + 1=>.nd k so ls (dens l ρ n)
def denF : List Tp → Env → Beh
 | [],_=>cutB
 | x :: _, ρ => den x ρ
def dens : List Tp → Env → Nat → List Tr
 | [],_,_=>[]
 | x :: l, ρ,n=>den x ρ n :: dens l ρ n
end
theorem dens_map (ρ : Env) (n : Nat) : ∀ l : List Tp,dens l ρ n = l.map fun x=>den x ρ n
 | []=>by simp [dens]
 | x :: l=>by simp [dens,dens_map ρ n l]
def agB (n : Nat) (X Y : Beh) : Prop := ∀ m,m < n → X m = Y m
theorem agB.mono {n m : Nat} {X Y : Beh} (h : agB n X Y) (hm : m ≤ n) : agB m X Y:=fun i hi=>h i (by omega)
def agE (n : Nat) (ρ ρ' : Env) : Prop := ∀ a,agB n (ρ a) (ρ' a)
theorem agE.upd {n : Nat} {ρ ρ' : Env} (h : agE n ρ ρ') (a : ByteArray) {X Y : Beh} (hX : agB n X Y) : agE n (updE ρ a X) (updE ρ' a Y):=fun b=>by
 unfold updE
 split
 · exact hX
 · exact h b
theorem den_node {k so : Int} {nm : ByteArray} {ls : List ByteArray} {l : List Tp} (h9 : k ≠ 9) (h8 : k ≠ 8) (ρ : Env) (n : Nat) : den (.mk k so nm ls l) ρ (n + 1) = .nd k so ls (l.map fun x=>den x ρ n) ∧ den (.mk k so nm ls l) ρ 0 = .cut:=by
 have e : den (.mk k so nm ls l) ρ = fun n=>match n with | 0=>.cut | n + 1=>.nd k so ls (dens l ρ n):=by
  conv=>lhs;unfold den
  rw [if_neg h9,if_neg h8]
 rw [e, ← dens_map]
 exact ⟨rfl,rfl⟩
theorem den_rec (so : Int) (nm : ByteArray) (ls : List ByteArray) (x : Tp) (ρ : Env) : den (.mk 8 so nm ls [x]) ρ = fixB (fun X=>den x (updE ρ nm X)):=by
 conv=>lhs;unfold den
 rw [if_neg (by decide),if_pos rfl]
 simp only [denF]
theorem den_var (so : Int) (nm : ByteArray) (ls : List ByteArray) (l : List Tp) (ρ : Env) : den (.mk 9 so nm ls l) ρ = ρ nm:=by
 unfold den
 rw [if_pos rfl]
theorem itB_ag {F G : Beh → Beh} {n : Nat} (h : ∀ X Y,agB n X Y → agB n (F X) (G Y)) : ∀ j,agB n (itB F j) (itB G j)
 | 0=>fun _ _=>rfl
 | j + 1=>h _ _ (itB_ag h j)
theorem den_ag {x : Tp} (hx : OkT x) : ∀ (n : Nat) (ρ ρ' : Env),agE n ρ ρ' → agB n (den x ρ) (den x ρ'):=by
 have node : ∀ (k so : Int) (nm : ByteArray) (ls : List ByteArray) (l : List Tp),k ≠ 9 → k ≠ 8 → (∀ x ∈ l, ∀ (n : Nat) (ρ ρ' : Env),agE n ρ ρ' → agB n (den x ρ) (den x ρ')) → ∀ (n : Nat) (ρ ρ' : Env),agE n ρ ρ' → agB n (den (.mk k so nm ls l) ρ) (den (.mk k so nm ls l) ρ'):=fun k so nm ls l h9 h8 ih n ρ ρ' h m hm=>by
  cases m with
  | zero=>rw [(den_node h9 h8 ρ 0).2,(den_node h9 h8 ρ' 0).2]
  | succ m =>
   rw [(den_node h9 h8 ρ m).1,(den_node h9 h8 ρ' m).1]
   congr 1
   exact List.map_congr_left fun x hx=>ih x hx n ρ ρ' h m (by omega)
 induction hx with
 | nil=>exact node _ _ _ _ _ (by decide) (by decide) (fun x hx=>by cases hx)
 | pass k so x hk h1 h3 hx ih=>exact node _ _ _ _ _ (by omega) (by omega) (fun y hy=>by rw [show y = x by simpa using hy];exact ih)
 | give k x y hk hx hy ih1 ih2=>exact node _ _ _ _ _ (by omega) (by omega) (fun z hz=>by
  rcases List.mem_cons.1 hz with rfl | hz
  · exact ih1
  · rw [show z = y by simpa using hz];exact ih2)
 | pick k ls l hk hl hn h ih=>exact node _ _ _ _ _ (by omega) (by omega) ih
 | bind nm x hn hx ih =>
  intro n ρ ρ' h
  rw [den_rec,den_rec]
  intro m hm
  exact itB_ag (n:=n) (fun X Y hXY=>ih n _ _ (h.upd nm hXY)) (m + 1) m hm
 | var nm hn =>
  intro n ρ ρ' h
  rw [den_var,den_var]
  exact h nm
theorem den_guard {x : Tp} (hx : OkT x) : cnT x → stripK x ≠ 9 → ∀ (n : Nat) (ρ ρ' : Env),agE n ρ ρ' → agB (n + 1) (den x ρ) (den x ρ'):=by
 have node : ∀ (k so : Int) (nm : ByteArray) (ls : List ByteArray) (l : List Tp),k ≠ 9 → k ≠ 8 → (∀ x ∈ l,OkT x) → ∀ (n : Nat) (ρ ρ' : Env),agE n ρ ρ' → agB (n + 1) (den (.mk k so nm ls l) ρ) (den (.mk k so nm ls l) ρ'):=fun k so nm ls l h9 h8 ok n ρ ρ' h m hm=>by
  cases m with
  | zero=>rw [(den_node h9 h8 ρ 0).2,(den_node h9 h8 ρ' 0).2]
  | succ m =>
   rw [(den_node h9 h8 ρ m).1,(den_node h9 h8 ρ' m).1]
   congr 1
   exact List.map_congr_left fun x hx=>den_ag (ok x hx) n ρ ρ' h m (by omega)
 induction hx with
 | nil=>intro _ _;exact node _ _ _ _ _ (by decide) (by decide) (fun x hx=>by cases hx)
 | pass k so x hk h1 h3 hx ih=>intro _ _;exact node _ _ _ _ _ (by omega) (by omega) (fun y hy=>by rw [show y = x by simpa using hy];exact hx)
 | give k x y hk hx hy ih1 ih2=>intro _ _;exact node _ _ _ _ _ (by omega) (by omega) (fun z hz=>by
  rcases List.mem_cons.1 hz with rfl | hz
  · exact hx
  · rw [show z = y by simpa using hz];exact hy)
 | pick k ls l hk hl hn h ih=>intro _ _;exact node _ _ _ _ _ (by omega) (by omega) h
 | bind nm x hn hx ih =>
  intro hc hs n ρ ρ' h
  unfold cnT at hc
  have h9 : stripK x ≠ 9:=hc.1 rfl
  rw [den_rec,den_rec]
  intro m hm
  exact itB_ag (n:=n + 1) (fun X Y hXY=>ih hc.2.1 h9 n _ _ (h.upd nm (hXY.mono (by omega)))) (m + 1) m hm
 | var nm hn=>intro _ hs;exact absurd (by simp [stripK]) hs
def Ctr (F : Beh → Beh) : Prop := ∀ n X Y,agB n X Y → agB (n + 1) (F X) (F Y)
theorem it_stable {F : Beh → Beh} (hF : Ctr F) : ∀ j,agB j (itB F j) (itB F (j + 1))
 | 0=>fun m hm=>by omega
 | j + 1=>hF j _ _ (it_stable hF j)
theorem it_fix {F : Beh → Beh} (hF : Ctr F) : ∀ (j i : Nat),agB j (itB F j) (itB F (j + i))
 | j,0=>fun m hm=>rfl
 | j,i + 1=>fun m hm=>(it_fix hF j i m hm).trans ((it_stable hF (j + i)) m (by omega))
theorem fix_ag {F : Beh → Beh} (hF : Ctr F) (n : Nat) : agB n (fixB F) (itB F n):=fun m hm=>by
 have:=it_fix hF (m + 1) (n - (m + 1)) m (by omega)
 rw [show m + 1 + (n - (m + 1)) = n by omega] at this
 exact this
theorem fix_eq {F : Beh → Beh} (hF : Ctr F) (n : Nat) : F (fixB F) n = fixB F n:=hF n _ _ (fix_ag hF n) n (by omega)
theorem fix_uniq {F : Beh → Beh} (hF : Ctr F) {X : Beh} (hX : ∀ n,X n = F X n) : X = fixB F:=by
 have : ∀ n,agB n X (fixB F):=fun n=>by
  induction n with
  | zero=>intro m hm;omega
  | succ n ih =>
   intro m hm
   by_cases h : m < n
   · exact ih m h
   · have : m = n:=by omega
     subst this
     rw [hX m, ← fix_eq hF]
     exact hF m _ _ ih m (by omega)
 funext n
 exact this (n + 1) n (by omega)
theorem agE_refl (n : Nat) (ρ : Env) : agE n ρ ρ := fun _ _ _=>rfl
theorem rec_ctr {nm : ByteArray} {x : Tp} (hx : OkT x) (hc : cnT x) (h9 : stripK x ≠ 9) (ρ : Env) : Ctr fun X=>den x (updE ρ nm X):=fun n X Y h=>den_guard hx hc h9 n _ _ ((agE_refl n ρ).upd nm h)
theorem den_uniq {nm : ByteArray} {x : Tp} (hx : OkT x) (hc : cnT x) (h9 : stripK x ≠ 9) (so : Int) (ls : List ByteArray) (ρ : Env) {X : Beh} (h : X = den x (updE ρ nm X)) : X = den (.mk 8 so nm ls [x]) ρ := by
 rw [den_rec]
 exact fix_uniq (rec_ctr hx hc h9 ρ) fun n=>congrFun h n
def envG (G : List Nd) (ns : List ByteArray) (av : List Int) : Env:=fun a n=>match lastIx a ns ns.length with | some j=>obs G n (av.getD j 0) | none=>.cut
theorem lastIx_app {a : ByteArray} {ns : List ByteArray} (nm : ByteArray) : ∀ n,n ≤ ns.length → lastIx a (ns ++ [nm]) n = lastIx a ns n
 | 0,_=>rfl
 | n + 1,h=>by
  unfold lastIx
  have e : (ns ++ [nm]).getD n noB = ns.getD n noB:=by
   rw [List.getD_eq_getElem?_getD,List.getD_eq_getElem?_getD,List.getElem?_append_left (by omega)]
  rw [e,lastIx_app nm n (by omega)]
theorem lastIx_lt {a : ByteArray} {ns : List ByteArray} : ∀ {n j : Nat},lastIx a ns n = some j → j < n
 | n + 1,j,h=>by
  unfold lastIx at h
  split at h
  · cases h;omega
  · have:=lastIx_lt h;omega
theorem envG_upd (G : List Nd) {ns : List ByteArray} {av : List Int} (hl : ns.length = av.length) (nm : ByteArray) (v : Int) : envG G (ns ++ [nm]) (av ++ [v]) = updE (envG G ns av) nm (fun n=>obs G n v):=by
 funext a n
 unfold envG updE
 have e : lastIx a (ns ++ [nm]) (ns ++ [nm]).length = if (nm.toList == a.toList) = true then some ns.length else lastIx a ns ns.length:=by
  rw [List.length_append,List.length_cons,List.length_nil]
  show lastIx a (ns ++ [nm]) (ns.length + 1) = _
  conv=>lhs;unfold lastIx
  have e1 : (ns ++ [nm]).getD ns.length noB = nm:=by
   rw [List.getD_eq_getElem?_getD,List.getElem?_append_right (Nat.le_refl _),Nat.sub_self];rfl
  rw [e1,lastIx_app nm _ (Nat.le_refl _)]
 rw [e]
 by_cases h : a = nm
 · subst h
   simp only [beq_self_eq_true,if_true]
   rw [List.getD_eq_getElem?_getD,hl,List.getElem?_append_right (Nat.le_refl _),Nat.sub_self];rfl
 · have : ¬ (nm.toList == a.toList) = true:=by
    rw [beq_iff_eq];exact fun he=>h (tl_inj he).symm
   rw [if_neg this,if_neg h]
   cases hi : lastIx a ns ns.length with
   | none=>simp only [hi]
   | some j =>
    have:=lastIx_lt hi
    simp only [hi]
    rw [List.getD_eq_getElem?_getD,List.getD_eq_getElem?_getD,List.getElem?_append_left (by omega)]
theorem addT_first {x : Tp} (h : OkT x) : cnT x → stripK x ≠ 9 → ∀ (ns : List ByteArray) (av : List Int) (L : List Nd),(addT x ns av L).1 = (L.length : Int):=by
 have node : ∀ (k so : Int) (nm : ByteArray) (ls : List ByteArray) (l : List Tp) (ns : List ByteArray) (av : List Int) (L : List Nd),k ≠ 9 → k ≠ 8 → (addT (.mk k so nm ls l) ns av L).1 = (L.length : Int):=fun k so nm ls l ns av L h9 h8=>by
  unfold addT
  rw [if_neg h9,if_neg h8]
 induction h with
 | nil=>intro _ _ ns av L;exact node _ _ _ _ _ _ _ _ (by decide) (by decide)
 | pass k so x hk h1 h3 hx ih=>intro _ _ ns av L;exact node _ _ _ _ _ _ _ _ (by omega) (by omega)
 | give k x y hk hx hy ih1 ih2=>intro _ _ ns av L;exact node _ _ _ _ _ _ _ _ (by omega) (by omega)
 | pick k ls l hk hl hn h ih=>intro _ _ ns av L;exact node _ _ _ _ _ _ _ _ (by omega) (by omega)
 | bind nm x hn hx ih =>
  intro hc hs ns av L
  unfold cnT at hc
  conv=>lhs;unfold addT
  rw [if_neg (by decide),if_pos rfl]
  simp only [addF]
  exact ih hc.2.1 (hc.1 rfl) _ _ L
 | var nm hn=>intro _ hs;exact absurd (by simp [stripK]) hs
def Ext (G : List Nd) (m : Nat) (L : List Nd) : Prop := ∀ i,m ≤ i → i < L.length → G[i]? = L[i]?
def DenG (x : Tp) : Prop:=cnT x → ∀ (ns : List ByteArray) (av : List Int) (L G : List Nd),ns.length = av.length → clT x ns → Ext G L.length (addT x ns av L).2 → ∀ n,obs G n (addT x ns av L).1 = den x (envG G ns av) n
theorem dens_obs : ∀ {l : List Tp},(∀ x ∈ l,DenG x) → cnTs l → ∀ (ns : List ByteArray) (av : List Int) (L G : List Nd),ns.length = av.length → clTs l ns → Ext G L.length (addTs l ns av L).2 → ∀ n,(addTs l ns av L).1.map (obs G n) = l.map fun x=>den x (envG G ns av) n
 | [],_,_,ns,av,L,G,_,_,_,n=>by simp [addTs]
 | x :: l,h,hc,ns,av,L,G,hl,hcl,he,n=>by
  unfold cnTs at hc
  unfold clTs at hcl
  simp only [addTs] at he ⊢
  have l1:=addT_len x ns av L
  have l2:=addTs_len l ns av (addT x ns av L).2
  rw [List.map_cons,List.map_cons,h x (by simp) hc.1 ns av L G hl hcl.1 (fun i h1 h2=>by rw [he i h1 (by omega),addTs_keep l ns av _ i h2]) n,
   dens_obs (fun y hy=>h y (by simp [hy])) hc.2 ns av _ G hl hcl.2 (fun i h1 h2=>he i (by omega) h2) n]
theorem den_obs {x : Tp} (hx : OkT x) : DenG x:=by
 have node : ∀ (k so : Int) (nm : ByteArray) (ls : List ByteArray) (l : List Tp),k ≠ 9 → k ≠ 8 → (∀ x ∈ l,DenG x) → DenG (.mk k so nm ls l):=fun k so nm ls l h9 h8 ih hc ns av L G hl hcl he n=>by
  unfold cnT at hc
  unfold clT at hcl
  rw [if_neg h8] at hcl
  cases n with
  | zero=>rw [(den_node h9 h8 _ 0).2];rfl
  | succ n =>
   rw [(den_node h9 h8 _ n).1]
   have e1 : (addT (.mk k so nm ls l) ns av L).1 = (L.length : Int):=by unfold addT;rw [if_neg h9,if_neg h8]
   have e2 : (addT (.mk k so nm ls l) ns av L).2 = (addTs l ns av (L ++ [⟨k,so,ls,[]⟩])).2.set L.length ⟨k,so,ls,(addTs l ns av (L ++ [⟨k,so,ls,[]⟩])).1⟩:=by
    conv=>lhs;unfold addT
    rw [if_neg h9,if_neg h8]
   have l1:=addTs_len l ns av (L ++ [⟨k,so,ls,[]⟩])
   simp only [List.length_append,List.length_cons,List.length_nil] at l1
   rw [e2] at he
   have hg : G[L.length]? = some ⟨k,so,ls,(addTs l ns av (L ++ [⟨k,so,ls,[]⟩])).1⟩:=by
    rw [he L.length (Nat.le_refl _) (by rw [List.length_set];omega),List.getElem?_set_self (by omega)]
   rw [e1,obs,gAt_nat hg]
   simp only
   congr 1
   refine dens_obs ih hc.2 ns av _ G hl hcl.2 (fun i h1 h2=>?_) n
   simp only [List.length_append,List.length_cons,List.length_nil] at h1
   rw [he i (by omega) (by rw [List.length_set];exact h2),List.getElem?_set_ne (by omega)]
 induction hx with
 | nil=>exact node _ _ _ _ _ (by decide) (by decide) (fun x hx=>by cases hx)
 | pass k so x hk h1 h3 hx ih=>exact node _ _ _ _ _ (by omega) (by omega) (fun y hy=>by rw [show y = x by simpa using hy];exact ih)
 | give k x y hk hx hy ih1 ih2=>exact node _ _ _ _ _ (by omega) (by omega) (fun z hz=>by
  rcases List.mem_cons.1 hz with rfl | hz
  · exact ih1
  · rw [show z = y by simpa using hz];exact ih2)
 | pick k ls l hk hl hn h ih=>exact node _ _ _ _ _ (by omega) (by omega) ih
 | bind nm x hn hx ih =>
  intro hc ns av L G hl hcl he
  unfold cnT at hc
  unfold clT at hcl
  rw [if_pos rfl] at hcl
  have h9 : stripK x ≠ 9:=hc.1 rfl
  have e : addT (.mk 8 0 nm [] [x]) ns av L = addT x (ns ++ [nm]) (av ++ [(L.length : Int)]) L:=by
   conv=>lhs;unfold addT
   rw [if_neg (by decide),if_pos rfl]
   simp only [addF]
  rw [e] at he ⊢
  have h1:=ih hc.2.1 (ns ++ [nm]) (av ++ [(L.length : Int)]) L G (by simp [hl]) hcl.2.1 he
  have hf:=addT_first hx hc.2.1 h9 (ns ++ [nm]) (av ++ [(L.length : Int)]) L
  rw [envG_upd G hl,hf] at h1
  intro n
  rw [hf]
  have:=den_uniq hx hc.2.1 h9 0 [] (envG G ns av) (nm:=nm) (X:=fun n=>obs G n (L.length : Int)) (funext h1)
  exact congrFun this n
 | var nm hn =>
  intro hc ns av L G hl hcl he n
  rw [den_var]
  unfold addT
  rw [if_pos rfl]
  unfold clT at hcl
  obtain ⟨j,hj⟩:=lastIx_in (hcl.1 rfl)
  unfold envG
  rw [hj]
theorem den_cl {x : Tp} (hx : OkT x) : ∀ (b : List ByteArray) (ρ ρ' : Env),clT x b → (∀ a ∈ b, ρ a = ρ' a) → den x ρ = den x ρ':=by
 have node : ∀ (k so : Int) (nm : ByteArray) (ls : List ByteArray) (l : List Tp),k ≠ 9 → k ≠ 8 → (∀ x ∈ l, ∀ (b : List ByteArray) (ρ ρ' : Env),clT x b → (∀ a ∈ b, ρ a = ρ' a) → den x ρ = den x ρ') → ∀ (b : List ByteArray) (ρ ρ' : Env),clT (.mk k so nm ls l) b → (∀ a ∈ b, ρ a = ρ' a) → den (.mk k so nm ls l) ρ = den (.mk k so nm ls l) ρ':=fun k so nm ls l h9 h8 ih b ρ ρ' hcl h=>by
  unfold clT at hcl
  rw [if_neg h8] at hcl
  funext m
  cases m with
  | zero=>rw [(den_node h9 h8 ρ 0).2,(den_node h9 h8 ρ' 0).2]
  | succ m =>
   rw [(den_node h9 h8 ρ m).1,(den_node h9 h8 ρ' m).1]
   congr 1
   exact List.map_congr_left fun x hx=>by rw [ih x hx b ρ ρ' (clTs_mem hcl.2 x hx) h]
 induction hx with
 | nil=>exact node _ _ _ _ _ (by decide) (by decide) (fun x hx=>by cases hx)
 | pass k so x hk h1 h3 hx ih=>exact node _ _ _ _ _ (by omega) (by omega) (fun y hy=>by rw [show y = x by simpa using hy];exact ih)
 | give k x y hk hx hy ih1 ih2=>exact node _ _ _ _ _ (by omega) (by omega) (fun z hz=>by
  rcases List.mem_cons.1 hz with rfl | hz
  · exact ih1
  · rw [show z = y by simpa using hz];exact ih2)
 | pick k ls l hk hl hn h ih=>exact node _ _ _ _ _ (by omega) (by omega) ih
 | bind nm x hn hx ih =>
  intro b ρ ρ' hcl h
  unfold clT at hcl
  rw [if_pos rfl] at hcl
  rw [den_rec,den_rec]
  congr 1
  funext X
  refine ih (b ++ [nm]) _ _ hcl.2.1 fun a ha=>?_
  unfold updE
  split
  · rfl
  · rename_i hne
    rcases List.mem_append.1 ha with ha | ha
    · exact h a ha
    · exact absurd (by simpa using ha) hne
 | var nm hn =>
  intro b ρ ρ' hcl h
  unfold clT at hcl
  rw [den_var,den_var]
  exact h nm (inL_iff.1 (hcl.1 rfl))
def eps : Env:=fun _=>cutB
theorem trT_den {x : Tp} (h : tCheck x = 0) (ρ : Env) : trT x = den x ρ := by
 obtain ⟨h1,h2,h3,h4,h5,h6⟩:=raw_good h
 have hc:=cl_tchk x [] 60 h
 have hz : stripK x ≠ 9:=strip_top x h1 hc.2 hc.1
 funext n
 have:=den_obs h1 hc.2 [] [] [] (rawP x) rfl h2 (fun i _ _=>rfl) n
 rw [addT_first h1 hc.2 hz] at this
 unfold trT
 rw [den_cl h1 [] ρ (envG (rawP x) [] []) h2 (fun a ha=>by cases ha)]
 exact this
end Go.Proofs.YtdcplkefmpjppaaGreatDoor
/- A type in the place of a name: what it does; what stays right. -/
namespace Go.Proofs.YtdcplkefmpjppaaGreatDoor
open Go.RowKit Go.Sw

theorem ok_shaped {x : Tp} (h : OkT x) : shapedB x = true:=by
 cases h with
 | nil=>exact shaped_of (.inl ⟨rfl,rfl,rfl,rfl⟩)
 | pass k so x hk h1 h3 hx=>exact shaped_of (.inr (.inl ⟨hk,⟨h1,h3⟩,rfl,rfl⟩))
 | give k x y hk hx hy=>exact shaped_of (.inr (.inr (.inl ⟨hk,rfl,rfl,rfl⟩)))
 | pick k ls l hk hl hn h=>exact shaped_of (.inr (.inr (.inr ⟨hk,rfl,hl,hn⟩)))
 | bind nm x hn hx=>simp [shapedB,kindOf,shapeB,sortB,hn]
 | var nm hn=>simp [shapedB,kindOf,shapeB,sortB,hn]
def Chk2 (x : Tp) : Prop := ∀ (b : List ByteArray) (left : Int),clT x b → cnT x → ((tchk x b left).1 = 0 ∨ (tchk x b left).1 = 2) ∧ ((x.size : Int) ≤ left → (tchk x b left).1 = 0 ∧ (tchk x b left).2 = left - x.size)
theorem chks2 : ∀ {l : List Tp},(∀ x ∈ l,Chk2 x) → ∀ (b : List ByteArray) (left : Int),clTs l b → cnTs l → ((tchks l b left).1 = 0 ∨ (tchks l b left).1 = 2) ∧ ((Tp.sizes l : Int) ≤ left → (tchks l b left).1 = 0 ∧ (tchks l b left).2 = left - Tp.sizes l)
 | [],_,b,left,_,_=>by simp [tchks,Tp.sizes]
 | x :: l,h,b,left,hcl,hcn=>by
  unfold clTs at hcl
  unfold cnTs at hcn
  have h1:=h x (by simp) b left hcl.1 hcn.1
  have h2:=fun lf=>chks2 (l:=l) (fun y hy=>h y (by simp [hy])) b lf hcl.2 hcn.2
  unfold tchks
  by_cases h0 : (tchk x b left).1 = 0
  · rw [if_neg (by simpa using h0)]
    refine ⟨(h2 _).1,fun hs=>?_⟩
    simp only [Tp.sizes] at hs ⊢
    have h3:=h1.2 (by omega)
    have h4:=(h2 (tchk x b left).2).2 (by omega)
    exact ⟨h4.1,by omega⟩
  · rw [if_pos (by simpa using h0)]
    refine ⟨h1.1,fun hs=>?_⟩
    simp only [Tp.sizes] at hs
    exact absurd (h1.2 (by omega)).1 h0
theorem chk2_of {x : Tp} (hx : OkT x) : Chk2 x:=by
 have node : ∀ (k so : Int) (nm : ByteArray) (ls : List ByteArray) (l : List Tp),shapedB (.mk k so nm ls l) = true → (k = 9 → l = []) → (∀ x ∈ l,Chk2 x) → Chk2 (.mk k so nm ls l):=fun k so nm ls l hs h9l ih b left hcl hcn=>by
  unfold clT at hcl
  unfold cnT at hcn
  unfold tchk
  by_cases hneg : left - 1 < 0
  · rw [if_pos hneg]
    exact ⟨.inr rfl,fun h=>by simp only [Tp.size] at h;omega⟩
  rw [if_neg hneg,if_neg (by rw [hs];decide)]
  by_cases h9 : k = 9
  · rw [if_pos h9,if_neg (by rw [hcl.1 h9];decide)]
    have hl:=h9l h9
    subst hl
    simp [tchks,Tp.size,Tp.sizes]
  rw [if_neg h9]
  by_cases h8 : k = 8
  · rw [if_pos h8,if_neg (hcn.1 h8)]
    rw [if_pos h8] at hcl
    have:=chks2 ih (b ++ [nm]) (left - 1) hcl.2 hcn.2
    refine ⟨this.1,fun h=>?_⟩
    simp only [Tp.size] at h ⊢
    have:=this.2 (by omega)
    exact ⟨this.1,by omega⟩
  · rw [if_neg h8]
    rw [if_neg h8] at hcl
    have:=chks2 ih b (left - 1) hcl.2 hcn.2
    refine ⟨this.1,fun h=>?_⟩
    simp only [Tp.size] at h ⊢
    have:=this.2 (by omega)
    exact ⟨this.1,by omega⟩
 have hsx:=ok_shaped hx
 induction hx with
 | nil=>exact node _ _ _ _ _ hsx (fun _=>rfl) (fun x hx=>by cases hx)
 | pass k so x hk h1 h3 hx ih=>exact node _ _ _ _ _ hsx (fun h=>by omega) (fun y hy=>by rw [show y = x by simpa using hy];exact ih (ok_shaped hx))
 | give k x y hk hx hy ih1 ih2=>exact node _ _ _ _ _ hsx (fun h=>by omega) (fun z hz=>by
  rcases List.mem_cons.1 hz with rfl | hz
  · exact ih1 (ok_shaped hx)
  · rw [show z = y by simpa using hz];exact ih2 (ok_shaped hy))
 | pick k ls l hk hl hn h ih=>exact node _ _ _ _ _ hsx (fun h=>by omega) (fun x hx=>ih x hx (ok_shaped (h x hx)))
 | bind nm x hn hx ih=>exact node _ _ _ _ _ hsx (fun h=>by omega) (fun y hy=>by rw [show y = x by simpa using hy];exact ih (ok_shaped hx))
 | var nm hn=>exact node _ _ _ _ _ hsx (fun _=>rfl) (fun x hx=>by cases hx)
theorem check_ok {x : Tp} (hx : OkT x) (hcl : clT x []) (hcn : cnT x) : (tCheck x = 0 ∨ tCheck x = 2) ∧ (x.size ≤ 60 → tCheck x = 0):=by
 have:=chk2_of hx [] 60 hcl hcn
 exact ⟨this.1,fun h=>(this.2 (by omega)).1⟩
theorem check_all {x : Tp} (h : tCheck x = 0) : OkT x ∧ clT x [] ∧ cnT x ∧ x.size ≤ 60:=by
 have h1:=ok_check h
 have h2:=cl_tchk x [] 60 h
 exact ⟨h1.1,h2.1,h2.2,h1.2⟩
end Go.Proofs.YtdcplkefmpjppaaGreatDoor
/- What is said of Bekic's and Milner's laws, in plain words. -/
namespace Go.Proofs.YtdcplkefmpjppaaGreatDoor
open Go.RowKit Go.Sw

end Go.Proofs.YtdcplkefmpjppaaGreatDoor
