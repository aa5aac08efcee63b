/- graph.parted and least as plain functions. -/
import Derived.Test.YtgecnlcbdbaneaaDoorH2
set_option linter.unusedVariables false
set_option linter.unusedSimpArgs false
namespace Go.Proofs.YtgecnlcbdbaneaaDoor
open Go.RowKit Go.Sw
open _root_.List renaming length_cons → za, cons_append → zb, length_nil → ze

abbrev spS : ByteArray:=⟨#[32]⟩
def vg5 (a : ByteArray) (l : List ByteArray) : ByteArray:=l.foldl (fun a x=>a ++ (spS ++ x)) a
theorem vz6 (a : ByteArray) (l : List ByteArray) (x : ByteArray) : vg5 a (l ++ [x]) = vg5 a l ++ (spS ++ x):=by simp [vg5]
theorem vb2 (b : Nat) : ∀ (l : List ByteArray) (a : ByteArray),(∀ x ∈ l,x.size ≤ b) → (vg5 a l).size ≤ a.size + l.length * (b + 1)
 | [],a,_=>by simp [vg5]
 | x :: l,a,h=>by
  have:=vb2 b l (a ++ (spS ++ x)) (fun y hy=>h y (by simp [hy]))
  have h1:=h x (by simp)
  simp only [vg5,List.foldl_cons,za,Nat.add_mul] at this ⊢
  have h2 : (a ++ (spS ++ x)).size = a.size + (1 + x.size):=by
   rw [ByteArray.size_append,ByteArray.size_append];rfl
  omega
def keyOf (cl : List Int) (i : Nat) (n : Nd) : ByteArray :=
 vg5 (vg5 (qn3 n.k ++ spS ++ qn3 n.so) n.ls ++ (spS ++ qn3 (cl.getD i 0))) (n.to.map fun k=>qn3 (cl.getD k.toNat 0))
def qg7 (cl : List Int) : Nat → List Nd → List ByteArray
 | _,[]=>[]
 | i,n :: g=>keyOf cl i n :: qg7 cl (i + 1) g
theorem qh4 (cl : List Int) : ∀ (g : List Nd) (i : Nat),(qg7 cl i g).length = g.length
 | [],i=>rfl
 | n :: g,i=>by simp [qg7,qh4 cl g]
theorem qm4 (cl : List Int) : ∀ (g : List Nd) (i j : Nat) (n : Nd),g[j]? = some n → (qg7 cl i g)[j]? = some (keyOf cl (i + j) n)
 | m :: g,i,0,n,h=>by simp at h;subst h;simp [qg7]
 | m :: g,i,j + 1,n,h=>by
  have:=qm4 cl g (i + 1) j n (by simpa using h)
  simp only [qg7,List.getElem?_cons_succ,this]
  rw [show i + 1 + j = i + (j + 1) by omega]
def ixK (K : ByteArray) : List ByteArray → Nat → Option Nat
 | [],_=>none
 | x :: l,i=>bif K == x then some i else ixK K l (i + 1)
def vz2 (Ks : List ByteArray) (K : ByteArray) : List ByteArray:=match ixK K Ks 0 with | some _=>Ks | none=>Ks ++ [K]
def qh0 (ks : List ByteArray) : List ByteArray:=ks.foldl vz2 []
def plK (K : ByteArray) (Ks : List ByteArray) : Int:=((ixK K Ks 0).getD 0 : Nat)
def qv4 (ks : List ByteArray) : List Int:=ks.map fun K=>plK K (qh0 ks)
def mOf : Nat → List ByteArray → List (Value × Value)
 | _,[]=>[]
 | i,K :: Ks=>(.string K,.int .i64 (i : Int)) :: mOf (i + 1) Ks
theorem xg7 : ∀ (Ks : List ByteArray) (i : Nat),(mOf i Ks).length = Ks.length
 | [],i=>rfl
 | K :: Ks,i=>by simp [mOf,xg7 Ks]
theorem vy6 (K : ByteArray) : ∀ (Ks : List ByteArray) (i : Nat),qe4 (.string K) (mOf i Ks) i = (ixK K Ks i).map fun p=>(p,.int .i64 (p : Int))
 | [],i=>rfl
 | x :: Ks,i=>by
  simp only [mOf,qe4,ixK]
  rw [show keq (.string K) (.string x) = (K == x) from rfl]
  cases K == x with
  | true=>rfl
  | false=>simp only [cond_false];exact vy6 K Ks (i + 1)
theorem xy9 (K : ByteArray) : ∀ (Ks : List ByteArray) (i j : Nat),ixK K Ks j = none → vn3 (.string K) (.int .i64 ((i + Ks.length : Nat) : Int)) (mOf i Ks) = mOf i (Ks ++ [K])
 | [],i,j,h=>by simp [mOf,vn3]
 | x :: Ks,i,j,h=>by
  unfold ixK at h
  cases hb : K == x with
  | true=>rw [hb] at h;cases h
  | false =>
   rw [hb,cond_false] at h
   have:=xy9 K Ks (i + 1) (j + 1) h
   simp only [mOf,vn3,zb,za]
   rw [show keq (.string K) (.string x) = (K == x) from rfl,hb,cond_false]
   rw [show i + (Ks.length + 1) = i + 1 + Ks.length by omega,this]
theorem xs7 : ∀ (Ks : List ByteArray) (i : Nat), ∀ q ∈ mOf i Ks, ∃ K v,q = (Value.string K,v)
 | K :: Ks,i,q,h=>by
  unfold mOf at h
  rcases List.mem_cons.1 h with rfl | h
  · exact ⟨_,_,rfl⟩
  · exact xs7 Ks (i + 1) q h
theorem xe2 (K : ByteArray) (Ks : List ByteArray) : vn4 Tryd.prog 9 (.string K) (mOf 0 Ks) :=
 xn6 un9 (by simp [Go.MapKept.IsKey]) fun q hq=>by
  obtain ⟨K',v,rfl⟩:=xs7 Ks 0 q hq
  simp [Go.MapKept.IsKey]
theorem yo3 {K : ByteArray} : ∀ {Ks : List ByteArray} {i p : Nat},ixK K Ks i = some p → i ≤ p ∧ p < i + Ks.length
 | x :: Ks,i,p,h=>by
  unfold ixK at h
  simp only [za]
  cases hb : K == x with
  | true=>rw [hb] at h;simp at h;omega
  | false =>
   rw [hb,cond_false] at h
   have:=yo3 h
   omega
theorem yy7 {K : ByteArray} : ∀ {Ks : List ByteArray} {i p : Nat} (Ks' : List ByteArray),ixK K Ks i = some p → ixK K (Ks ++ Ks') i = some p
 | x :: Ks,i,p,Ks',h=>by
  unfold ixK at h
  simp only [zb]
  unfold ixK
  cases hb : K == x with
  | true=>rw [hb] at h;exact h
  | false =>
   rw [hb,cond_false] at h
   rw [cond_false]
   exact yy7 Ks' h
theorem qx7 {K : ByteArray} : ∀ {Ks : List ByteArray} {i : Nat},ixK K Ks i = none → ixK K (Ks ++ [K]) i = some (i + Ks.length)
 | [],i,h=>by
  simp only [List.nil_append,ixK,ze,Nat.add_zero]
  rw [(Go.MapKept.bytes_beq K K).2 rfl];rfl
 | x :: Ks,i,h=>by
  unfold ixK at h
  simp only [zb]
  unfold ixK
  cases hb : K == x with
  | true=>rw [hb] at h;cases h
  | false =>
   rw [hb,cond_false] at h
   rw [cond_false,qx7 h,za]
   rw [show i + 1 + Ks.length = i + (Ks.length + 1) by omega]
theorem qk2 (l : List ByteArray) (K : ByteArray) : qh0 (l ++ [K]) = vz2 (qh0 l) K:=by simp [qh0]
theorem yk8 {Ks : List ByteArray} {K K' : ByteArray} {p : Nat} (h : ixK K Ks 0 = some p) : ixK K (vz2 Ks K') 0 = some p:=by
 unfold vz2
 split
 · exact h
 · exact yy7 _ h
theorem ym1 (Ks : List ByteArray) (K : ByteArray) : ∃ p,ixK K (vz2 Ks K) 0 = some p:=by
 unfold vz2
 split
 · rename_i p h;exact ⟨p,h⟩
 · rename_i h;exact ⟨_,qx7 h⟩
theorem vc9 {α : Type} {Q : List α → Prop} (h0 : Q []) (hs : ∀ l x,Q l → Q (l ++ [x])) (l : List α) : Q l:=by
 have : ∀ l : List α,Q l.reverse:=fun l=>by
  induction l with
  | nil=>exact h0
  | cons x l ih=>rw [List.reverse_cons];exact hs _ _ ih
 have h:=this l.reverse
 rwa [List.reverse_reverse] at h
theorem qk6 : ∀ {l : List ByteArray} {K : ByteArray},K ∈ l → ∃ p,ixK K (qh0 l) 0 = some p:=fun {l}=>by
 induction l using vc9 with
 | h0=>intro K h;cases h
 | hs l x ih =>
  intro K h
  rw [qk2]
  rcases List.mem_append.1 h with h | h
  · obtain ⟨p,hp⟩:=ih h
    exact ⟨p,yk8 hp⟩
  · obtain rfl : K = x:=by simpa using h
    exact ym1 _ _
theorem ym4 (l : List ByteArray) (K : ByteArray) : qv4 (l ++ [K]) = qv4 l ++ [plK K (vz2 (qh0 l) K)]:=by
 unfold qv4
 rw [List.map_append,qk2]
 congr 1
 apply List.map_congr_left
 intro K' h
 obtain ⟨p,hp⟩:=qk6 h
 unfold plK
 rw [hp,yk8 hp]
theorem yt0 (Ks : List ByteArray) (K : ByteArray) : (vz2 Ks K).length ≤ Ks.length + 1:=by
 unfold vz2
 split
 · omega
 · simp
theorem vi5 (l : List ByteArray) : (qh0 l).length ≤ l.length:=by
 induction l using vc9 with
 | h0=>simp [qh0]
 | hs l x ih =>
  rw [qk2,List.length_append]
  have:=yt0 (qh0 l) x
  simp only [za,ze];omega
theorem xb3 {K : ByteArray} {Ks : List ByteArray} (h : Ks ≠ []) : 0 ≤ plK K Ks ∧ plK K Ks < (Ks.length : Int):=by
 unfold plK
 cases hi : ixK K Ks 0 with
 | none =>
  have : 0 < Ks.length:=List.length_pos_iff.2 h
  simp only [Option.getD_none];omega
 | some p =>
  have:=yo3 hi
  simp only [Option.getD_some];omega
theorem qw0 (l : List ByteArray) : ∀ c ∈ qv4 l,0 ≤ c ∧ c < (qh0 l).length:=by
 intro c hc
 obtain ⟨K,hK,rfl⟩:=List.mem_map.1 hc
 obtain ⟨p,hp⟩:=qk6 hK
 refine xb3 fun h=>?_
 rw [h] at hp
 cases hp
def vy4 (g : List Nd) : Nat → List Int → Nat → List Int
 | 0,cl,_=>cl
 | f + 1,cl,many=>if (qh0 (qg7 cl 0 g)).length = many then qv4 (qg7 cl 0 g) else vy4 g f (qv4 (qg7 cl 0 g)) (qh0 (qg7 cl 0 g)).length
def ql4 (g : List Nd) : List Int:=vy4 g (g.length + 1) (List.replicate g.length 0) 0
structure NdOK (n : Nat) (x : Nd) : Prop where
 k : 0 ≤ x.k ∧ x.k < 100
 so : 0 ≤ x.so ∧ x.so < 100
 ls : x.ls.length ≤ 6
 lb : ∀ l ∈ x.ls,l.size ≤ 8
 to : x.to.length ≤ 6
 r : ∀ t ∈ x.to,0 ≤ t ∧ t < (n : Int)
end Go.Proofs.YtgecnlcbdbaneaaDoor
/- graph.least as a plain function. -/
namespace Go.Proofs.YtgecnlcbdbaneaaDoor
open Go.RowKit Go.Sw
open _root_.List renaming length_cons → za, cons_append → zb

def cOf (cl : List Int) (k : Int) : Int:=cl.getD k.toNat 0
def ixI (c : Int) : List Int → Nat → Option Nat
 | [],_=>none
 | x :: l,i=>bif c == x then some i else ixI c l (i + 1)
def plI (c : Int) (Cs : List Int) : Int:=((ixI c Cs 0).getD 0 : Nat)
def mI : Nat → List Int → List (Value × Value)
 | _,[]=>[]
 | i,c :: Cs=>(.int .i64 c,.int .i64 (i : Int)) :: mI (i + 1) Cs
theorem ye5 (a b : Int) : keq (.int .i64 a) (.int .i64 b) = (a == b):=by simp [keq,kql]
theorem vn5 (c : Int) : ∀ (Cs : List Int) (i : Nat),qe4 (.int .i64 c) (mI i Cs) i = (ixI c Cs i).map fun p=>(p,.int .i64 (p : Int))
 | [],i=>rfl
 | x :: Cs,i=>by
  simp only [mI,qe4,ixI,ye5]
  cases c == x with
  | true=>rfl
  | false=>simp only [cond_false];exact vn5 c Cs (i + 1)
theorem yi7 (c : Int) : ∀ (Cs : List Int) (i j : Nat),ixI c Cs j = none → vn3 (.int .i64 c) (.int .i64 ((i + Cs.length : Nat) : Int)) (mI i Cs) = mI i (Cs ++ [c])
 | [],i,j,h=>by simp [mI,vn3]
 | x :: Cs,i,j,h=>by
  unfold ixI at h
  cases hb : c == x with
  | true=>rw [hb] at h;cases h
  | false =>
   rw [hb,cond_false] at h
   have:=yi7 c Cs (i + 1) (j + 1) h
   simp only [mI,vn3,zb,za]
   rw [ye5,hb,cond_false,show i + (Cs.length + 1) = i + 1 + Cs.length by omega,this]
theorem xy5 : ∀ (Cs : List Int) (i : Nat), ∀ q ∈ mI i Cs, ∃ c v,q = (Value.int .i64 c,v)
 | c :: Cs,i,q,h=>by
  unfold mI at h
  rcases List.mem_cons.1 h with rfl | h
  · exact ⟨_,_,rfl⟩
  · exact xy5 Cs (i + 1) q h
theorem qu6 (c : Int) (Cs : List Int) : vn4 Tryd.prog 3 (.int .i64 c) (mI 0 Cs) :=
 xn6 un3 (by simp [Go.MapKept.IsKey]) fun q hq=>by
  obtain ⟨c',v,rfl⟩:=xy5 Cs 0 q hq
  simp [Go.MapKept.IsKey]
theorem yc3 {c : Int} : ∀ {Cs : List Int} {i p : Nat},ixI c Cs i = some p → i ≤ p ∧ p < i + Cs.length
 | x :: Cs,i,p,h=>by
  unfold ixI at h
  simp only [za]
  cases hb : c == x with
  | true=>rw [hb] at h;simp at h;omega
  | false =>
   rw [hb,cond_false] at h
   have:=yc3 h
   omega
theorem vi1 {c : Int} : ∀ {Cs : List Int} {i : Nat},ixI c Cs i = none → c ∉ Cs
 | [],i,h=>by simp
 | x :: Cs,i,h=>by
  unfold ixI at h
  cases hb : c == x with
  | true=>rw [hb] at h;cases h
  | false =>
   rw [hb,cond_false] at h
   have h1:=vi1 h
   simp only [List.mem_cons,not_or]
   exact ⟨by simpa using hb,h1⟩
theorem qt3 {c : Int} : ∀ {Cs : List Int} {i : Nat},ixI c Cs i = none → ixI c (Cs ++ [c]) i = some (i + Cs.length)
 | [],i,h=>by simp [ixI]
 | x :: Cs,i,h=>by
  unfold ixI at h
  simp only [zb]
  unfold ixI
  cases hb : c == x with
  | true=>rw [hb] at h;cases h
  | false =>
   rw [hb,cond_false] at h
   rw [cond_false,qt3 h,za,show i + 1 + Cs.length = i + (Cs.length + 1) by omega]
def vd6 (cl ord : List Int) (k : Int) : List Int:=match ixI (cOf cl k) (ord.map (cOf cl)) 0 with | some _=>ord | none=>ord ++ [k]
def qv0 (cl : List Int) : List Int → List Int → List Int × List Int
 | [],ord=>([],ord)
 | k :: to,ord=>(plI (cOf cl k) ((vd6 cl ord k).map (cOf cl)) :: (qv0 cl to (vd6 cl ord k)).1,(qv0 cl to (vd6 cl ord k)).2)
theorem vl7 (cl : List Int) (k : Int) : ∀ (to ord : List Int),qv0 cl (to ++ [k]) ord = ((qv0 cl to ord).1 ++ [plI (cOf cl k) ((vd6 cl (qv0 cl to ord).2 k).map (cOf cl))],vd6 cl (qv0 cl to ord).2 k)
 | [],ord=>by simp [qv0]
 | x :: to,ord=>by simp [qv0,vl7 cl k to]
theorem qv9 (cl : List Int) : ∀ (to ord : List Int),(qv0 cl to ord).1.length = to.length
 | [],ord=>by simp [qv0]
 | x :: to,ord=>by simp [qv0,qv9 cl to]
def vs8 (g : List Nd) (cl : List Int) : Nat → Nat → List Int → List Nd → List Nd
 | 0,_,_,out=>out
 | f + 1,at',ord,out=>match ord[at']? with
  | none=>out
  | some v=>match g[v.toNat]? with
   | none=>out
   | some n=>vs8 g cl f (at' + 1) (qv0 cl n.to ord).2 (out ++ [⟨n.k,n.so,n.ls,(qv0 cl n.to ord).1⟩])
def qk0 (g : List Nd) : List Nd:=vs8 g (ql4 g) (g.length + 1) 0 [0] []
theorem xd6 : ∀ (n : Nat) (l : List Int),l.Nodup → (∀ v ∈ l,0 ≤ v ∧ v < (n : Int)) → l.length ≤ n
 | 0,l,hn,h=>by
  cases l with
  | nil=>simp
  | cons x l=>have:=h x (by simp);omega
 | n + 1,l,hn,h=>by
  have h1:=xd6 n (l.erase (n : Int)) (hn.erase _) (fun v hv=>by
   have hm:=hn.mem_erase_iff.1 hv
   have:=h v hm.2
   have hne:=hm.1
   omega)
  by_cases hm : (n : Int) ∈ l
  · have:=List.length_erase_of_mem hm;omega
  · rw [List.erase_of_not_mem hm] at h1;omega
structure vo5 (cl : List Int) (n : Nat) (ord : List Int) : Prop where
 r : ∀ v ∈ ord,0 ≤ v ∧ v < (n : Int)
 nd : (ord.map (cOf cl)).Nodup
theorem vo5.len {cl ord : List Int} {n : Nat} (h : vo5 cl n ord) : ord.length ≤ n:=xd6 n ord (by
 have:=h.nd
 clear h
 induction ord with
 | nil=>exact List.nodup_nil
 | cons x l ih =>
  simp only [List.map_cons,List.nodup_cons] at this ⊢
  exact ⟨fun hx=>this.1 (List.mem_map_of_mem hx),ih this.2⟩) h.r
theorem vo5.add {cl ord : List Int} {n : Nat} (h : vo5 cl n ord) {k : Int} (hk : 0 ≤ k ∧ k < (n : Int)) : vo5 cl n (vd6 cl ord k):=by
 unfold vd6
 split
 · exact h
 · rename_i hx
   refine ⟨fun v hv=>?_,?_⟩
   · rcases List.mem_append.1 hv with hv | hv
     · exact h.r v hv
     · obtain rfl : v = k:=by simpa using hv
       exact hk
   · rw [List.map_append]
     refine List.nodup_append.2 ⟨h.nd,by simp,fun a ha b hb hab=>?_⟩
     obtain rfl : b = cOf cl k:=by simpa using hb
     exact vi1 hx (hab ▸ ha)
theorem vo5.row {cl : List Int} {n : Nat} : ∀ {to ord : List Int},vo5 cl n ord → (∀ k ∈ to,0 ≤ k ∧ k < (n : Int)) → vo5 cl n (qv0 cl to ord).2
 | [],ord,h,_=>h
 | k :: to,ord,h,ht=>vo5.row (to:=to) (h.add (ht k (by simp))) fun x hx=>ht x (by simp [hx])
theorem yu0 (cl ord : List Int) (k : Int) : ord.length ≤ (vd6 cl ord k).length ∧ ∀ j,j < ord.length → (vd6 cl ord k)[j]? = ord[j]? := by
 unfold vd6
 split
 · exact ⟨Nat.le_refl _,fun _ _=>rfl⟩
 · exact ⟨by simp,fun j hj=>List.getElem?_append_left hj⟩
theorem qr7 (cl : List Int) : ∀ (to ord : List Int),ord.length ≤ (qv0 cl to ord).2.length ∧ ∀ j,j < ord.length → (qv0 cl to ord).2[j]? = ord[j]?
 | [],ord=>⟨Nat.le_refl _,fun _ _=>rfl⟩
 | k :: to,ord=>by
  have h1:=yu0 cl ord k
  have h2:=qr7 cl to (vd6 cl ord k)
  simp only [qv0]
  exact ⟨by omega,fun j hj=>by rw [h2.2 j (by omega),h1.2 j hj]⟩
end Go.Proofs.YtgecnlcbdbaneaaDoor
