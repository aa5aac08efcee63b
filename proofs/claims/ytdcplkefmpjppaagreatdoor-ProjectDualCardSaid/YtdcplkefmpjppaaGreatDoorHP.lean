/- graph.parted and least as plain functions. -/
import Derived.Test.YtdcplkefmpjppaaGreatDoorH2
set_option linter.unusedVariables false
set_option linter.unusedSimpArgs false
namespace Go.Proofs.YtdcplkefmpjppaaGreatDoor
open Go.RowKit Go.Sw

abbrev spS : ByteArray:=⟨#[32]⟩
def catL (a : ByteArray) (l : List ByteArray) : ByteArray:=l.foldl (fun a x=>a ++ (spS ++ x)) a
theorem catL_snoc (a : ByteArray) (l : List ByteArray) (x : ByteArray) : catL a (l ++ [x]) = catL a l ++ (spS ++ x):=by simp [catL]
theorem catL_size (b : Nat) : ∀ (l : List ByteArray) (a : ByteArray),(∀ x ∈ l,x.size ≤ b) → (catL a l).size ≤ a.size + l.length * (b + 1)
 | [],a,_=>by simp [catL]
 | x :: l,a,h=>by
  have:=catL_size b l (a ++ (spS ++ x)) (fun y hy=>h y (by simp [hy]))
  have h1:=h x (by simp)
  simp only [catL,List.foldl_cons,List.length_cons,Nat.add_mul] at this ⊢
  have h2 : (a ++ (spS ++ x)).size = a.size + (1 + x.size):=by
   rw [ByteArray.size_append,ByteArray.size_append];rfl
  omega
def keyOf (cl : List Int) (i : Nat) (n : Nd) : ByteArray :=
 catL (catL (numS n.k ++ spS ++ numS n.so) n.ls ++ (spS ++ numS (cl.getD i 0))) (n.to.map fun k=>numS (cl.getD k.toNat 0))
def keysF (cl : List Int) : Nat → List Nd → List ByteArray
 | _,[]=>[]
 | i,n :: g=>keyOf cl i n :: keysF cl (i + 1) g
theorem keysF_len (cl : List Int) : ∀ (g : List Nd) (i : Nat),(keysF cl i g).length = g.length
 | [],i=>rfl
 | n :: g,i=>by simp [keysF,keysF_len cl g]
theorem keysF_get (cl : List Int) : ∀ (g : List Nd) (i j : Nat) (n : Nd),g[j]? = some n → (keysF cl i g)[j]? = some (keyOf cl (i + j) n)
 | m :: g,i,0,n,h=>by simp at h;subst h;simp [keysF]
 | m :: g,i,j + 1,n,h=>by
  have:=keysF_get cl g (i + 1) j n (by simpa using h)
  simp only [keysF,List.getElem?_cons_succ,this]
  rw [show i + 1 + j = i + (j + 1) by omega]
def ixK (K : ByteArray) : List ByteArray → Nat → Option Nat
 | [],_=>none
 | x :: l,i=>bif K == x then some i else ixK K l (i + 1)
def addK (Ks : List ByteArray) (K : ByteArray) : List ByteArray:=match ixK K Ks 0 with | some _=>Ks | none=>Ks ++ [K]
def allK (ks : List ByteArray) : List ByteArray:=ks.foldl addK []
def plK (K : ByteArray) (Ks : List ByteArray) : Int:=((ixK K Ks 0).getD 0 : Nat)
def nxtK (ks : List ByteArray) : List Int:=ks.map fun K=>plK K (allK ks)
def mOf : Nat → List ByteArray → List (Value × Value)
 | _,[]=>[]
 | i,K :: Ks=>(.string K,.int .i64 (i : Int)) :: mOf (i + 1) Ks
theorem mOf_len : ∀ (Ks : List ByteArray) (i : Nat),(mOf i Ks).length = Ks.length
 | [],i=>rfl
 | K :: Ks,i=>by simp [mOf,mOf_len Ks]
theorem find_mOf (K : ByteArray) : ∀ (Ks : List ByteArray) (i : Nat),findM (.string K) (mOf i Ks) i = (ixK K Ks i).map fun p=>(p,.int .i64 (p : Int))
 | [],i=>rfl
 | x :: Ks,i=>by
  simp only [mOf,findM,ixK]
  rw [show keq (.string K) (.string x) = (K == x) from rfl]
  cases K == x with
  | true=>rfl
  | false=>simp only [cond_false];exact find_mOf K Ks (i + 1)
theorem set_mOf (K : ByteArray) : ∀ (Ks : List ByteArray) (i j : Nat),ixK K Ks j = none → setM (.string K) (.int .i64 ((i + Ks.length : Nat) : Int)) (mOf i Ks) = mOf i (Ks ++ [K])
 | [],i,j,h=>by simp [mOf,setM]
 | x :: Ks,i,j,h=>by
  unfold ixK at h
  cases hb : K == x with
  | true=>rw [hb] at h;cases h
  | false =>
   rw [hb,cond_false] at h
   have:=set_mOf K Ks (i + 1) (j + 1) h
   simp only [mOf,setM,List.cons_append,List.length_cons]
   rw [show keq (.string K) (.string x) = (K == x) from rfl,hb,cond_false]
   rw [show i + (Ks.length + 1) = i + 1 + Ks.length by omega,this]
theorem keys_mOf : ∀ (Ks : List ByteArray) (i : Nat), ∀ q ∈ mOf i Ks, ∃ K v,q = (Value.string K,v)
 | K :: Ks,i,q,h=>by
  unfold mOf at h
  rcases List.mem_cons.1 h with rfl | h
  · exact ⟨_,_,rfl⟩
  · exact keys_mOf Ks (i + 1) q h
theorem keyOK_mOf (K : ByteArray) (Ks : List ByteArray) : KeyOK Tryz.prog 9 (.string K) (mOf 0 Ks) :=
 keyOK_of un9 (by simp [Go.MapKept.IsKey]) fun q hq=>by
  obtain ⟨K',v,rfl⟩:=keys_mOf Ks 0 q hq
  simp [Go.MapKept.IsKey]
theorem ix_lt {K : ByteArray} : ∀ {Ks : List ByteArray} {i p : Nat},ixK K Ks i = some p → i ≤ p ∧ p < i + Ks.length
 | x :: Ks,i,p,h=>by
  unfold ixK at h
  simp only [List.length_cons]
  cases hb : K == x with
  | true=>rw [hb] at h;simp at h;omega
  | false =>
   rw [hb,cond_false] at h
   have:=ix_lt h
   omega
theorem ix_app {K : ByteArray} : ∀ {Ks : List ByteArray} {i p : Nat} (Ks' : List ByteArray),ixK K Ks i = some p → ixK K (Ks ++ Ks') i = some p
 | x :: Ks,i,p,Ks',h=>by
  unfold ixK at h
  simp only [List.cons_append]
  unfold ixK
  cases hb : K == x with
  | true=>rw [hb] at h;exact h
  | false =>
   rw [hb,cond_false] at h
   rw [cond_false]
   exact ix_app Ks' h
theorem ix_none_app {K : ByteArray} : ∀ {Ks : List ByteArray} {i : Nat},ixK K Ks i = none → ixK K (Ks ++ [K]) i = some (i + Ks.length)
 | [],i,h=>by
  simp only [List.nil_append,ixK,List.length_nil,Nat.add_zero]
  rw [(Go.MapKept.bytes_beq K K).2 rfl];rfl
 | x :: Ks,i,h=>by
  unfold ixK at h
  simp only [List.cons_append]
  unfold ixK
  cases hb : K == x with
  | true=>rw [hb] at h;cases h
  | false =>
   rw [hb,cond_false] at h
   rw [cond_false,ix_none_app h,List.length_cons]
   rw [show i + 1 + Ks.length = i + (Ks.length + 1) by omega]
theorem allK_snoc (l : List ByteArray) (K : ByteArray) : allK (l ++ [K]) = addK (allK l) K:=by simp [allK]
theorem addK_ix {Ks : List ByteArray} {K K' : ByteArray} {p : Nat} (h : ixK K Ks 0 = some p) : ixK K (addK Ks K') 0 = some p:=by
 unfold addK
 split
 · exact h
 · exact ix_app _ h
theorem addK_self (Ks : List ByteArray) (K : ByteArray) : ∃ p,ixK K (addK Ks K) 0 = some p:=by
 unfold addK
 split
 · rename_i p h;exact ⟨p,h⟩
 · rename_i h;exact ⟨_,ix_none_app h⟩
theorem snoc_ind {α : Type} {Q : List α → Prop} (h0 : Q []) (hs : ∀ l x,Q l → Q (l ++ [x])) (l : List α) : Q l:=by
 have : ∀ l : List α,Q l.reverse:=fun l=>by
  induction l with
  | nil=>exact h0
  | cons x l ih=>rw [List.reverse_cons];exact hs _ _ ih
 have h:=this l.reverse
 rwa [List.reverse_reverse] at h
theorem allK_mem : ∀ {l : List ByteArray} {K : ByteArray},K ∈ l → ∃ p,ixK K (allK l) 0 = some p:=fun {l}=>by
 induction l using snoc_ind with
 | h0=>intro K h;cases h
 | hs l x ih =>
  intro K h
  rw [allK_snoc]
  rcases List.mem_append.1 h with h | h
  · obtain ⟨p,hp⟩:=ih h
    exact ⟨p,addK_ix hp⟩
  · obtain rfl : K = x:=by simpa using h
    exact addK_self _ _
theorem nxtK_snoc (l : List ByteArray) (K : ByteArray) : nxtK (l ++ [K]) = nxtK l ++ [plK K (addK (allK l) K)]:=by
 unfold nxtK
 rw [List.map_append,allK_snoc]
 congr 1
 apply List.map_congr_left
 intro K' h
 obtain ⟨p,hp⟩:=allK_mem h
 unfold plK
 rw [hp,addK_ix hp]
theorem addK_len (Ks : List ByteArray) (K : ByteArray) : (addK Ks K).length ≤ Ks.length + 1:=by
 unfold addK
 split
 · omega
 · simp
theorem allK_len (l : List ByteArray) : (allK l).length ≤ l.length:=by
 induction l using snoc_ind with
 | h0=>simp [allK]
 | hs l x ih =>
  rw [allK_snoc,List.length_append]
  have:=addK_len (allK l) x
  simp only [List.length_cons,List.length_nil];omega
theorem plK_range {K : ByteArray} {Ks : List ByteArray} (h : Ks ≠ []) : 0 ≤ plK K Ks ∧ plK K Ks < (Ks.length : Int):=by
 unfold plK
 cases hi : ixK K Ks 0 with
 | none =>
  have : 0 < Ks.length:=List.length_pos_iff.2 h
  simp only [Option.getD_none];omega
 | some p =>
  have:=ix_lt hi
  simp only [Option.getD_some];omega
theorem nxtK_range (l : List ByteArray) : ∀ c ∈ nxtK l,0 ≤ c ∧ c < (allK l).length:=by
 intro c hc
 obtain ⟨K,hK,rfl⟩:=List.mem_map.1 hc
 obtain ⟨p,hp⟩:=allK_mem hK
 refine plK_range fun h=>?_
 rw [h] at hp
 cases hp
def partF (g : List Nd) : Nat → List Int → Nat → List Int
 | 0,cl,_=>cl
 | f + 1,cl,many=>if (allK (keysF cl 0 g)).length = many then nxtK (keysF cl 0 g) else partF g f (nxtK (keysF cl 0 g)) (allK (keysF cl 0 g)).length
def partedP (g : List Nd) : List Int:=partF g (g.length + 1) (List.replicate g.length 0) 0
structure NdOK (n : Nat) (x : Nd) : Prop where
 k : 0 ≤ x.k ∧ x.k < 100
 so : 0 ≤ x.so ∧ x.so < 100
 ls : x.ls.length ≤ 6
 lb : ∀ l ∈ x.ls,l.size ≤ 8
 to : x.to.length ≤ 6
 r : ∀ t ∈ x.to,0 ≤ t ∧ t < (n : Int)
end Go.Proofs.YtdcplkefmpjppaaGreatDoor
/- graph.least as a plain function. -/
namespace Go.Proofs.YtdcplkefmpjppaaGreatDoor
open Go.RowKit Go.Sw

def cOf (cl : List Int) (k : Int) : Int:=cl.getD k.toNat 0
def ixI (c : Int) : List Int → Nat → Option Nat
 | [],_=>none
 | x :: l,i=>bif c == x then some i else ixI c l (i + 1)
def plI (c : Int) (Cs : List Int) : Int:=((ixI c Cs 0).getD 0 : Nat)
def mI : Nat → List Int → List (Value × Value)
 | _,[]=>[]
 | i,c :: Cs=>(.int .i64 c,.int .i64 (i : Int)) :: mI (i + 1) Cs
theorem keq_int (a b : Int) : keq (.int .i64 a) (.int .i64 b) = (a == b):=by simp [keq,kql]
theorem find_mI (c : Int) : ∀ (Cs : List Int) (i : Nat),findM (.int .i64 c) (mI i Cs) i = (ixI c Cs i).map fun p=>(p,.int .i64 (p : Int))
 | [],i=>rfl
 | x :: Cs,i=>by
  simp only [mI,findM,ixI,keq_int]
  cases c == x with
  | true=>rfl
  | false=>simp only [cond_false];exact find_mI c Cs (i + 1)
theorem set_mI (c : Int) : ∀ (Cs : List Int) (i j : Nat),ixI c Cs j = none → setM (.int .i64 c) (.int .i64 ((i + Cs.length : Nat) : Int)) (mI i Cs) = mI i (Cs ++ [c])
 | [],i,j,h=>by simp [mI,setM]
 | x :: Cs,i,j,h=>by
  unfold ixI at h
  cases hb : c == x with
  | true=>rw [hb] at h;cases h
  | false =>
   rw [hb,cond_false] at h
   have:=set_mI c Cs (i + 1) (j + 1) h
   simp only [mI,setM,List.cons_append,List.length_cons]
   rw [keq_int,hb,cond_false,show i + (Cs.length + 1) = i + 1 + Cs.length by omega,this]
theorem keys_mI : ∀ (Cs : List Int) (i : Nat), ∀ q ∈ mI i Cs, ∃ c v,q = (Value.int .i64 c,v)
 | c :: Cs,i,q,h=>by
  unfold mI at h
  rcases List.mem_cons.1 h with rfl | h
  · exact ⟨_,_,rfl⟩
  · exact keys_mI Cs (i + 1) q h
theorem keyOK_mI (c : Int) (Cs : List Int) : KeyOK Tryz.prog 3 (.int .i64 c) (mI 0 Cs) :=
 keyOK_of un3 (by simp [Go.MapKept.IsKey]) fun q hq=>by
  obtain ⟨c',v,rfl⟩:=keys_mI Cs 0 q hq
  simp [Go.MapKept.IsKey]
theorem ixI_lt {c : Int} : ∀ {Cs : List Int} {i p : Nat},ixI c Cs i = some p → i ≤ p ∧ p < i + Cs.length
 | x :: Cs,i,p,h=>by
  unfold ixI at h
  simp only [List.length_cons]
  cases hb : c == x with
  | true=>rw [hb] at h;simp at h;omega
  | false =>
   rw [hb,cond_false] at h
   have:=ixI_lt h
   omega
theorem ixI_none {c : Int} : ∀ {Cs : List Int} {i : Nat},ixI c Cs i = none → c ∉ Cs
 | [],i,h=>by simp
 | x :: Cs,i,h=>by
  unfold ixI at h
  cases hb : c == x with
  | true=>rw [hb] at h;cases h
  | false =>
   rw [hb,cond_false] at h
   have h1:=ixI_none h
   simp only [List.mem_cons,not_or]
   exact ⟨by simpa using hb,h1⟩
theorem ixI_none_app {c : Int} : ∀ {Cs : List Int} {i : Nat},ixI c Cs i = none → ixI c (Cs ++ [c]) i = some (i + Cs.length)
 | [],i,h=>by simp [ixI]
 | x :: Cs,i,h=>by
  unfold ixI at h
  simp only [List.cons_append]
  unfold ixI
  cases hb : c == x with
  | true=>rw [hb] at h;cases h
  | false =>
   rw [hb,cond_false] at h
   rw [cond_false,ixI_none_app h,List.length_cons,show i + 1 + Cs.length = i + (Cs.length + 1) by omega]
def addO (cl ord : List Int) (k : Int) : List Int:=match ixI (cOf cl k) (ord.map (cOf cl)) 0 with | some _=>ord | none=>ord ++ [k]
def rowO (cl : List Int) : List Int → List Int → List Int × List Int
 | [],ord=>([],ord)
 | k :: to,ord=>(plI (cOf cl k) ((addO cl ord k).map (cOf cl)) :: (rowO cl to (addO cl ord k)).1,(rowO cl to (addO cl ord k)).2)
theorem rowO_snoc (cl : List Int) (k : Int) : ∀ (to ord : List Int),rowO cl (to ++ [k]) ord = ((rowO cl to ord).1 ++ [plI (cOf cl k) ((addO cl (rowO cl to ord).2 k).map (cOf cl))],addO cl (rowO cl to ord).2 k)
 | [],ord=>by simp [rowO]
 | x :: to,ord=>by simp [rowO,rowO_snoc cl k to]
theorem rowO_len (cl : List Int) : ∀ (to ord : List Int),(rowO cl to ord).1.length = to.length
 | [],ord=>by simp [rowO]
 | x :: to,ord=>by simp [rowO,rowO_len cl to]
def lstF (g : List Nd) (cl : List Int) : Nat → Nat → List Int → List Nd → List Nd
 | 0,_,_,out=>out
 | f + 1,at',ord,out=>match ord[at']? with
  | none=>out
  | some v=>match g[v.toNat]? with
   | none=>out
   | some n=>lstF g cl f (at' + 1) (rowO cl n.to ord).2 (out ++ [⟨n.k,n.so,n.ls,(rowO cl n.to ord).1⟩])
def leastP (g : List Nd) : List Nd:=lstF g (partedP g) (g.length + 1) 0 [0] []
theorem pigeon : ∀ (n : Nat) (l : List Int),l.Nodup → (∀ v ∈ l,0 ≤ v ∧ v < (n : Int)) → l.length ≤ n
 | 0,l,hn,h=>by
  cases l with
  | nil=>simp
  | cons x l=>have:=h x (by simp);omega
 | n + 1,l,hn,h=>by
  have h1:=pigeon n (l.erase (n : Int)) (hn.erase _) (fun v hv=>by
   have hm:=hn.mem_erase_iff.1 hv
   have:=h v hm.2
   have hne:=hm.1
   omega)
  by_cases hm : (n : Int) ∈ l
  · have:=List.length_erase_of_mem hm;omega
  · rw [List.erase_of_not_mem hm] at h1;omega
structure OrdI (cl : List Int) (n : Nat) (ord : List Int) : Prop where
 r : ∀ v ∈ ord,0 ≤ v ∧ v < (n : Int)
 nd : (ord.map (cOf cl)).Nodup
theorem OrdI.len {cl ord : List Int} {n : Nat} (h : OrdI cl n ord) : ord.length ≤ n:=pigeon n ord (by
 have:=h.nd
 clear h
 induction ord with
 | nil=>exact List.nodup_nil
 | cons x l ih =>
  simp only [List.map_cons,List.nodup_cons] at this ⊢
  exact ⟨fun hx=>this.1 (List.mem_map_of_mem hx),ih this.2⟩) h.r
theorem OrdI.add {cl ord : List Int} {n : Nat} (h : OrdI cl n ord) {k : Int} (hk : 0 ≤ k ∧ k < (n : Int)) : OrdI cl n (addO cl ord k):=by
 unfold addO
 split
 · exact h
 · rename_i hx
   refine ⟨fun v hv=>?_,?_⟩
   · rcases List.mem_append.1 hv with hv | hv
     · exact h.r v hv
     · obtain rfl : v = k:=by simpa using hv
       exact hk
   · rw [List.map_append]
     refine List.nodup_append.2 ⟨h.nd,by simp,fun a ha b hb hab=>?_⟩
     obtain rfl : b = cOf cl k:=by simpa using hb
     exact ixI_none hx (hab ▸ ha)
theorem OrdI.row {cl : List Int} {n : Nat} : ∀ {to ord : List Int},OrdI cl n ord → (∀ k ∈ to,0 ≤ k ∧ k < (n : Int)) → OrdI cl n (rowO cl to ord).2
 | [],ord,h,_=>h
 | k :: to,ord,h,ht=>OrdI.row (to:=to) (h.add (ht k (by simp))) fun x hx=>ht x (by simp [hx])
theorem addO_sub (cl ord : List Int) (k : Int) : ord.length ≤ (addO cl ord k).length ∧ ∀ j,j < ord.length → (addO cl ord k)[j]? = ord[j]? := by
 unfold addO
 split
 · exact ⟨Nat.le_refl _,fun _ _=>rfl⟩
 · exact ⟨by simp,fun j hj=>List.getElem?_append_left hj⟩
theorem rowO_sub (cl : List Int) : ∀ (to ord : List Int),ord.length ≤ (rowO cl to ord).2.length ∧ ∀ j,j < ord.length → (rowO cl to ord).2[j]? = ord[j]?
 | [],ord=>⟨Nat.le_refl _,fun _ _=>rfl⟩
 | k :: to,ord=>by
  have h1:=addO_sub cl ord k
  have h2:=rowO_sub cl to (addO cl ord k)
  simp only [rowO]
  exact ⟨by omega,fun j hj=>by rw [h2.2 j (by omega),h1.2 j hj]⟩
end Go.Proofs.YtdcplkefmpjppaaGreatDoor
