/- graph.least as a plain function. -/
import Derived.Test.YtgecnlcbdbaneaaDoorHP
set_option linter.unusedVariables false
set_option linter.unusedSimpArgs false
namespace Go.Proofs.YtgecnlcbdbaneaaDoor
open Go.RowKit Go.Sw

def cOf (cl : List Int) (k : Int) : Int:=cl.getD k.toNat 0
def ixI (c : Int) : List Int → Nat → Option Nat
 | [],_=>none
 | x :: l,i=>bif c == x then some i else ixI c l (i + 1)
def plI (c : Int) (Cs : List Int) : Int:=((ixI c Cs 0).getD 0 : Nat)
def mI : Nat → List Int → List (Value × Value)
 | _,[]=>[]
 | i,c :: Cs=>(.int .i64 c,.int .i64 (i : Int)) :: mI (i + 1) Cs
theorem keq_int (a b : Int) : keq (.int .i64 a) (.int .i64 b) = (a == b):=by simp [keq,kql]
theorem find_mI (c : Int) : ∀ (Cs : List Int) (i : Nat),findM (.int .i64 c) (mI i Cs) i = (ixI c Cs i).map fun p=>(p,.int .i64 (p : Int))
 | [],i=>rfl
 | x :: Cs,i=>by
  simp only [mI,findM,ixI,keq_int]
  cases c == x with
  | true=>rfl
  | false=>simp only [cond_false];exact find_mI c Cs (i + 1)
theorem set_mI (c : Int) : ∀ (Cs : List Int) (i j : Nat),ixI c Cs j = none → setM (.int .i64 c) (.int .i64 ((i + Cs.length : Nat) : Int)) (mI i Cs) = mI i (Cs ++ [c])
 | [],i,j,h=>by simp [mI,setM]
 | x :: Cs,i,j,h=>by
  unfold ixI at h
  cases hb : c == x with
  | true=>rw [hb] at h;cases h
  | false =>
   rw [hb,cond_false] at h
   have:=set_mI c Cs (i + 1) (j + 1) h
   simp only [mI,setM,List.cons_append,List.length_cons]
   rw [keq_int,hb,cond_false,show i + (Cs.length + 1) = i + 1 + Cs.length by omega,this]
theorem keys_mI : ∀ (Cs : List Int) (i : Nat), ∀ q ∈ mI i Cs, ∃ c v,q = (Value.int .i64 c,v)
 | c :: Cs,i,q,h=>by
  unfold mI at h
  rcases List.mem_cons.1 h with rfl | h
  · exact ⟨_,_,rfl⟩
  · exact keys_mI Cs (i + 1) q h
theorem keyOK_mI (c : Int) (Cs : List Int) : KeyOK Tryd.prog 3 (.int .i64 c) (mI 0 Cs) :=
 keyOK_of un3 (by simp [Go.MapKept.IsKey]) fun q hq=>by
  obtain ⟨c',v,rfl⟩:=keys_mI Cs 0 q hq
  simp [Go.MapKept.IsKey]
theorem ixI_lt {c : Int} : ∀ {Cs : List Int} {i p : Nat},ixI c Cs i = some p → i ≤ p ∧ p < i + Cs.length
 | x :: Cs,i,p,h=>by
  unfold ixI at h
  simp only [List.length_cons]
  cases hb : c == x with
  | true=>rw [hb] at h;simp at h;omega
  | false =>
   rw [hb,cond_false] at h
   have:=ixI_lt h
   omega
theorem ixI_none {c : Int} : ∀ {Cs : List Int} {i : Nat},ixI c Cs i = none → c ∉ Cs
 | [],i,h=>by simp
 | x :: Cs,i,h=>by
  unfold ixI at h
  cases hb : c == x with
  | true=>rw [hb] at h;cases h
  | false =>
   rw [hb,cond_false] at h
   have h1:=ixI_none h
   simp only [List.mem_cons,not_or]
   exact ⟨by simpa using hb,h1⟩
theorem ixI_none_app {c : Int} : ∀ {Cs : List Int} {i : Nat},ixI c Cs i = none → ixI c (Cs ++ [c]) i = some (i + Cs.length)
 | [],i,h=>by simp [ixI]
 | x :: Cs,i,h=>by
  unfold ixI at h
  simp only [List.cons_append]
  unfold ixI
  cases hb : c == x with
  | true=>rw [hb] at h;cases h
  | false =>
   rw [hb,cond_false] at h
   rw [cond_false,ixI_none_app h,List.length_cons,show i + 1 + Cs.length = i + (Cs.length + 1) by omega]
def addO (cl ord : List Int) (k : Int) : List Int:=match ixI (cOf cl k) (ord.map (cOf cl)) 0 with | some _=>ord | none=>ord ++ [k]
def rowO (cl : List Int) : List Int → List Int → List Int × List Int
 | [],ord=>([],ord)
 | k :: to,ord=>(plI (cOf cl k) ((addO cl ord k).map (cOf cl)) :: (rowO cl to (addO cl ord k)).1,(rowO cl to (addO cl ord k)).2)
theorem rowO_snoc (cl : List Int) (k : Int) : ∀ (to ord : List Int),rowO cl (to ++ [k]) ord = ((rowO cl to ord).1 ++ [plI (cOf cl k) ((addO cl (rowO cl to ord).2 k).map (cOf cl))],addO cl (rowO cl to ord).2 k)
 | [],ord=>by simp [rowO]
 | x :: to,ord=>by simp [rowO,rowO_snoc cl k to]
theorem rowO_len (cl : List Int) : ∀ (to ord : List Int),(rowO cl to ord).1.length = to.length
 | [],ord=>by simp [rowO]
 | x :: to,ord=>by simp [rowO,rowO_len cl to]
def lstF (g : List Nd) (cl : List Int) : Nat → Nat → List Int → List Nd → List Nd
 | 0,_,_,out=>out
 | f + 1,at',ord,out=>match ord[at']? with
  | none=>out
  | some v=>match g[v.toNat]? with
   | none=>out
   | some n=>lstF g cl f (at' + 1) (rowO cl n.to ord).2 (out ++ [⟨n.k,n.so,n.ls,(rowO cl n.to ord).1⟩])
def leastP (g : List Nd) : List Nd:=lstF g (partedP g) (g.length + 1) 0 [0] []
theorem pigeon : ∀ (n : Nat) (l : List Int),l.Nodup → (∀ v ∈ l,0 ≤ v ∧ v < (n : Int)) → l.length ≤ n
 | 0,l,hn,h=>by
  cases l with
  | nil=>simp
  | cons x l=>have:=h x (by simp);omega
 | n + 1,l,hn,h=>by
  have h1:=pigeon n (l.erase (n : Int)) (hn.erase _) (fun v hv=>by
   have hm:=hn.mem_erase_iff.1 hv
   have:=h v hm.2
   have hne:=hm.1
   omega)
  by_cases hm : (n : Int) ∈ l
  · have:=List.length_erase_of_mem hm;omega
  · rw [List.erase_of_not_mem hm] at h1;omega
structure OrdI (cl : List Int) (n : Nat) (ord : List Int) : Prop where
 r : ∀ v ∈ ord,0 ≤ v ∧ v < (n : Int)
 nd : (ord.map (cOf cl)).Nodup
theorem OrdI.len {cl ord : List Int} {n : Nat} (h : OrdI cl n ord) : ord.length ≤ n:=pigeon n ord (by
 have:=h.nd
 clear h
 induction ord with
 | nil=>exact List.nodup_nil
 | cons x l ih =>
  simp only [List.map_cons,List.nodup_cons] at this ⊢
  exact ⟨fun hx=>this.1 (List.mem_map_of_mem hx),ih this.2⟩) h.r
theorem OrdI.add {cl ord : List Int} {n : Nat} (h : OrdI cl n ord) {k : Int} (hk : 0 ≤ k ∧ k < (n : Int)) : OrdI cl n (addO cl ord k):=by
 unfold addO
 split
 · exact h
 · rename_i hx
   refine ⟨fun v hv=>?_,?_⟩
   · rcases List.mem_append.1 hv with hv | hv
     · exact h.r v hv
     · obtain rfl : v = k:=by simpa using hv
       exact hk
   · rw [List.map_append]
     refine List.nodup_append.2 ⟨h.nd,by simp,fun a ha b hb hab=>?_⟩
     obtain rfl : b = cOf cl k:=by simpa using hb
     exact ixI_none hx (hab ▸ ha)
theorem OrdI.row {cl : List Int} {n : Nat} : ∀ {to ord : List Int},OrdI cl n ord → (∀ k ∈ to,0 ≤ k ∧ k < (n : Int)) → OrdI cl n (rowO cl to ord).2
 | [],ord,h,_=>h
 | k :: to,ord,h,ht=>OrdI.row (to:=to) (h.add (ht k (by simp))) fun x hx=>ht x (by simp [hx])
theorem addO_sub (cl ord : List Int) (k : Int) : ord.length ≤ (addO cl ord k).length ∧ ∀ j,j < ord.length → (addO cl ord k)[j]? = ord[j]? := by
 unfold addO
 split
 · exact ⟨Nat.le_refl _,fun _ _=>rfl⟩
 · exact ⟨by simp,fun j hj=>List.getElem?_append_left hj⟩
theorem rowO_sub (cl : List Int) : ∀ (to ord : List Int),ord.length ≤ (rowO cl to ord).2.length ∧ ∀ j,j < ord.length → (rowO cl to ord).2[j]? = ord[j]?
 | [],ord=>⟨Nat.le_refl _,fun _ _=>rfl⟩
 | k :: to,ord=>by
  have h1:=addO_sub cl ord k
  have h2:=rowO_sub cl to (addO cl ord k)
  simp only [rowO]
  exact ⟨by omega,fun j hj=>by rw [h2.2 j (by omega),h1.2 j hj]⟩
end Go.Proofs.YtgecnlcbdbaneaaDoor
