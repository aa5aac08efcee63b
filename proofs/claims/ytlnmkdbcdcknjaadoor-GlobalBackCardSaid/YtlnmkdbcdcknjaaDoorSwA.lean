/- A symbolic walk over the model: plain data, how it lies in memory, and what stays when memory grows. No conditions but those that each law names. -/
import Derived.WalkKit
import Derived.WalkLawsBesides
import Derived.WalkSpells
import Derived.Below
import Derived.Laws.AppendOwn
import Derived.Deep.AppendSrc
import Derived.Great.BuildSlice
set_option linter.unusedVariables false
set_option linter.unusedSimpArgs false
namespace Go.Sw
open Go.RowKit

inductive D where
 | v (u : Value)
 | agg (cs : List D)
 | tup (vs : List D)
 | slc (l : List D)
 | ptr (x : D)
 deriving Inhabited
def D.cells : D → List D
 | .agg cs=>cs
 | x=>[x]
inductive SV where
 | d (x : D)
 | nil
 | agg (cs : List SV)
 | tup (vs : List SV)
 | ref (id off : Nat)
 | fptr (x : D) (off : Nat)
 | own (id : Nat)
 | eref (id idx off : Nat)
 | sref (id n : Nat)
 | mp (id : Nat)
 | clo (f : FuncId) (caps : List SV)
 | grd (g : Bool) (x : SV)
 | junk
 deriving Inhabited
def SV.cells : SV → List SV
 | .agg cs=>cs
 | .d (.agg cs)=>cs.map .d
 | x=>[x]
inductive Box where
 | cells (cs : List SV)
 | row (k : Nat) (L : List D)
 | mp (M : List (Value × Value))
abbrev Env:=List (Nat × SV)
abbrev St:=List (Nat × Box)

def lk {α : Type} (t : Nat) : List (Nat × α) → Option α
 | []=>none
 | (t',x) :: e=>bif Nat.beq t t' then some x else lk t e
def put {α : Type} (t : Nat) (x : α) : List (Nat × α) → List (Nat × α)
 | []=>[(t,x)]
 | (t',y) :: e=>bif Nat.beq t t' then (t,x) :: e else (t',y) :: put t x e
theorem beq_ne {t u : Nat} (h : ¬ t = u) : Nat.beq t u = false:=by
 cases hb : Nat.beq t u
 · rfl
 · exact absurd (Nat.eq_of_beq_eq_true hb) h
theorem beq_self (t : Nat) : Nat.beq t t = true:=by simp
theorem lk_put_same {α : Type} (t : Nat) (x : α) : ∀ e,lk t (put t x e) = some x
 | []=>by simp [lk,put]
 | (t',y) :: e=>by
  unfold put
  by_cases h : t = t'
  · subst h; simp [lk]
  · have : Nat.beq t t' = false:=beq_ne h
    simp [this,lk,lk_put_same t x e]
theorem lk_put_ne {α : Type} {t u : Nat} (x : α) (h : u ≠ t) : ∀ e,lk u (put t x e) = lk u e
 | []=>by
  have : Nat.beq u t = false:=beq_ne h
  simp [lk,put,this]
 | (t',y) :: e=>by
  have hn : Nat.beq u t = false:=beq_ne h
  unfold put
  by_cases h' : t = t'
  · subst h'; simp [lk,hn]
  · have : Nat.beq t t' = false:=beq_ne h'
    simp only [this,cond_false]
    unfold lk
    rw [lk_put_ne x h e]

inductive Tg where
 | d (x : D) (u : Value)
 | ds (l : List D) (us : List Value)
 | cs (l : List D) (b o : Nat)
 | es (k : Nat) (l : List D) (b o : Nat)
inductive RpD (w : World) (M : Nat → Prop) : Tg → Prop
 | v (u : Value) (h1 : u.oneCell' = true) : RpD w M (.d (.v u) u)
 | agg {cs : List D} {us : List Value} (h : RpD w M (.ds cs us)) : RpD w M (.d (.agg cs) (.agg us.toArray))
 | tup {cs : List D} {us : List Value} (h : RpD w M (.ds cs us)) : RpD w M (.d (.tup cs) (.tuple us.toArray))
 | slc0 (a : Option Addr) (c : Nat) : RpD w M (.d (.slc []) (.slice a 0 c))
 | slc {l : List D} {k b o c n : Nat} (hn : n = l.length) (hc : n ≤ c) (h : RpD w M (.es k l b o)) : RpD w M (.d (.slc l) (.slice (some ⟨b,o,none⟩) n c))
 | ptr {x : D} {b o : Nat} (h : RpD w M (.cs x.cells b o)) : RpD w M (.d (.ptr x) (.pointer (some ⟨b,o,none⟩)))
 | dsn : RpD w M (.ds [] [])
 | dsc {x : D} {u : Value} {l : List D} {us : List Value} (h : RpD w M (.d x u)) (ht : RpD w M (.ds l us)) : RpD w M (.ds (x :: l) (u :: us))
 | csn (b o : Nat) : RpD w M (.cs [] b o)
 | csc {x : D} {u : Value} {l : List D} {b o : Nat} (hm : ¬ M b) (hc : w.cell? ⟨b,o,none⟩ = some u) (h : RpD w M (.d x u)) (ht : RpD w M (.cs l b (o + 1))) : RpD w M (.cs (x :: l) b o)
 | esn (k b o : Nat) : RpD w M (.es k [] b o)
 | esc {x : D} {l : List D} {k b o : Nat} (hk : x.cells.length = k) (h : RpD w M (.cs x.cells b o)) (ht : RpD w M (.es k l b (o + k))) : RpD w M (.es k (x :: l) b o)

theorem RpD.keep {w w' : World} {M M' : Nat → Prop} (hb : ∀ b,b < w.heap.size → ¬ M b → w'.heap[b]? = w.heap[b]?) (hM : ∀ b,b < w.heap.size → M' b → M b) : ∀ {t : Tg},RpD w M t → RpD w' M' t:=by
 intro t h
 induction h with
 | v u h1=>exact .v u h1
 | agg _ ih=>exact .agg ih
 | tup _ ih=>exact .tup ih
 | slc0 a c=>exact .slc0 a c
 | slc hn hc _ ih=>exact .slc hn hc ih
 | ptr _ ih=>exact .ptr ih
 | dsn=>exact .dsn
 | dsc _ _ i1 i2=>exact .dsc i1 i2
 | csn b o=>exact .csn b o
 | csc hm hc _ _ i1 i2 =>
  have hlt:=World.block_lt_of_cell? _ _ hc
  refine .csc (fun h=>hm (hM _ hlt h)) ?_ i1 i2
  rw [World.cell?_of_block (w:=w) (hb _ hlt hm)]; exact hc
 | esn k b o=>exact .esn k b o
 | esc hk _ _ i1 i2=>exact .esc hk i1 i2

theorem RpD.ds_app {w : World} {M : Nat → Prop} : ∀ {l l' : List D} {us us' : List Value},RpD w M (.ds l us) → RpD w M (.ds l' us') → RpD w M (.ds (l ++ l') (us ++ us'))
 | [],_,_,_,.dsn,h=>h
 | _ :: _,_,_,_,.dsc h ht,h'=>.dsc h (RpD.ds_app ht h')
theorem RpD.ds_len {w : World} {M : Nat → Prop} : ∀ {l : List D} {us : List Value},RpD w M (.ds l us) → us.length = l.length
 | [],_,.dsn=>rfl
 | _ :: _,_,.dsc _ ht=>by simp [RpD.ds_len ht]
theorem RpD.ds_get {w : World} {M : Nat → Prop} : ∀ {l : List D} {us : List Value} (i : Nat) {x : D},RpD w M (.ds l us) → l[i]? = some x → ∃ u,us[i]? = some u ∧ RpD w M (.d x u)
 | [],_,i,x,.dsn,h=>by simp at h
 | y :: l,u :: us,0,x,.dsc hx _,h=>by simp at h; subst h; exact ⟨u,rfl,hx⟩
 | y :: l,u :: us,i + 1,x,.dsc _ ht,h=>by
  obtain ⟨u',h1,h2⟩:=RpD.ds_get i ht (by simpa using h)
  exact ⟨u',by simpa using h1,h2⟩
theorem RpD.cs_drop {w : World} {M : Nat → Prop} : ∀ {l : List D} {b o : Nat} (i : Nat),RpD w M (.cs l b o) → RpD w M (.cs (l.drop i) b (o + i))
 | l,b,o,0,h=>h
 | [],b,o,i + 1,h=>by simpa using RpD.csn b _
 | y :: l,b,o,i + 1,.csc _ _ _ ht=>by
  have:=RpD.cs_drop i ht
  rw [show o + (i + 1) = o + 1 + i by omega]
  exact this
theorem RpD.es_get {w : World} {M : Nat → Prop} : ∀ {l : List D} {k b o : Nat} (i : Nat) {x : D},RpD w M (.es k l b o) → l[i]? = some x → RpD w M (.cs x.cells b (o + i * k)) ∧ x.cells.length = k
 | [],k,b,o,i,x,.esn _ _ _,h=>by simp at h
 | y :: l,k,b,o,0,x,.esc hk hx _,h=>by simp at h; subst h; exact ⟨by simpa using hx,hk⟩
 | y :: l,k,b,o,i + 1,x,.esc _ _ ht,h=>by
  have:=RpD.es_get i ht (by simpa using h)
  rw [show o + (i + 1) * k = o + k + i * k by rw [Nat.add_mul]; omega]
  exact this
theorem RpD.es_drop {w : World} {M : Nat → Prop} : ∀ {l : List D} {k b o : Nat} (i : Nat),RpD w M (.es k l b o) → RpD w M (.es k (l.drop i) b (o + i * k))
 | l,k,b,o,0,h=>by simpa using h
 | [],k,b,o,i + 1,h=>by simpa using RpD.esn k b _
 | y :: l,k,b,o,i + 1,.esc _ _ ht=>by
  have:=RpD.es_drop i ht
  rw [show o + (i + 1) * k = o + k + i * k by rw [Nat.add_mul]; omega]
  exact this
theorem RpD.es_take {w : World} {M : Nat → Prop} : ∀ {l : List D} {k b o : Nat} (i : Nat),RpD w M (.es k l b o) → RpD w M (.es k (l.take i) b o)
 | l,k,b,o,0,h=>by simpa using RpD.esn k b o
 | [],k,b,o,i + 1,h=>by simpa using RpD.esn k b o
 | y :: l,k,b,o,i + 1,.esc hk hx ht=>by
  rw [List.take_succ_cons]
  exact .esc hk hx (RpD.es_take i ht)
theorem RpD.cs_cells {w : World} {M : Nat → Prop} : ∀ {l : List D} {b o : Nat},RpD w M (.cs l b o) → ∃ us,us.length = l.length ∧ (∀ j u,us[j]? = some u → w.cell? ⟨b,o + j,none⟩ = some u) ∧ RpD w M (.ds l us)
 | [],b,o,_=>⟨[],rfl,fun j u h=>by simp at h,.dsn⟩
 | x :: l,b,o,.csc (u:=u) hm hc h ht=>by
  obtain ⟨us,h1,h2,h3⟩:=RpD.cs_cells ht
  refine ⟨u :: us,by simp [h1],fun j v hj=>?_,.dsc h h3⟩
  cases j with
  | zero=>simp at hj; subst hj; exact hc
  | succ j=>rw [show o + (j + 1) = o + 1 + j by omega]; exact h2 j v (by simpa using hj)
theorem RpD.es_cells {w : World} {M : Nat → Prop} : ∀ {l : List D} {k b o : Nat},RpD w M (.es k l b o) → ∃ us,us.length = l.length * k ∧ (∀ j u,us[j]? = some u → w.cell? ⟨b,o + j,none⟩ = some u) ∧ RpD w M (.ds (l.flatMap D.cells) us)
 | [],k,b,o,_=>⟨[],by simp,fun j u h=>by simp at h,.dsn⟩
 | x :: l,k,b,o,.esc hk h ht=>by
  obtain ⟨us,h1,h2,h3⟩:=RpD.cs_cells h
  obtain ⟨vs,g1,g2,g3⟩:=RpD.es_cells ht
  refine ⟨us ++ vs,by simp [h1,g1,hk,Nat.add_mul,Nat.add_comm],fun j v hj=>?_,by simpa using h3.ds_app g3⟩
  by_cases hlt : j < us.length
  · exact h2 j v (by rwa [List.getElem?_append_left hlt] at hj)
  · rw [List.getElem?_append_right (by omega)] at hj
    have:=g2 _ v hj
    rw [show o + j = o + k + (j - us.length) by omega]
    exact this

def blk : Value → Option Nat
 | .pointer (some a)=>some a.block
 | .slice (some a) _ _=>some a.block
 | .map (some b)=>some b
 | _=>none
def Mut (F : Nat → Prop) (β : Nat → Value) (s : St) (b : Nat) : Prop:=F b ∨ ∃ i bx,lk i s = some bx ∧ blk (β i) = some b

inductive Tg2 where
 | s (x : SV) (u : Value)
 | ss (l : List SV) (us : List Value)
inductive Rp (w : World) (F : Nat → Prop) (β : Nat → Value) (s : St) : Tg2 → Prop
 | d {x : D} {u : Value} (h : RpD w (Mut F β s) (.d x u)) : Rp w F β s (.s (.d x) u)
 | nil : Rp w F β s (.s .nil (.slice none 0 0))
 | agg {cs : List SV} {us : List Value} (h : Rp w F β s (.ss cs us)) : Rp w F β s (.s (.agg cs) (.agg us.toArray))
 | tup {cs : List SV} {us : List Value} (h : Rp w F β s (.ss cs us)) : Rp w F β s (.s (.tup cs) (.tuple us.toArray))
 | ref {i o b : Nat} {cs : List SV} (hl : lk i s = some (.cells cs)) (hb : β i = .pointer (some ⟨b,0,none⟩)) : Rp w F β s (.s (.ref i o) (.pointer (some ⟨b,o,none⟩)))
 | sref {i n b : Nat} {cs : List SV} (hl : lk i s = some (.cells cs)) (hb : β i = .pointer (some ⟨b,0,none⟩)) : Rp w F β s (.s (.sref i n) (.slice (some ⟨b,0,none⟩) n n))
 | fptr {x : D} {b o off : Nat} (h : RpD w (Mut F β s) (.cs x.cells b o)) : Rp w F β s (.s (.fptr x off) (.pointer (some ⟨b,o + off,none⟩)))
 | own {i k : Nat} {L : List D} (hl : lk i s = some (.row k L)) : Rp w F β s (.s (.own i) (β i))
 | eref {i k idx o b n c : Nat} {L : List D} (hl : lk i s = some (.row k L)) (hi : idx < L.length) (hb : β i = .slice (some ⟨b,0,none⟩) n c) : Rp w F β s (.s (.eref i idx o) (.pointer (some ⟨b,idx * k + o,none⟩)))
 | mp {i : Nat} {M : List (Value × Value)} (hl : lk i s = some (.mp M)) : Rp w F β s (.s (.mp i) (β i))
 | clo {f : FuncId} {cs : List SV} {us : List Value} (h : Rp w F β s (.ss cs us)) : Rp w F β s (.s (.clo f cs) (.func (.func f) #[] us.toArray))
 | grdF {x : SV} : Rp w F β s (.s (.grd false x) undef)
 | grdT {x : SV} {u : Value} (h : Rp w F β s (.s x u)) : Rp w F β s (.s (.grd true x) u)
 | junk {u : Value} : Rp w F β s (.s .junk u)
 | ssn : Rp w F β s (.ss [] [])
 | ssc {x : SV} {u : Value} {l : List SV} {us : List Value} (h : Rp w F β s (.s x u)) (ht : Rp w F β s (.ss l us)) : Rp w F β s (.ss (x :: l) (u :: us))

def entsOf : Nat → List (Value × Value) → List MapEntry
 | _,[]=>[]
 | n,(k,v) :: l=>⟨k,v,n⟩ :: entsOf (n + 1) l
def BoxR (w : World) (F : Nat → Prop) (β : Nat → Value) (s : St) (i : Nat) : Box → Prop
 | .cells cs => ∃ b t us, β i = .pointer (some ⟨b,0,none⟩) ∧ w.heap[b]? = some (.cells us t (0,0)) ∧ Rp w F β s (.ss cs us.toList) ∧ ∀ u ∈ us.toList,u.oneCell' = true
 | .row k L=>0 < k ∧ (∀ x ∈ L,x.cells.length = k) ∧ ∃ e xs,w.ownsRow 0 e k (β i) L.length xs ∧ RpD w (Mut F β s) (.ds (L.flatMap D.cells) xs) ∧ ∀ u ∈ xs,u.oneCell' = true
 | .mp M => ∃ b, β i = .map (some b) ∧ w.heap[b]? = some (.map (entsOf 0 M).toArray M.length) ∧ ∀ q ∈ M,q.2.oneCell' = true
structure WR (F : Nat → Prop) (β : Nat → Value) (s : St) (w : World) : Prop where
 boxes : ∀ i bx,lk i s = some bx → BoxR w F β s i bx
 inj : ∀ i j bx by' b,lk i s = some bx → lk j s = some by' → blk (β i) = some b → blk (β j) = some b → i = j
 apart : ∀ i bx b,lk i s = some bx → blk (β i) = some b → ¬ F b
 low : ∀ b,F b → b < w.heap.size

mutual
def SV.jk (X : Nat → Bool) : SV → SV
 | .agg cs=>.agg (SV.jks X cs)
 | .tup vs=>.tup (SV.jks X vs)
 | .ref i o=>bif X i then .junk else .ref i o
 | .own i=>bif X i then .junk else .own i
 | .eref i j o=>bif X i then .junk else .eref i j o
 | .sref i n=>bif X i then .junk else .sref i n
 | .mp i=>bif X i then .junk else .mp i
 | .clo f cs=>.clo f (SV.jks X cs)
 | .grd g x=>.grd g (SV.jk X x)
 | .d x=>.d x
 | .nil=>.nil
 | .fptr x o=>.fptr x o
 | .junk=>.junk
def SV.jks (X : Nat → Bool) : List SV → List SV
 | []=>[]
 | x :: l=>SV.jk X x :: SV.jks X l
end
structure Ext (X : Nat → Bool) (F : Nat → Prop) (w : World) (β : Nat → Value) (s : St) (w' : World) (β' : Nat → Value) (s' : St) : Prop where
 heap : ∀ b,b < w.heap.size → ¬ Mut F β s b → w'.heap[b]? = w.heap[b]?
 mutb : ∀ b,b < w.heap.size → Mut F β' s' b → Mut F β s b
 cells : ∀ i cs,X i = false → lk i s = some (.cells cs) → β' i = β i ∧ ∃ cs',lk i s' = some (.cells cs')
 row : ∀ i k L,X i = false → lk i s = some (.row k L) → β' i = β i ∧ ∃ L',lk i s' = some (.row k L') ∧ L.length ≤ L'.length
 mp : ∀ i M,X i = false → lk i s = some (.mp M) → β' i = β i ∧ ∃ M',lk i s' = some (.mp M')

theorem ptr_rp {w : World} {F : Nat → Prop} {β : Nat → Value} {s : St} {y : D} {u : Value} (h : Rp w F β s (.s (.d (.ptr y)) u)) : Rp w F β s (.s (.fptr y 0) u):=by
 cases h with
 | d h=>cases h with
  | ptr h=>exact .fptr (off:=0) h
theorem Rp.keep {X : Nat → Bool} {F : Nat → Prop} {w w' : World} {β β' : Nat → Value} {s s' : St} (hx : Ext X F w β s w' β' s') : ∀ {t : Tg2},Rp w F β s t →
 match t with | .s x u=>Rp w' F β' s' (.s (x.jk X) u) | .ss l us=>Rp w' F β' s' (.ss (SV.jks X l) us):=by
 intro t h
 induction h with
 | d h=>exact .d (h.keep hx.heap hx.mutb)
 | nil=>exact .nil
 | agg _ ih=>exact .agg ih
 | tup _ ih=>exact .tup ih
 | @ref i o b cs hl hb =>
  simp only [SV.jk]
  cases hX : X i with
  | true=>exact .junk
  | false =>
   obtain ⟨h1,cs',h2⟩:=hx.cells i cs hX hl
   exact .ref h2 (h1.trans hb)
 | @sref i n b cs hl hb =>
  simp only [SV.jk]
  cases hX : X i with
  | true=>exact .junk
  | false =>
   obtain ⟨h1,cs',h2⟩:=hx.cells i cs hX hl
   exact .sref h2 (h1.trans hb)
 | fptr h=>exact .fptr (h.keep hx.heap hx.mutb)
 | @own i k L hl =>
  simp only [SV.jk]
  cases hX : X i with
  | true=>exact .junk
  | false =>
   obtain ⟨h1,L',h2,_⟩:=hx.row i k L hX hl
   rw [← h1]
   exact .own h2
 | @eref i k idx o b n c L hl hi hb =>
  simp only [SV.jk]
  cases hX : X i with
  | true=>exact .junk
  | false =>
   obtain ⟨h1,L',h2,h3⟩:=hx.row i k L hX hl
   exact .eref h2 (by omega) (h1.trans hb)
 | @mp i M hl =>
  simp only [SV.jk]
  cases hX : X i with
  | true=>exact .junk
  | false =>
   obtain ⟨h1,M',h2⟩:=hx.mp i M hX hl
   rw [← h1]
   exact .mp h2
 | clo _ ih=>exact .clo ih
 | grdF=>exact .grdF
 | grdT _ ih=>exact .grdT ih
 | junk=>exact .junk
 | ssn=>exact .ssn
 | ssc _ _ i1 i2=>exact .ssc i1 i2
mutual
theorem SV.jk_none : ∀ x : SV,x.jk (fun _=>false) = x
 | .agg cs=>by simp only [SV.jk,SV.jks_none cs]
 | .tup vs=>by simp only [SV.jk,SV.jks_none vs]
 | .ref i o=>rfl
 | .own i=>rfl
 | .eref i j o=>rfl
 | .sref i n=>rfl
 | .mp i=>rfl
 | .clo f cs=>by simp only [SV.jk,SV.jks_none cs]
 | .grd g x=>by simp only [SV.jk,SV.jk_none x]
 | .d x=>rfl
 | .nil=>rfl
 | .fptr x o=>rfl
 | .junk=>rfl
theorem SV.jks_none : ∀ l : List SV,SV.jks (fun _=>false) l = l
 | []=>rfl
 | x :: l=>by simp only [SV.jks,SV.jk_none x,SV.jks_none l]
end
theorem Rp.keep0 {F : Nat → Prop} {w w' : World} {β β' : Nat → Value} {s s' : St} (hx : Ext (fun _=>false) F w β s w' β' s') {x : SV} {u : Value} (h : Rp w F β s (.s x u)) : Rp w' F β' s' (.s x u):=by
 have:=Rp.keep hx h
 simpa only [SV.jk_none] using this
theorem Rp.keep0s {F : Nat → Prop} {w w' : World} {β β' : Nat → Value} {s s' : St} (hx : Ext (fun _=>false) F w β s w' β' s') {l : List SV} {us : List Value} (h : Rp w F β s (.ss l us)) : Rp w' F β' s' (.ss l us):=by
 have:=Rp.keep hx h
 simpa only [SV.jks_none] using this
end Go.Sw
namespace Go.Sw
open Go.RowKit

structure Gl where
 NG : Nat
 G : World → Prop
 GK : ∀ w w' : World,(∀ b,b < NG → w'.heap[b]? = w.heap[b]?) → G w → G w'
structure Cx (P : Program) (N : Nat) (Γ : Gl) where
 F : Nat → Prop
 β0 : Nat → Value
 s0 : St
 w0 : World
 ds : List Deferred
 lo : ∀ b,F b → Γ.NG ≤ b

def leafS : Value → SV
 | .slice none 0 0=>.nil
 | v=>.d (.v v)
def ofV : Value → SV
 | .slice none 0 0=>.nil
 | .agg cs=>.agg (cs.toList.map leafS)
 | .tuple _=>.junk
 | v=>.d (.v v)
def val (e : Env) : Operand → SV
 | .tmp t=>(lk t e).getD .junk
 | .const v=>ofV v
 | .global _=>.junk
 | .func f=>.clo f []
def opn : SV → SV
 | .grd _ x=>x
 | x=>x
def ok1 (g : Bool) : SV → Prop
 | .grd h _=>g = true → h = true
 | _=>True
def okp (g t : Bool) : SV → Prop
 | .grd h _=>g = true → t = true → h = true
 | _=>True
def pickV (t : Bool) : SV → SV → SV
 | .d (.v (.bool p)),.d (.v (.bool q))=>.d (.v (.bool (bif t then p else q)))
 | x,y=>bif t then x else y
def SV.sc : SV → Bool
 | .d (.v _) | .d (.slc _) | .d (.ptr _) | .nil | .ref _ _ | .fptr _ _ | .own _ | .eref _ _ _ | .sref _ _ | .mp _ | .clo _ _=>true
 | _=>false
def scs : List SV → Prop
 | []=>True
 | x :: l=>x.sc = true ∧ scs l
def nx : St → Nat
 | []=>0
 | (i,_) :: s=>bif Nat.ble (nx s) i then i + 1 else nx s
def constOK : Value → Bool
 | .agg cs=>cs.toList.all (·.oneCell')
 | _=>true
def opdOK : Operand → Bool
 | .const v=>constOK v
 | _=>true
def zeroS (P : Program) (t : TypeId) : Option SV:=((P.info? t).bind (·.zero)).bind fun z=>bif constOK z then some (ofV z) else none
def szOf (P : Program) (t : TypeId) : Option Nat:=(P.info? t).map (·.size)
def aggB (P : Program) (t : TypeId) : Option Bool:=(P.underlying t).map fun | .struct _ | .array _ _=>true | _=>false
def partOf (P : Program) (t : TypeId) (i : Nat) : Option (Nat × Nat) :=
 match P.underlying t with
 | some (.struct fs)=>(fs[i]?).bind fun f=>(szOf P f.type).map fun n=>(f.offset,n)
 | some (.array n el)=>if i < n then (szOf P el).map fun k=>(i * k,k) else none
 | _=>none
def fldOf (P : Program) (t : TypeId) (i : Nat) : Option (Nat × Nat) :=
 match P.underlying t with
 | some (.struct fs)=>(fs[i]?).bind fun f=>(szOf P f.type).map fun n=>(f.offset,n)
 | _=>none
def elemSz (P : Program) (t : TypeId) : Option Nat:=match P.underlying t with | some (.slice el)=>szOf P el | _=>none

def elemBy (P : Program) (t : TypeId) : Option Nat:=match P.underlying t with | some (.slice el)=>(P.info? el).map (·.bytes) | _=>none
def elemZ (P : Program) (t : TypeId) : Bool:=match P.underlying t with
 | some (.slice el)=>match P.info? el with
  | some i=>match i.zero with | some z=>z.cells.size == i.size && Nat.blt 0 i.size | none=>false
  | none=>false
 | _=>false
def plcs (P : Program) (t : TypeId) : Option (List (Nat × Nat)) :=
 match P.underlying t with
 | some (.struct fs)=>fs.toList.mapM (fun f=>(P.info? f.type).map fun i=>(f.offset,i.size))
 | some (.array n el)=>(P.info? el).map fun i=>(List.range n).map fun j=>(j * i.size,i.size)
 | _=>none

def upd {α : Type} (cs : List α) (off : Nat) (vs : List α) : List α := cs.take off ++ vs ++ cs.drop (off + vs.length)

mutual
def SV.toD (s : St) : SV → Option D
 | .d x=>some x
 | .nil=>some (.slc [])
 | .agg cs=>(SV.toDs s cs).map .agg
 | .tup vs=>(SV.toDs s vs).map .tup
 | .own i=>match lk i s with | some (.row _ L)=>some (.slc L) | _=>none
 | _=>none
def SV.toDs (s : St) : List SV → Option (List D)
 | []=>some []
 | x :: l=>match SV.toD s x,SV.toDs s l with | some y,some ys=>some (y :: ys) | _,_=>none
end
mutual
def SV.owns : SV → List Nat
 | .own i=>[i]
 | .agg cs=>SV.ownss cs
 | .tup cs=>SV.ownss cs
 | _=>[]
def SV.ownss : List SV → List Nat
 | []=>[]
 | x :: l=>SV.owns x ++ SV.ownss l
end
def Box.jk (X : Nat → Bool) : Box → Box
 | .cells cs=>.cells (SV.jks X cs)
 | .row k L=>.row k L
 | .mp M=>.mp M
def inX (X : List Nat) (i : Nat) : Bool:=match X with | []=>false | j :: l=>bif Nat.beq i j then true else inX l i
def jkE (X : Nat → Bool) : Env → Env
 | []=>[]
 | (t,x) :: e=>(t,x.jk X) :: jkE X e
def dropS (X : Nat → Bool) : St → St
 | []=>[]
 | (i,b) :: s=>bif X i then dropS X s else (i,b.jk X) :: dropS X s
def offE (X : List Nat) (e : Env) : Env:=match X with | []=>e | _=>jkE (inX X) e
def offS (X : List Nat) (s : St) : St:=match X with | []=>s | _=>dropS (inX X) s

abbrev Out:=Option (Prop × SV × Env × St)

def eqV : Value → Value → Option Bool
 | .int k a,.int k' b=>if k = k' then some (a == b) else none
 | .bool a,.bool b=>some (a == b)
 | .string a,.string b=>some (a.toList == b.toList)
 | _,_=>none
def eqL (acc : Bool) : List Value → List Value → Option Bool
 | [],[]=>some acc
 | x :: l,y :: l'=>match eqV x y with | some r=>eqL (acc && r) l l' | none=>none
 | _,_=>none
def EqS (P : Program) (t : TypeId) (X Y : List Value) (r : Bool) : Prop := ∀ (x y : Operand) (w : World),(do eqGuard .eql t x y (.agg X.toArray) (.agg Y.toArray); binOp .eql t (.agg X.toArray) (.agg Y.toArray) : Sem Value).run P w = .ok (.bool r) w ∧
 (do eqGuard .neq t x y (.agg X.toArray) (.agg Y.toArray); binOp .neq t (.agg X.toArray) (.agg Y.toArray) : Sem Value).run P w = .ok (.bool (!r)) w
def leavesV : List SV → Option (List Value)
 | []=>some []
 | .d (.v u) :: l=>match leavesV l with | some us=>some (u :: us) | none=>none
 | _ :: _=>none
def aggOf : SV → Option (List SV)
 | .agg cs=>some cs
 | .d (.agg cs)=>some (cs.map .d)
 | _=>none
def eqA (P : Program) (op : BinOp) (t : TypeId) (x y : SV) : Option (Prop × Value) :=
 match aggOf x,aggOf y with
 | some xs,some ys=>match leavesV xs,leavesV ys with
  | some (u :: X),some (v :: Y)=>match eqV u v with
   | some r0=>match eqL r0 X Y with
    | some r=>match op with
     | .eql=>some (EqS P t (u :: X) (v :: Y) r,.bool r)
     | .neq=>some (EqS P t (u :: X) (v :: Y) r,.bool (!r))
     | _=>none
    | none=>none
   | none=>none
  | _,_=>none
 | _,_=>none
/-! Maps. -/
theorem ents_len : ∀ (l : List (Value × Value)) (n : Nat),(entsOf n l).length = l.length
 | [],n=>rfl
 | (k,v) :: l,n=>by simp [entsOf,ents_len l (n + 1)]
def kql : Value → Value → Bool
 | .int k a,.int k' b=>if k = k' then a == b else false
 | .bool a,.bool b=>a == b
 | .string a,.string b=>a == b
 | _,_=>false
def keqL : List Value → List Value → Bool
 | [],[]=>true
 | x :: l,y :: l'=>bif kql x y then keqL l l' else false
 | _,_=>false
def keq : Value → Value → Bool
 | .agg a,.agg b=>keqL a.toList b.toList
 | x,y=>kql x y
def findM (k : Value) : List (Value × Value) → Nat → Option (Nat × Value)
 | [],_=>none
 | (k',v) :: l,i=>bif keq k k' then some (i,v) else findM k l (i + 1)
def setM (k x : Value) : List (Value × Value) → List (Value × Value)
 | []=>[(k,x)]
 | (k',v) :: l=>bif keq k k' then (k',x) :: l else (k',v) :: setM k x l
def KeyOK (P : Program) (kt : TypeId) (k : Value) (M : List (Value × Value)) : Prop :=
 (∀ (w : World) (c : Bool),(Instr.checkKey c 10000 kt k).run P w = .ok () w) ∧ (∀ w : World,(Instr.findKey kt k (entsOf 0 M)).run P w = .ok (findM k M 0) w) ∧
  ∀ (w : World) (k' : Value),k' ∈ M.map (·.1) → keq k k' = true → (Instr.keyThatStays k' k).run P w = .ok k' w
def valV : SV → Option Value
 | .d (.v u)=>some u
 | x=>match aggOf x with
  | some cs=>(leavesV cs).map fun us=>.agg us.toArray
  | none=>none
def mapOf (P : Program) (t : TypeId) : Option (TypeId × Value) :=
 match P.underlying t with
 | some (.map kt et)=>match zeroS P et with
  | some (.d (.v z))=>bif z.oneCell' then some (kt,z) else none
  | _=>none
 | _=>none
def lookO (ok : Bool) (z : Value) (r : Option (Nat × Value)) : SV :=
 bif ok then (match r with | some q=>.tup [.d (.v q.2),.d (.v (.bool true))] | none=>.tup [.d (.v z),.d (.v (.bool false))]) else (match r with | some q=>.d (.v q.2) | none=>.d (.v z))
def entO (z : Value) (n : Nat) (r : Option (Nat × Value)) : SV:=match r with | some q=>.tup [.d (.v q.2),.d (.v (.int .i64 (q.1 : Int)))] | none=>.tup [.d (.v z),.d (.v (.int .i64 (n : Int)))]
def entM (k z : Value) (M : List (Value × Value)) (r : Option (Nat × Value)) : List (Value × Value):=match r with | some _=>M | none=>M ++ [(k,z)]
def stM (j : Nat) (x : Value) (M : List (Value × Value)) : List (Value × Value):=match M[j]? with | some q=>M.set j (q.1,x) | none=>M
def bin (op : BinOp) (k : IntKind) (a b : Int) : Option (Prop × Value) :=
 match op with
 | .add=>some (True,.int k (k.wrap (a + b)))
 | .sub=>some (True,.int k (k.wrap (a - b)))
 | .mul=>some (True,.int k (k.wrap (a * b)))
 | .quo=>some (b ≠ 0,.int k (k.wrap (a.tdiv b)))
 | .rem=>some (b ≠ 0,.int k (a.tmod b))
 | .eql=>some (True,.bool (a == b))
 | .neq=>some (True,.bool (a != b))
 | .lss=>some (True,.bool (decide (a < b)))
 | .leq=>some (True,.bool (decide (a ≤ b)))
 | .gtr=>some (True,.bool (decide (b < a)))
 | .geq=>some (True,.bool (decide (b ≤ a)))
 | _=>none
def binB (op : BinOp) (a b : Bool) : Option Bool :=
 match op with
 | .eql=>some (a == b)
 | .neq=>some (!(a == b))
 | _=>none
def un1 (op : UnOp) (x : SV) : Option Value :=
 match op,x with
 | .neg,.d (.v (.int k n))=>some (.int k (k.wrap (0 - n)))
 | .not,.d (.v (.bool b))=>some (.bool (!b))
 | _,_=>none
def cnv (P : Program) (src dst : TypeId) (x : SV) : Option Value :=
 match P.underlying src,P.underlying dst,x with
 | some (.int _),some (.int k),.d (.v (.int _ n))=>some (.int k (k.wrap n))
 | some .string,some .string,.d (.v (.string b))=>some (.string b)
 | some (.int _),some .string,.d (.v (.int _ n))=>some (.string (Utf8.encode n))
 | _,_,_=>none
def bnd (e : Env) (y : Option Operand) (dflt : Int) : Option (SV × Int) :=
 match y with
 | none=>some (.junk,dflt)
 | some o=>match opn (val e o) with
  | .d (.v (.int _ n))=>some (val e o,n)
  | _=>none
def binS (op : BinOp) (a b : ByteArray) : Option (Prop × Value) :=
 match op with
 | .add=>some (a.size + b.size ≤ maxLen,.string (a ++ b))
 | .eql=>some (True,.bool (a.toList == b.toList))
 | .neq=>some (True,.bool (!(a.toList == b.toList)))
 | .lss=>some (True,.bool (Op.bytesLess a.toList b.toList))
 | .leq=>some (True,.bool (Op.bytesLess a.toList b.toList || a.toList == b.toList))
 | .gtr=>some (True,.bool (!(Op.bytesLess a.toList b.toList || a.toList == b.toList)))
 | .geq=>some (True,.bool (!Op.bytesLess a.toList b.toList))
 | _=>none

def lenV (s : St) : SV → Option Nat
 | .nil=>some 0
 | .d (.slc l)=>some l.length
 | .own i=>match lk i s with | some (.row _ L)=>some L.length | _=>none
 | _=>none
def lenT : SV → Option Nat
 | .d (.v (.string b))=>some b.size
 | _=>none
def loadC (P : Program) (t : TypeId) (cs : List SV) : Option (Prop × SV) :=
 match aggB P t,szOf P t with
 | some true,some n=>some (n ≤ cs.length,.agg (cs.take n))
 | some false,some _=>match cs with | x :: _=>some (True,x) | []=>none
 | _,_=>none
def setE (x : D) (off : Nat) (vs : List D) : Option D :=
 match x with
 | .agg cs=>some (.agg (upd cs off vs))
 | _=>match vs with | [y]=>some y | _=>none

def oks (g : Bool) : List SV → Prop
 | []=>True
 | x :: l=>ok1 g x ∧ oks g l
def opns : List SV → List SV
 | []=>[]
 | x :: l=>opn x :: opns l
def vals (e : Env) : List Operand → List SV
 | []=>[]
 | x :: l=>val e x :: vals e l
def mkF (g : Bool) (fn : Fn) (first caps : List Operand) (e : Env) (s : St) : Out :=
 match fn,first with
 | .func f,[]=>some (oks g (vals e caps),.clo f (opns (vals e caps)),e,s)
 | _,_=>none
def jkS (X : Nat → Bool) : St → St
 | []=>[]
 | (i,b) :: s=>(i,b.jk X) :: jkS X s
def dscs : List D → Prop
 | []=>True
 | .v _ :: l=>dscs l
 | .slc _ :: l=>dscs l
 | _ :: _=>False
def D.fits (k : Nat) (d : D) : Prop:=d.cells.length = k ∧ dscs d.cells
def srcO (s : St) (k : Nat) : SV → Option (Prop × List D)
 | .own j=>match lk j s with | some (.row k2 L)=>some (k2 = k,L) | _=>none
 | .d (.slc l)=>some (∀ d ∈ l,d.fits k,l)
 | .nil=>some (True,[])
 | _=>none
def notI (i : Nat) : SV → Prop
 | .own j=>Nat.beq i j = false
 | _=>True
def appO (P : Program) (g : Bool) (args : List Operand) (ts : List TypeId) (e : Env) (s : St) (nm : Nat:=nx s) : Out :=
 match args,ts with
 | [x, y], [t, t']=>match elemSz P t,elemBy P t,elemSz P t' with
  | some k, some by',some k'=>match srcO s k (opn (val e y)) with
   | some (q,[])=>match opn (val e x) with
    | .nil=>some (g = true ∧ ok1 g (val e x) ∧ ok1 g (val e y) ∧ elemZ P t = true ∧ k' = k ∧ q,.nil,e,s)
    | .own i=>match lk i s with
     | some (.row k3 L)=>some (g = true ∧ ok1 g (val e x) ∧ ok1 g (val e y) ∧ elemZ P t = true ∧ k' = k ∧ q ∧ k3 = k,.own i,e,s)
     | _=>none
    | _=>none
   | some (q,y0 :: Ly)=>match opn (val e x) with
    | .nil=>some (g = true ∧ ok1 g (val e x) ∧ ok1 g (val e y) ∧ elemZ P t = true ∧ k' = k ∧ q ∧ (Ly.length + 1) * by' ≤ 140737488355328 ∧ Ly.length + 1 ≤ maxLen,.own nm,e,(nm,.row k (y0 :: Ly)) :: s)
    | .own i=>match lk i s with
     | some (.row k3 L)=>some (g = true ∧ ok1 g (val e x) ∧ ok1 g (val e y) ∧ elemZ P t = true ∧ k' = k ∧ q ∧ k3 = k ∧ notI i (opn (val e y)) ∧ (L.length + (Ly.length + 1)) * by' ≤ 140737488355328 ∧ L.length + (Ly.length + 1) ≤ maxLen,
      .own i,jkE (Nat.beq i) e,put i (.row k (L ++ y0 :: Ly)) (jkS (Nat.beq i) s))
     | _=>none
    | _=>none
   | _=>none
  | _,_,_=>none
 | _,_=>none
def lenO (P : Program) (g : Bool) (args : List Operand) (ts : List TypeId) (e : Env) (s : St) : Out :=
 match args,ts with
 | [x], [t]=>match P.underlying t with
  | some (.slice _)=>(lenV s (opn (val e x))).map fun (n : Nat)=>(ok1 g (val e x),.d (.v (.int .i64 (n : Int))),e,s)
  | some .string=>(lenT (opn (val e x))).map fun (n : Nat)=>(ok1 g (val e x),.d (.v (.int .i64 (n : Int))),e,s)
  | some (.map _ _)=>match opn (val e x) with
   | .mp i=>match lk i s with
    | some (.mp M)=>some (ok1 g (val e x),.d (.v (.int .i64 (M.length : Int))),e,s)
    | _=>none
   | _=>none
  | _=>none
 | _,_=>none
def bltO (P : Program) (g : Bool) (b : Builtin) (args : List Operand) (ts : List TypeId) (e : Env) (s : St) (nm : Nat:=nx s) : Out :=
 match b with
 | .len=>lenO P g args ts e s
 | .append=>appO P g args ts e s nm
 | _=>none
def callO (P : Program) (g : Bool) (c : Call) (e : Env) (s : St) (nm : Nat:=nx s) : Out :=
 match c.callee with
 | .builtin b=>bltO P g b c.args.toList c.argTypes.toList e s nm
 | _=>none

def fillO (g : Bool) (pl : List (Nat × Nat)) (e : Env) : List (Nat × Operand) → List SV → Option (Prop × List SV)
 | [],cs=>some (True,cs)
 | (i, x) :: r,cs=>match pl[i]? with
  | some (off,n)=>match fillO g pl e r (upd cs off (opn (val e x)).cells) with
   | some (p,cs')=>some (ok1 g (val e x) ∧ (opn (val e x)).cells.length = n ∧ off + n ≤ cs.length ∧ scs (opn (val e x)).cells ∧ p,cs')
   | none=>none
  | none=>none
def buildO (P : Program) (g : Bool) (t : TypeId) (parts : List (Nat × Operand)) (e : Env) (s : St) : Out :=
 match zeroS P t,plcs P t with
 | some (.agg z),some pl=>(fillO g pl e parts z).map fun r=>(scs z ∧ r.1,.agg r.2,e,s)
 | _,_=>none
def elemsO (g : Bool) (k : Nat) (e : Env) (s : St) : List (Nat × Operand) → Nat → Option (Prop × List D)
 | [],_=>some (True,[])
 | (i,x) :: r,j=>bif Nat.beq i j then match SV.toD s (opn (val e x)),elemsO g k e s r (j + 1) with
  | some d,some (p,ds)=>some (ok1 g (val e x) ∧ (opn (val e x)).owns = [] ∧ d.fits k ∧ p,d :: ds)
  | _,_=>none
  else none
def bslO (P : Program) (g : Bool) (t : TypeId) (len : Nat) (parts : List (Nat × Operand)) (e : Env) (s : St) (nm : Nat:=nx s) : Out :=
 match elemSz P t with
 | some k=>(elemsO g k e s parts 0).map fun r=>(g = true ∧ elemZ P t = true ∧ r.2.length = len ∧ len * k ≤ 16777216 ∧ r.1,.own nm,e,(nm,.row k r.2) :: s)
 | none=>none

def slO (P : Program) (g : Bool) (t : TypeId) (x : Operand) (lo hi mx : Option Operand) (e : Env) (s : St) : Out :=
 match mx with
 | some _=>none
 | none => match P.underlying t,opn (val e x) with
  | some .string,.d (.v (.string b))=>match bnd e lo 0,bnd e hi b.size with
   | some (vl,l),some (vh,h)=>some (ok1 g (val e x) ∧ ok1 g vl ∧ ok1 g vh ∧ (g = true → 0 ≤ l ∧ l ≤ h ∧ h ≤ b.size),.d (.v (.string (b.extract l.toNat h.toNat))),e,s)
   | _,_=>none
  | some (.slice el),.d (.slc L)=>match hi,szOf P el,bnd e lo 0 with
   | none,some k,some (vl,l)=>some (ok1 g (val e x) ∧ ok1 g vl ∧ (g = true → 0 ≤ l ∧ l ≤ L.length) ∧ (∀ d ∈ L,d.cells.length = k),.d (.slc (L.drop l.toNat)),e,s)
   | some hh,some k,some (vl,l)=>match bnd e (some hh) 0 with
    | some (vh,h)=>some (ok1 g (val e x) ∧ ok1 g vl ∧ ok1 g vh ∧ (g = true → 0 ≤ l ∧ l ≤ h ∧ h ≤ L.length) ∧ (∀ d ∈ L,d.cells.length = k),.d (.slc ((L.take h.toNat).drop l.toNat)),e,s)
    | none=>none
   | _,_,_=>none
  | _,_=>none
def stepO (P : Program) (g : Bool) (o : Oper) (e : Env) (s : St) (nm : Nat:=nx s) : Out :=
 match o.op with
 | .move x | .assign x=>some (ok1 g (val e x),opn (val e x),e,s)
 | .pick c a b =>
  match opn (val e c) with
  | .d (.v (.bool t))=>some (ok1 g (val e c) ∧ okp g t (val e a) ∧ okp g (!t) (val e b),pickV t (opn (val e a)) (opn (val e b)),e,s)
  | _=>none
 | .box _ x=>some (g = true ∧ ok1 g (val e x) ∧ scs (opn (val e x)).cells,.ref nm 0,e,(nm,.cells (opn (val e x)).cells) :: s)
 | .alloc t=>(zeroS P t).map fun z=>(g = true ∧ scs z.cells,.ref nm 0,e,(nm,.cells z.cells) :: s)
 | .load t x =>
  match opn (val e x) with
  | .ref i off=>match lk i s with
   | some (.cells cs)=>(loadC P t (cs.drop off)).map fun r=>(ok1 g (val e x) ∧ r.1,r.2,e,s)
   | _=>none
  | .fptr y off=>(loadC P t ((y.cells.drop off).map .d)).map fun r=>(ok1 g (val e x) ∧ r.1,r.2,e,s)
  | .eref i idx off=>match lk i s with
   | some (.row k L)=>(loadC P t (((L.getD idx default).cells.drop off).map .d)).map fun r=>(ok1 g (val e x) ∧ r.1,r.2,e,s)
   | _=>none
  | _=>none
 | .store t x y =>
  match opn (val e x) with
  | .ref i off=>match lk i s,szOf P t with
   | some (.cells cs),some n=>some (g = true ∧ ok1 g (val e x) ∧ ok1 g (val e y) ∧ (opn (val e y)).cells.length = n ∧ off + n ≤ cs.length ∧ scs (opn (val e y)).cells,.junk,e,put i (.cells (upd cs off (opn (val e y)).cells)) s)
   | _,_=>none
  | _=>none
 | .fieldAddr t x f =>
  match fldOf P t f with
  | some (d,n + 1)=>match opn (val e x) with
   | .ref i off=>some (ok1 g (val e x),.ref i (off + d),e,s)
   | .fptr y off=>some (ok1 g (val e x),.fptr y (off + d),e,s)
   | .eref i idx off=>some (ok1 g (val e x),.eref i idx (off + d),e,s)
   | _=>none
  | _=>none
 | .indexAddr t x ix =>
  match elemSz P t,opn (val e ix) with
  | some k,.d (.v (.int _ n))=>match opn (val e x) with
   | .d (.slc l)=>some (ok1 g (val e x) ∧ ok1 g (val e ix) ∧ (g = true → 0 ≤ n ∧ n < l.length ∧ (l.getD n.toNat default).cells.length = k),.fptr (l.getD n.toNat default) 0,e,s)
   | .own i=>match lk i s with
    | some (.row k' L)=>some (ok1 g (val e x) ∧ ok1 g (val e ix) ∧ (g = true → 0 ≤ n ∧ n < L.length ∧ k' = k),.eref i n.toNat 0,e,s)
    | _=>none
   | .sref i m=>some (ok1 g (val e x) ∧ ok1 g (val e ix) ∧ (g = true → 0 ≤ n ∧ n < m ∧ k = 1),.ref i n.toNat,e,s)
   | _=>none
  | _,_=>none
 | .extract x i =>
  match opn (val e x) with
  | .tup vs=>(vs[i]?).map fun y=>(ok1 g (val e x),y,e,s)
  | .d (.tup vs)=>(vs[i]?).map fun y=>(ok1 g (val e x),.d y,e,s)
  | _=>none
 | .nilCheck x =>
  match opn (val e x) with
  | .ref i off=>some (ok1 g (val e x),.ref i off,e,s)
  | .eref i idx off=>some (ok1 g (val e x),.eref i idx off,e,s)
  | .fptr y off=>some (ok1 g (val e x),.fptr y off,e,s)
  | .d (.ptr y)=>some (ok1 g (val e x),.fptr y 0,e,s)
  | _=>none
 | .binOp op t x y _ =>
  match opn (val e x),opn (val e y) with
  | .d (.v (.int k a)),.d (.v (.int k' b))=>if k = k' then (bin op k a b).map fun r=>(ok1 g (val e x) ∧ ok1 g (val e y) ∧ (g = true → r.1),.d (.v r.2),e,s) else none
  | .d (.v (.string a)),.d (.v (.string b))=>(binS op a b).map fun r=>(ok1 g (val e x) ∧ ok1 g (val e y) ∧ (g = true → r.1),.d (.v r.2),e,s)
  | .d (.v (.bool a)),.d (.v (.bool b))=>(binB op a b).map fun r=>(ok1 g (val e x) ∧ ok1 g (val e y) ∧ P.underlying t = some .bool,.d (.v (.bool r)),e,s)
  | x',y'=>(eqA P op t x' y').map fun r=>(ok1 g (val e x) ∧ ok1 g (val e y) ∧ r.1,.d (.v r.2),e,s)
 | .unOp op _ x=>(un1 op (opn (val e x))).map fun r=>(ok1 g (val e x),.d (.v r),e,s)
 | .convert src dst x=>(cnv P src dst (opn (val e x))).map fun r=>(ok1 g (val e x),.d (.v r),e,s)
 | .index t x ix =>
  match P.underlying t,opn (val e x),opn (val e ix) with
  | some .string,.d (.v (.string b)),.d (.v (.int _ n))=>some (ok1 g (val e x) ∧ ok1 g (val e ix) ∧ (g = true → 0 ≤ n ∧ n < b.size),.d (.v (.int .u8 ((b.data.toList.getD n.toNat 0).toNat : Nat))),e,s)
  | _,_,_=>none
 | .slice t x lo hi mx=>slO P g t x lo hi mx e s
 | .makeFunc fn first caps=>mkF g fn first.toList caps.toList e s
 | .call c=>callO P g c e s nm
 | .build t parts=>buildO P g t parts.toList e s
 | .buildSlice t len parts=>bslO P g t len parts.toList e s nm
 | .makeMap _ none=>some (g = true,.mp nm,e,(nm,.mp []) :: s)
 | .lookup t x k ok =>
  match mapOf P t,opn (val e x),valV (opn (val e k)) with
  | some (kt,z),.mp i,some kv=>match lk i s with
   | some (.mp M)=>some (ok1 g (val e x) ∧ ok1 g (val e k) ∧ (g = true → KeyOK P kt kv M),lookO ok z (findM kv M 0),e,s)
   | _=>none
  | _,_,_=>none
 | .mapUpdate t x k y | .insert t x k y =>
  match mapOf P t,opn (val e x),valV (opn (val e k)) with
  | some (kt,z),.mp i,some kv=>match lk i s,opn (val e y) with
   | some (.mp M),.d (.v yv)=>some (g = true ∧ ok1 g (val e x) ∧ ok1 g (val e k) ∧ ok1 g (val e y) ∧ KeyOK P kt kv M,.junk,e,put i (.mp (setM kv yv M)) s)
   | _,_=>none
  | _,_,_=>none
 | .mapEntry t x k =>
  match mapOf P t,opn (val e x),valV (opn (val e k)) with
  | some (kt,z),.mp i,some kv=>match lk i s with
   | some (.mp M)=>some (g = true ∧ ok1 g (val e x) ∧ ok1 g (val e k) ∧ KeyOK P kt kv M,entO z M.length (findM kv M 0),e,put i (.mp (entM kv z M (findM kv M 0))) s)
   | _=>none
  | _,_,_=>none
 | .entryStore _ x st y =>
  match opn (val e x),opn (val e st),opn (val e y) with
  | .mp i,.d (.v (.int _ j)),.d (.v yv)=>match lk i s with
   | some (.mp M)=>some (g = true ∧ ok1 g (val e x) ∧ ok1 g (val e st) ∧ ok1 g (val e y) ∧ 0 ≤ j ∧ j < M.length,.junk,e,put i (.mp (stM j.toNat yv M)) s)
   | _=>none
  | _,_,_=>none
 | _=>none
end Go.Sw
namespace Go.Sw
open Go.RowKit

structure Since {P : Program} {N : Nat} {Γ : Gl} (C : Cx P N Γ) (β : Nat → Value) (s : St) (w : World) : Prop where
 os : w.os = C.w0.os
 tape : w.tape = C.w0.tape
 output : w.output = C.w0.output
 size : C.w0.heap.size ≤ w.heap.size
 heap : ∀ b,b < C.w0.heap.size → (∀ i bx,lk i C.s0 = some bx → blk (C.β0 i) ≠ some b) → w.heap[b]? = C.w0.heap[b]?
 boxes : ∀ i bx b,lk i s = some bx → blk (β i) = some b → C.w0.heap.size ≤ b ∨ ∃ j by',lk j C.s0 = some by' ∧ blk (C.β0 j) = some b
 cells : ∀ i cs cs',lk i C.s0 = some (.cells cs) → lk i s = some (.cells cs') → β i = C.β0 i
 keep : ∀ i bx,lk i C.s0 = some bx → lk i s ≠ none

structure InvB {P : Program} {N : Nat} {Γ : Gl} (C : Cx P N Γ) (β : Nat → Value) (e : Env) (s : St) (a : Act) (w : World) : Prop where
 wr : WR C.F β s w
 base : ∀ i bx b,lk i s = some bx → blk (β i) = some b → Γ.NG ≤ b
 env : ∀ t x,lk t e = some x → t < N ∧ Rp w C.F β s (.s x (a.tmps.getD t undef))
 size : a.tmps.size = N
 defers : a.defers = C.ds
 glob : Γ.G w
 big : Γ.NG ≤ w.heap.size
 since : Since C β s w

def pureOp : Op → Bool
 | .move _ | .assign _ | .pick _ _ _ | .load _ _ | .fieldAddr _ _ _ | .indexAddr _ _ _ | .extract _ _ | .nilCheck _ | .binOp _ _ _ _ _ | .makeFunc _ _ _ | .build _ _ | .unOp _ _ _ | .convert _ _ _ | .index _ _ _ | .slice _ _ _ _ _ | .lookup _ _ _ _=>true
 | .call c=>match c.callee with | .builtin .len=>true | _=>false
 | _=>false
def OpOK {P : Program} {N : Nat} {Γ : Gl} (C : Cx P N Γ) (o : Oper) (e : Env) (s : St) (x : SV) (e' : Env) (s' : St) : Prop :=
 ∀ β a w,InvB C β e s a w → ∀ (K : Act → World → Prop) (Q : Exit → Act → World → Prop),
   (∀ β' v w',InvB C β' e' s' a w' → (pureOp o.op = true → β' = β ∧ w' = w) → Rp w' C.F β' s' (.s x v) → K (a.put o.dst v) w') → o.wp P a w K Q

theorem leafS_rp {w : World} {F : Nat → Prop} {β : Nat → Value} {s : St} (v : Value) (h : v.oneCell' = true) : Rp w F β s (.s (leafS v) v):=by
 unfold leafS
 split
 · exact .nil
 · exact .d (.v _ h)
theorem ofV_rp {w : World} {F : Nat → Prop} {β : Nat → Value} {s : St} (v : Value) (h : constOK v = true) : Rp w F β s (.s (ofV v) v):=by
 unfold ofV
 split
 · exact .nil
 · rename_i cs
   simp only [constOK] at h
   have : ∀ l : List Value,l.all (·.oneCell') = true → Rp w F β s (.ss (l.map leafS) l):=by
    intro l
    induction l with
    | nil=>intro _; exact .ssn
    | cons a l ih =>
     intro h
     simp only [List.all_cons,Bool.and_eq_true] at h
     exact .ssc (leafS_rp a h.1) (ih h.2)
   have:=Rp.agg (this cs.toList h)
   simpa using this
 · exact .junk
 · rename_i h1 h2 h3
   refine .d (.v _ ?_)
   cases v <;> simp_all [Value.oneCell']
theorem val_rp {P : Program} {N : Nat} {Γ : Gl} {C : Cx P N Γ} {β : Nat → Value} {e : Env} {s : St} {a : Act} {w : World} (inv : InvB C β e s a w) (x : Operand) (hx : opdOK x = true) : Rp w C.F β s (.s (val e x) (a.eval x)):=by
 cases x with
 | tmp t =>
  simp only [val,Act.eval]
  cases h : lk t e with
  | none=>exact .junk
  | some y=>exact (inv.env t y h).2
 | const v=>exact ofV_rp v hx
 | global g=>exact .junk
 | func f=>exact .clo (us:=[]) .ssn
theorem opn_rp {w : World} {F : Nat → Prop} {β : Nat → Value} {s : St} {x : SV} {u : Value} (h : Rp w F β s (.s x u)) (hk : ok1 true x) : Rp w F β s (.s (opn x) u):=by
 cases x with
 | grd g y =>
  cases h with
  | grdF=>simp [ok1] at hk
  | grdT h=>exact h
 | _=>exact h

theorem ok_same {P : Program} {N : Nat} {Γ : Gl} {C : Cx P N Γ} {o : Oper} {e : Env} {s : St} {x : SV} (h : ∀ β a w,InvB C β e s a w → ∃ v,(execOp a.eval o).run P w = .ok (.value v) w ∧ Rp w C.F β s (.s x v)) : OpOK C o e s x e s:=by
 intro β a w inv K Q hK
 obtain ⟨v,h1,h2⟩:=h β a w inv
 unfold Oper.wp
 rw [h1]
 exact hK β v w inv (fun _=>⟨rfl,rfl⟩) h2

/-! ### Reads -/
theorem Rp.ss_len {w : World} {F : Nat → Prop} {β : Nat → Value} {s : St} : ∀ {l : List SV} {us : List Value},Rp w F β s (.ss l us) → us.length = l.length
 | [],_,.ssn=>rfl
 | _ :: _,_,.ssc _ ht=>by simp [Rp.ss_len ht]
theorem Rp.ss_drop {w : World} {F : Nat → Prop} {β : Nat → Value} {s : St} : ∀ {l : List SV} {us : List Value} (n : Nat),Rp w F β s (.ss l us) → Rp w F β s (.ss (l.drop n) (us.drop n))
 | _,_,0,h=>h
 | [],_,n + 1,.ssn=>.ssn
 | _ :: _,_,n + 1,.ssc _ ht=>Rp.ss_drop n ht
theorem Rp.ss_take {w : World} {F : Nat → Prop} {β : Nat → Value} {s : St} : ∀ {l : List SV} {us : List Value} (n : Nat),Rp w F β s (.ss l us) → Rp w F β s (.ss (l.take n) (us.take n))
 | _,_,0,h=>by simpa using Rp.ssn
 | [],_,n + 1,.ssn=>.ssn
 | _ :: _,_,n + 1,.ssc h ht=>.ssc h (Rp.ss_take n ht)
theorem Rp.ss_app {w : World} {F : Nat → Prop} {β : Nat → Value} {s : St} : ∀ {l l' : List SV} {us us' : List Value},Rp w F β s (.ss l us) → Rp w F β s (.ss l' us') → Rp w F β s (.ss (l ++ l') (us ++ us'))
 | [],_,_,_,.ssn,h=>h
 | _ :: _,_,_,_,.ssc h ht,h'=>.ssc h (Rp.ss_app ht h')
theorem Rp.ss_get {w : World} {F : Nat → Prop} {β : Nat → Value} {s : St} : ∀ {l : List SV} {us : List Value} (i : Nat) {x : SV},Rp w F β s (.ss l us) → l[i]? = some x → ∃ u,us[i]? = some u ∧ Rp w F β s (.s x u)
 | [],_,i,x,.ssn,h=>by simp at h
 | y :: l,u :: us,0,x,.ssc hx _,h=>by simp at h; subst h; exact ⟨u,rfl,hx⟩
 | y :: l,u :: us,i + 1,x,.ssc _ ht,h=>by
  obtain ⟨u',h1,h2⟩:=Rp.ss_get i ht (by simpa using h)
  exact ⟨u',by simpa using h1,h2⟩
theorem ds_ss {w : World} {F : Nat → Prop} {β : Nat → Value} {s : St} : ∀ {l : List D} {us : List Value},RpD w (Mut F β s) (.ds l us) → Rp w F β s (.ss (l.map .d) us)
 | [],_,.dsn=>.ssn
 | _ :: _,_,.dsc h ht=>.ssc (.d h) (ds_ss ht)
theorem cs_list {w : World} {M : Nat → Prop} : ∀ {l : List D} {b o : Nat},RpD w M (.cs l b o) → ∃ us,RpD w M (.ds l us) ∧ ∀ j u,us[j]? = some u → w.cell? ⟨b,o + j,none⟩ = some u
 | [],b,o,.csn _ _=>⟨[],.dsn,fun j u h=>by simp at h⟩
 | x :: l,b,o,.csc hm hc h ht=>by
  obtain ⟨us,h1,h2⟩:=cs_list ht
  refine ⟨_ :: us,.dsc h h1,fun j u hj=>?_⟩
  cases j with
  | zero=>simp at hj; subst hj; exact hc
  | succ j=>rw [show o + (j + 1) = o + 1 + j by omega]; exact h2 j u (by simpa using hj)

theorem aggB_run {P : Program} {t : TypeId} {q : Bool} (h : aggB P t = some q) (w : World) : (isAgg t).run P w = .ok q w:=by
 unfold aggB at h
 cases hu : P.underlying t with
 | none=>rw [hu] at h; simp at h
 | some d =>
  rw [hu] at h
  simp only [Option.map_some,Option.some.injEq] at h
  subst h
  unfold isAgg
  simp only [Sem.run_bind,run_underlying hu,Result.andThen_ok]
  split <;> simp
theorem szOf_run {P : Program} {t : TypeId} {n : Nat} (h : szOf P t = some n) (w : World) : (sizeOf t).run P w = .ok n w:=by
 unfold szOf at h
 cases hi : P.info? t with
 | none=>rw [hi] at h; simp at h
 | some i =>
  rw [hi] at h
  simp only [Option.map_some,Option.some.injEq] at h
  simp [sizeOf,typeInfo,hi,h]

theorem loadC_ok {P : Program} {t : TypeId} {cs : List SV} {r : Prop × SV} (hl : loadC P t cs = some r) (hp : r.1) {w : World} {F : Nat → Prop} {β : Nat → Value} {s : St} {us : List Value} (hr : Rp w F β s (.ss cs us)) (b off : Nat)
 (hc : ∀ j u,us[j]? = some u → w.cell? ⟨b,off + j,none⟩ = some u) : ∃ v,(loadVar t ⟨b,off,none⟩).run P w = .ok v w ∧ Rp w F β s (.s r.2 v):=by
 unfold loadC at hl
 split at hl
 · rename_i n ha hs
   simp only [Option.some.injEq] at hl
   subst hl
   simp only at hp ⊢
   have hlen:=hr.ss_len
   have h1:=run_loadCells_list (P:=P) w ⟨b,off,none⟩ (us.take n) (fun j v hj=>by
    rw [List.getElem?_take] at hj
    split at hj
    · rw [Addr.add_lit]; exact hc j v hj
    · cases hj)
   rw [List.length_take,Nat.min_eq_left (by omega)] at h1
   refine ⟨.agg (us.take n).toArray,?_,.agg (hr.ss_take n)⟩
   unfold loadVar
   simp only [Sem.run_bind,aggB_run ha,Result.andThen_ok,if_true,szOf_run hs,h1,Sem.run_pure]
 · rename_i n ha hs
   split at hl
   · rename_i x l
     simp only [Option.some.injEq] at hl
     subst hl
     cases hr with
     | ssc h ht =>
      rename_i u us'
      refine ⟨u,?_,h⟩
      have:=hc 0 u (by simp)
      rw [Nat.add_zero] at this
      unfold loadVar
      simp only [Sem.run_bind,aggB_run ha,Result.andThen_ok,run_load,this]
      simp [run_load,this]
   · cases hl
 · cases hl

theorem flat_get : ∀ {L : List D} {k : Nat} (hk : ∀ x ∈ L,x.cells.length = k) (idx : Nat),idx < L.length → ∃ r,(L.flatMap D.cells).drop (idx * k) = (L.getD idx default).cells ++ r
 | x :: L,k,hk,0,h=>⟨L.flatMap D.cells,by simp⟩
 | x :: L,k,hk,i + 1,h=>by
  have h1:=hk x (by simp)
  obtain ⟨r,hr⟩:=flat_get (L:=L) (fun y hy=>hk y (by simp [hy])) i (by simpa using h)
  refine ⟨r,?_⟩
  rw [List.flatMap_cons,List.drop_append,List.drop_of_length_le (by rw [h1,Nat.add_mul]; omega),List.nil_append,h1,show (i + 1) * k - k = i * k by rw [Nat.add_mul]; omega,hr]
  simp
end Go.Sw
namespace Go.Sw
open Go.RowKit

theorem lk_lt_nx : ∀ {s : St} {i : Nat} {b : Box},lk i s = some b → i < nx s
 | [],i,b,h=>by simp [lk] at h
 | (j, bx) :: s,i,b,h=>by
  unfold lk at h
  unfold nx
  have hle : ∀ m n : Nat,Nat.ble m n = true ∨ Nat.ble m n = false:=fun m n=>by cases Nat.ble m n <;> simp
  by_cases hij : i = j
  · subst hij
    cases hb : Nat.ble (nx s) i
    · simp only [cond_false]
      have : ¬ nx s ≤ i:=fun h=>by rw [Nat.ble_eq_true_of_le h] at hb; cases hb
      omega
    · simp only [cond_true]; omega
  · rw [beq_ne hij,cond_false] at h
    have:=lk_lt_nx h
    cases hb : Nat.ble (nx s) j
    · simp only [cond_false]; exact this
    · simp only [cond_true]
      have:=Nat.le_of_ble_eq_true hb
      omega
theorem lk_nx (s : St) : lk (nx s) s = none:=by
 cases h : lk (nx s) s with
 | none=>rfl
 | some b=>exact absurd (lk_lt_nx h) (by omega)

theorem lk_jkE (X : Nat → Bool) (t : Nat) : ∀ e : Env,lk t (jkE X e) = (lk t e).map (SV.jk X)
 | []=>rfl
 | (t',x) :: e=>by
  unfold jkE lk
  cases Nat.beq t t'
  · simp only [cond_false]; exact lk_jkE X t e
  · simp
theorem jkE_none : ∀ e : Env,jkE (fun _=>false) e = e
 | []=>rfl
 | (t,x) :: e=>by simp only [jkE,SV.jk_none,jkE_none e]

theorem InvB.step {P : Program} {N : Nat} {Γ : Gl} {C : Cx P N Γ} {β β' : Nat → Value} {e : Env} {s s' : St} {a : Act} {w w' : World} {X : Nat → Bool} (inv : InvB C β e s a w) (hx : Ext X C.F w β s w' β' s') (hwr : WR C.F β' s' w')
 (hs : Since C β' s' w') (hsize : w.heap.size ≤ w'.heap.size) (hG : ∀ b,b < Γ.NG → w'.heap[b]? = w.heap[b]?) (hbase : ∀ i bx b,lk i s' = some bx → blk (β' i) = some b → Γ.NG ≤ b) : InvB C β' (jkE X e) s' a w' where
 wr:=hwr
 base:=hbase
 env := fun t x h=>by
  rw [lk_jkE] at h
  cases hl : lk t e with
  | none=>rw [hl] at h; cases h
  | some y =>
   rw [hl] at h
   simp only [Option.map_some,Option.some.injEq] at h
   subst h
   obtain ⟨h1,h2⟩:=inv.env t y hl
   exact ⟨h1,Rp.keep hx h2⟩
 size:=inv.size
 defers:=inv.defers
 glob := Γ.GK w w' hG inv.glob
 big:=Nat.le_trans inv.big hsize
 since:=hs
theorem InvB.step0 {P : Program} {N : Nat} {Γ : Gl} {C : Cx P N Γ} {β β' : Nat → Value} {e : Env} {s s' : St} {a : Act} {w w' : World} (inv : InvB C β e s a w) (hx : Ext (fun _=>false) C.F w β s w' β' s') (hwr : WR C.F β' s' w')
 (hs : Since C β' s' w') (hsize : w.heap.size ≤ w'.heap.size) (hG : ∀ b,b < Γ.NG → w'.heap[b]? = w.heap[b]?) (hbase : ∀ i bx b,lk i s' = some bx → blk (β' i) = some b → Γ.NG ≤ b) : InvB C β' e s' a w':=by
 have:=inv.step hx hwr hs hsize hG hbase
 rwa [jkE_none] at this

theorem BoxR.keep {w w' : World} {F : Nat → Prop} {β β' : Nat → Value} {s s' : St} {j : Nat} {bx : Box} (hx : Ext (fun _=>false) F w β s w' β' s') (hβ : β' j = β j)
 (hb : ∀ b,blk (β j) = some b → w'.heap[b]? = w.heap[b]?) (h : BoxR w F β s j bx) : BoxR w' F β' s' j bx:=by
 cases bx with
 | cells cs =>
  obtain ⟨b,t,us,h1,h2,h3,h4⟩:=h
  refine ⟨b,t,us,hβ.trans h1,?_,Rp.keep0s hx h3,h4⟩
  rw [hb b (by rw [h1]; rfl)]; exact h2
 | row k L =>
  obtain ⟨h0,hk,el,xs,h1,h2,h3⟩:=h
  refine ⟨h0,hk,el,xs,?_,h2.keep hx.heap hx.mutb,h3⟩
  rw [hβ]
  refine ⟨h1.1,?_⟩
  rcases h1.2 with h | ⟨g,cap,cur,e1,e2,e3,e4⟩
  · exact .inl h
  · refine .inr ⟨g,cap,cur,e1,e2,?_,e4⟩
    rw [hb g (by rw [e1]; rfl)]; exact e3
 | mp M =>
  obtain ⟨b,h1,h2⟩:=h
  exact ⟨b,hβ.trans h1,by rw [hb b (by rw [h1]; rfl)]; exact h2⟩

theorem BoxR.blk_lt {w : World} {F : Nat → Prop} {β : Nat → Value} {s : St} {j : Nat} {bx : Box} (h : BoxR w F β s j bx) {b : Nat} (hb : blk (β j) = some b) : b < w.heap.size:=by
 cases bx with
 | cells cs =>
  obtain ⟨b',t,us,h1,h2, -⟩:=h
  rw [h1] at hb
  simp [blk] at hb
  subst hb
  exact (Array.getElem?_eq_some_iff.1 h2).1
 | row k L =>
  obtain ⟨h0,hk,el,xs,h1,h2,h3⟩:=h
  rcases h1.2 with ⟨h, -⟩ | ⟨g,cap,cur,e1,e2,e3,e4⟩
  · rw [h] at hb; simp [blk] at hb
  · rw [e1] at hb
    simp [blk] at hb
    subst hb
    exact (Array.getElem?_eq_some_iff.1 e3).1
 | mp M =>
  obtain ⟨b',h1,h2⟩:=h
  rw [h1] at hb
  simp [blk] at hb
  subst hb
  exact (Array.getElem?_eq_some_iff.1 h2.1).1

def bset (β : Nat → Value) (i : Nat) (v : Value) : Nat → Value:=fun j=>if j = i then v else β j
theorem bset_same (β : Nat → Value) (i : Nat) (v : Value) : bset β i v i = v:=by simp [bset]
theorem bset_ne {β : Nat → Value} {i j : Nat} {v : Value} (h : j ≠ i) : bset β i v j = β j:=by simp [bset,h]
theorem lk_cons_same {α : Type} (i : Nat) (x : α) (s : List (Nat × α)) : lk i ((i,x) :: s) = some x:=by simp [lk]
theorem lk_cons_ne {α : Type} {i j : Nat} (h : j ≠ i) (x : α) (s : List (Nat × α)) : lk j ((i,x) :: s) = lk j s:=by simp [lk,beq_ne h]

theorem heap_alloc_lt (w : World) (o : Obj) {b : Nat} (h : b < w.heap.size) : (w.alloc o).heap[b]? = w.heap[b]? := Below.heap_alloc w o b h

theorem ext_alloc {P : Program} {N : Nat} {Γ : Gl} {C : Cx P N Γ} {β : Nat → Value} {e : Env} {s : St} {a : Act} {w : World} (inv : InvB C β e s a w) (o : Obj) (v : Value) (bx : Box) (hv : ∀ b,blk v = some b → b = w.heap.size) {n : Nat} (hn : lk n s = none) :
 Ext (fun _=>false) C.F w β s (w.alloc o) (bset β (n) v) ((n,bx) :: s) where
 heap:=fun b hb _=>heap_alloc_lt w o hb
 mutb := fun b hb h=>by
  rcases h with h | ⟨i,b',h1,h2⟩
  · exact .inl h
  · by_cases hi : i = n
    · subst hi
      rw [bset_same] at h2
      have:=hv b h2
      omega
    · rw [lk_cons_ne hi] at h1
      rw [bset_ne hi] at h2
      exact .inr ⟨i,b',h1,h2⟩
 cells:=fun i cs _ h=>by
  have hi : i ≠ n:=fun h'=>by subst h'; rw [hn] at h; cases h
  exact ⟨bset_ne hi,cs,by rw [lk_cons_ne hi]; exact h⟩
 row:=fun i k L _ h=>by
  have hi : i ≠ n:=fun h'=>by subst h'; rw [hn] at h; cases h
  exact ⟨bset_ne hi,L,by rw [lk_cons_ne hi]; exact h,Nat.le_refl _⟩
 mp := fun i M _ h=>by
  have hi : i ≠ n:=fun h'=>by subst h'; rw [hn] at h; cases h
  exact ⟨bset_ne hi,M,by rw [lk_cons_ne hi]; exact h⟩

theorem InvB.new {P : Program} {N : Nat} {Γ : Gl} {C : Cx P N Γ} {β : Nat → Value} {e : Env} {s : St} {a : Act} {w : World} (inv : InvB C β e s a w) (o : Obj) (v : Value) (bx : Box) (hv : ∀ b,blk v = some b → b = w.heap.size) {n : Nat} (hn : lk n s = none)
 (hbox : BoxR (w.alloc o) C.F (bset β (n) v) ((n,bx) :: s) (n) bx) :
 InvB C (bset β (n) v) e ((n,bx) :: s) a (w.alloc o):=by
 have hx:=ext_alloc inv o v bx hv hn
 have hblk : ∀ j bj b,lk j s = some bj → blk (β j) = some b → b < w.heap.size:=fun j bj b h1 h2=>(inv.wr.boxes j bj h1).blk_lt h2
 refine inv.step0 hx ⟨?_,?_,?_,?_⟩ ⟨?_,?_,?_,?_,?_,?_,?_,?_⟩ (by simp) (fun b hb=>heap_alloc_lt w o (Nat.lt_of_lt_of_le hb inv.big)) ?_
 · intro i b' h
   by_cases hi : i = n
   · subst hi
     rw [lk_cons_same] at h
     cases h
     exact hbox
   · rw [lk_cons_ne hi] at h
     exact (inv.wr.boxes i b' h).keep hx (bset_ne hi) (fun b hb=>heap_alloc_lt w o (hblk i b' b h hb))
 · intro i j b1 b2 b h1 h2 h3 h4
   by_cases hi : i = n
   · by_cases hj : j = n
     · omega
     · subst hi
       rw [bset_same] at h3
       rw [lk_cons_ne hj] at h2
       rw [bset_ne hj] at h4
       have:=hv b h3
       have:=hblk j b2 b h2 h4
       omega
   · rw [lk_cons_ne hi] at h1
     rw [bset_ne hi] at h3
     by_cases hj : j = n
     · subst hj
       rw [bset_same] at h4
       have:=hv b h4
       have:=hblk i b1 b h1 h3
       omega
     · rw [lk_cons_ne hj] at h2
       rw [bset_ne hj] at h4
       exact inv.wr.inj i j b1 b2 b h1 h2 h3 h4
 · intro i b' b h1 h2 hF
   by_cases hi : i = n
   · subst hi
     rw [bset_same] at h2
     have:=hv b h2
     have:=inv.wr.low b hF
     omega
   · rw [lk_cons_ne hi] at h1
     rw [bset_ne hi] at h2
     exact inv.wr.apart i b' b h1 h2 hF
 · intro b hb
   have:=inv.wr.low b hb
   simp; omega
 · exact inv.since.os
 · exact inv.since.tape
 · exact inv.since.output
 · have:=inv.since.size
   simp; omega
 · intro b hb h
   rw [heap_alloc_lt w o (Nat.lt_of_lt_of_le hb inv.since.size)]
   exact inv.since.heap b hb h
 · intro i b' b h1 h2
   by_cases hi : i = n
   · subst hi
     rw [bset_same] at h2
     have:=hv b h2
     exact .inl (by have:=inv.since.size; omega)
   · rw [lk_cons_ne hi] at h1
     rw [bset_ne hi] at h2
     exact inv.since.boxes i b' b h1 h2
 · intro i cs cs' h1 h2
   by_cases hi : i = n
   · subst hi
     exact absurd hn (inv.since.keep _ _ h1)
   · rw [lk_cons_ne hi] at h2
     rw [bset_ne hi]
     exact inv.since.cells i cs cs' h1 h2
 · intro i b' h
   have:=inv.since.keep i b' h
   by_cases hi : i = n
   · subst hi; exact absurd hn this
   · rw [lk_cons_ne hi]; exact this
 · intro i b' b h1 h2
   by_cases hi : i = n
   · subst hi
     rw [bset_same] at h2
     have:=hv b h2
     have:=inv.big
     omega
   · rw [lk_cons_ne hi] at h1
     rw [bset_ne hi] at h2
     exact inv.base i b' b h1 h2
theorem InvB.grow {P : Program} {N : Nat} {Γ : Gl} {C : Cx P N Γ} {β : Nat → Value} {e : Env} {s : St} {a : Act} {w w' : World} (inv : InvB C β e s a w) (hb : Below w.heap.size w w') : InvB C β e s a w':=by
 have hblk : ∀ b,b < w.heap.size → w'.heap[b]? = w.heap[b]? := hb.block
 have hx : Ext (fun _=>false) C.F w β s w' β s:=⟨fun b h _=>hblk b h,fun b _ h=>h,fun i cs _ h=>⟨rfl,cs,h⟩,fun i k L _ h=>⟨rfl,L,h,Nat.le_refl _⟩,fun i M _ h=>⟨rfl,M,h⟩⟩
 refine inv.step0 hx ⟨fun i bx h=>?_,inv.wr.inj,inv.wr.apart,fun b h=>Nat.lt_of_lt_of_le (inv.wr.low b h) hb.size⟩ ⟨hb.os.trans inv.since.os,hb.tape.trans inv.since.tape,hb.output.trans inv.since.output,Nat.le_trans inv.since.size hb.size,fun b h h2=>?_,inv.since.boxes,inv.since.cells,inv.since.keep⟩ hb.size (fun b h=>hblk b (Nat.lt_of_lt_of_le h inv.big)) inv.base
 · exact (inv.wr.boxes i bx h).keep hx rfl (fun b h2=>hblk b ((inv.wr.boxes i bx h).blk_lt h2))
 · rw [hblk b (Nat.lt_of_lt_of_le h inv.since.size)]; exact inv.since.heap b h h2

end Go.Sw
namespace Go.Sw
open Go.RowKit

theorem InvB.set {P : Program} {N : Nat} {Γ : Gl} {C : Cx P N Γ} {β : Nat → Value} {e : Env} {s : St} {a : Act} {w : World} (inv : InvB C β e s a w) {i b : Nat} {cs cs' : List SV} {t : TypeId} {us us' : Array Value}
 (hl : lk i s = some (.cells cs)) (hb : β i = .pointer (some ⟨b,0,none⟩)) (hh : w.heap[b]? = some (.cells us t (0,0))) (hr : Rp w C.F β s (.ss cs' us'.toList)) (h1 : ∀ u ∈ us'.toList,u.oneCell' = true) :
 InvB C β e (put i (.cells cs') s) a (w.setRow b us'):=by
 have hmut : Mut C.F β s b:=.inr ⟨i,_,hl,by rw [hb]; rfl⟩
 have hx : Ext (fun _=>false) C.F w β s (w.setRow b us') β (put i (.cells cs') s):=by
  refine ⟨fun b' _ hm=>setRow_other w b b' us' (fun h=>hm (h ▸ hmut)),fun b' _ hm=>?_,fun j cs1 _ h=>?_,fun j k L _ h=>?_,fun j M _ h=>?_⟩
  · rcases hm with h | ⟨j,bx,h2,h3⟩
    · exact .inl h
    · by_cases hj : j = i
      · subst hj; exact .inr ⟨j,_,hl,h3⟩
      · rw [lk_put_ne _ hj] at h2
        exact .inr ⟨j,bx,h2,h3⟩
  · by_cases hj : j = i
    · subst hj; exact ⟨rfl,cs',lk_put_same _ _ _⟩
    · exact ⟨rfl,cs1,by rw [lk_put_ne _ hj]; exact h⟩
  · by_cases hj : j = i
    · subst hj; rw [hl] at h; cases h
    · exact ⟨rfl,L,by rw [lk_put_ne _ hj]; exact h,Nat.le_refl _⟩
  · by_cases hj : j = i
    · subst hj; rw [hl] at h; cases h
    · exact ⟨rfl,M,by rw [lk_put_ne _ hj]; exact h⟩
 refine inv.step0 hx ⟨?_,?_,?_,?_⟩ ⟨inv.since.os,inv.since.tape,inv.since.output,?_,?_,?_,?_,?_⟩ (by simp) ?_ ?_
 · intro j bx h
   by_cases hj : j = i
   · subst hj
     rw [lk_put_same] at h
     cases h
     exact ⟨b,t,us',hb,setRow_heap w b us us' t (0,0) hh,Rp.keep0s hx hr,h1⟩
   · rw [lk_put_ne _ hj] at h
     refine (inv.wr.boxes j bx h).keep hx rfl (fun b' hb'=>setRow_other w b b' us' fun he=>?_)
     subst he
     exact hj (inv.wr.inj j i bx _ _ h hl hb' (by rw [hb]; rfl))
 · intro j k b1 b2 b' h1 h2 h3 h4
   have get : ∀ j b1,lk j (put i (.cells cs') s) = some b1 → ∃ b2,lk j s = some b2:=fun j b1 h=>by
    by_cases hj : j = i
    · subst hj; exact ⟨_,hl⟩
    · rw [lk_put_ne _ hj] at h; exact ⟨_,h⟩
   obtain ⟨c1,g1⟩:=get j b1 h1
   obtain ⟨c2,g2⟩:=get k b2 h2
   exact inv.wr.inj j k c1 c2 b' g1 g2 h3 h4
 · intro j bx b' h h2
   by_cases hj : j = i
   · subst hj; exact inv.wr.apart j _ b' hl h2
   · rw [lk_put_ne _ hj] at h; exact inv.wr.apart j _ b' h h2
 · intro b' h
   have:=inv.wr.low b' h
   simpa using this
 · simpa using inv.since.size
 · intro b' hlt h
   rw [setRow_other w b b' us' fun he=>?_]
   · exact inv.since.heap b' hlt h
   · subst he
     rcases inv.since.boxes i _ b' hl (by rw [hb]; rfl) with h2 | ⟨j,bj,h2,h3⟩
     · omega
     · exact h j bj h2 h3
 · intro j bx b' h h2
   by_cases hj : j = i
   · subst hj; exact inv.since.boxes j _ b' hl h2
   · rw [lk_put_ne _ hj] at h; exact inv.since.boxes j _ b' h h2
 · intro j c1 c2 h h2
   by_cases hj : j = i
   · subst hj; exact inv.since.cells j c1 cs h hl
   · rw [lk_put_ne _ hj] at h2; exact inv.since.cells j c1 c2 h h2
 · intro j bx h
   by_cases hj : j = i
   · subst hj; rw [lk_put_same]; simp
   · rw [lk_put_ne _ hj]; exact inv.since.keep j bx h
 · intro b' hlt
   refine setRow_other w b b' us' fun he=>?_
   subst he
   have:=inv.base i _ b' hl (by rw [hb]; rfl)
   omega
 · intro j bx b' h h2
   by_cases hj : j = i
   · subst hj; exact inv.base j _ b' hl h2
   · rw [lk_put_ne _ hj] at h; exact inv.base j _ b' h h2

theorem sc_one {w : World} {P : Program} {N : Nat} {Γ : Gl} {C : Cx P N Γ} {β : Nat → Value} {e : Env} {s : St} {a : Act} (inv : InvB C β e s a w) {x : SV} {u : Value} (h : Rp w C.F β s (.s x u)) (hx : x.sc = true) : u.oneCell' = true:=by
 cases h with
 | d h =>
  cases h with
  | v u h1=>exact h1
  | slc0=>rfl
  | slc=>rfl
  | ptr=>rfl
  | agg=>cases hx
  | tup=>cases hx
 | own hl =>
  rename_i i k L
  obtain ⟨h0,hk,el,xs,g1,g2,g3⟩:=inv.wr.boxes i _ hl
  rcases g1.2 with ⟨g, -⟩ | ⟨g,cap,cur,e1, -⟩
  · rw [g]; rfl
  · rw [e1]; rfl
 | mp hl =>
  obtain ⟨b,h1, -⟩:=inv.wr.boxes _ _ hl
  rw [h1]; rfl
 | nil=>rfl
 | ref=>rfl
 | fptr=>rfl
 | eref=>rfl
 | sref=>rfl
 | clo=>rfl
 | agg=>cases hx
 | tup=>cases hx
 | grdF=>cases hx
 | grdT=>cases hx
 | junk=>cases hx
theorem scs_one {w : World} {P : Program} {N : Nat} {Γ : Gl} {C : Cx P N Γ} {β : Nat → Value} {e : Env} {s : St} {a : Act} (inv : InvB C β e s a w) : ∀ {l : List SV} {us : List Value},Rp w C.F β s (.ss l us) → scs l → ∀ u ∈ us,u.oneCell' = true
 | [],_,.ssn,_,u,h=>by cases h
 | x :: l,_,.ssc hx ht,hs,u,h=>by
  rcases List.mem_cons.1 h with rfl | h
  · exact sc_one inv hx hs.1
  · exact scs_one inv ht hs.2 u h
theorem one_cells {u : Value} (h : u.oneCell' = true) : u.cells = #[u]:=by
 cases u <;> first | rfl | (simp [Value.oneCell'] at h)
theorem cells_rp {P : Program} {N : Nat} {Γ : Gl} {C : Cx P N Γ} {e : Env} {a : Act} {w : World} {β : Nat → Value} {s : St} (inv : InvB C β e s a w) {x : SV} {u : Value} (h : Rp w C.F β s (.s x u)) (hs : scs x.cells) : Rp w C.F β s (.ss x.cells u.cells.toList):=by
 have one : u.cells = #[u] → x.cells = [x] → Rp w C.F β s (.ss x.cells u.cells.toList):=fun h1 h2=>by rw [h1,h2]; exact .ssc h .ssn
 have hone : x.sc = true → u.oneCell' = true:=sc_one inv h
 cases h with
 | d h =>
  cases h with
  | v u h1=>exact one (one_cells h1) rfl
  | slc0=>exact one rfl rfl
  | slc=>exact one rfl rfl
  | ptr=>exact one rfl rfl
  | agg h=>exact ds_ss h
  | tup h=>simp [SV.cells,scs,SV.sc] at hs
 | agg h=>exact h
 | tup h=>simp [SV.cells,scs,SV.sc] at hs
 | nil=>exact one rfl rfl
 | ref=>exact one rfl rfl
 | fptr=>exact one rfl rfl
 | own hl =>
  exact one (one_cells (hone rfl)) rfl
 | mp hl =>
  exact one (one_cells (hone rfl)) rfl
 | eref=>exact one rfl rfl
 | sref=>exact one rfl rfl
 | clo=>exact one rfl rfl
 | grdF=>simp [SV.cells,scs,SV.sc] at hs
 | grdT=>simp [SV.cells,scs,SV.sc] at hs
 | junk=>simp [SV.cells,scs,SV.sc] at hs

theorem new_box {P : Program} {N : Nat} {Γ : Gl} {C : Cx P N Γ} {β : Nat → Value} {e : Env} {s : St} {a : Act} {w : World} (inv : InvB C β e s a w) {x : SV} {u : Value} (h : Rp w C.F β s (.s x u)) (hs : scs x.cells) (t : TypeId) {nm : Nat} (hn : lk nm s = none) :
 ∃ β',InvB C β' e ((nm,.cells x.cells) :: s) a (w.alloc (.cells u.cells t)) ∧ Rp (w.alloc (.cells u.cells t)) C.F β' ((nm,.cells x.cells) :: s) (.s (.ref (nm) 0) (.pointer (some ⟨w.heap.size,0,none⟩))):=by
 have hc:=cells_rp inv h hs
 have hv : ∀ b,blk (.pointer (some ⟨w.heap.size,0,none⟩)) = some b → b = w.heap.size:=fun b hb=>by simpa [blk] using hb.symm
 refine ⟨bset β (nm) (.pointer (some ⟨w.heap.size,0,none⟩)),inv.new _ _ _ hv hn ?_,.ref (lk_cons_same _ _ _) (bset_same _ _ _)⟩
 exact ⟨w.heap.size,t,u.cells,bset_same _ _ _,heap_alloc_new w _,Rp.keep0s (ext_alloc inv _ _ _ hv hn) hc,scs_one inv hc hs⟩

theorem fieldAt_run {P : Program} {t : TypeId} {f d n : Nat} (h : fldOf P t f = some (d,n + 1)) (b o : Nat) (w : World) :
 (Instr.fieldAt t (.pointer (some ⟨b,o,none⟩)) f).run P w = .ok (.pointer (some ⟨b,o + d,none⟩)) w:=by
 unfold fldOf at h
 split at h
 · rename_i fs hu
   cases hf : fs[f]? with
   | none=>rw [hf] at h; cases h
   | some fl =>
    rw [hf] at h
    cases hs : szOf P fl.type with
    | none=>simp [hs] at h
    | some k =>
     simp [hs] at h
     obtain ⟨h1,rfl⟩:=h
     unfold Instr.fieldAt
     simp [run_underlying hu,hf,Instr.sureAddr,fieldPlace,szOf_run hs,h1,Addr.add_lit]
 · cases h
end Go.Sw
namespace Go.Sw
open Go.RowKit

section
variable {P : Program} {N : Nat} {Γ : Gl} {C : Cx P N Γ}

def Fewer (s s' : St) : Prop := ∀ i bx',lk i s' = some bx' → ∃ bx,lk i s = some bx
theorem Fewer.mut {F : Nat → Prop} {β : Nat → Value} {s s' : St} (h : Fewer s s') {b : Nat} (hm : Mut F β s' b) : Mut F β s b:=by
 rcases hm with hm | ⟨i,bx,h1,h2⟩
 · exact .inl hm
 · obtain ⟨bx',h3⟩:=h i bx h1
   exact .inr ⟨i,bx',h3,h2⟩

theorem es_of {w : World} {M : Nat → Prop} {k b : Nat} (hm : ¬ M b) : ∀ (L : List D) (xs : List Value) (o : Nat),RpD w M (.ds (L.flatMap D.cells) xs) → (∀ j u,xs[j]? = some u → w.cell? ⟨b,o + j,none⟩ = some u) → (∀ x ∈ L,x.cells.length = k) → RpD w M (.es k L b o)
 | [],xs,o,_,_,_=>.esn _ _ _
 | x :: L, xs,o,h,hc,hk=>by
  rw [List.flatMap_cons] at h
  have split : ∀ (l l' : List D) (us : List Value) (o : Nat),RpD w M (.ds (l ++ l') us) → (∀ j u,us[j]? = some u → w.cell? ⟨b,o + j,none⟩ = some u) → RpD w M (.cs l b o) ∧ ∃ us',us' = us.drop l.length ∧ RpD w M (.ds l' us'):=by
   intro l
   induction l with
   | nil=>intro l' us o h hc; exact ⟨.csn _ _,us,by simp,h⟩
   | cons y l ih =>
    intro l' us o h hc
    cases h with
    | dsc hy ht =>
     obtain ⟨h1,us',e1,h2⟩:=ih l' _ (o + 1) ht (fun j u hj=>by have:=hc (j + 1) u (by simpa using hj); rwa [show o + (j + 1) = o + 1 + j by omega] at this)
     exact ⟨.csc hm (by have:=hc 0 _ rfl; simpa using this) hy h1,us',by simpa using e1,h2⟩
  obtain ⟨h1,us',e1,h2⟩:=split _ _ _ o h hc
  have hk1:=hk x (by simp)
  refine .esc hk1 h1 (es_of hm L us' (o + k) h2 (fun j u hj=>?_) (fun y hy=>hk y (by simp [hy])))
  rw [e1,List.getElem?_drop,hk1] at hj
  have:=hc _ u hj
  rwa [show o + (k + j) = o + k + j by omega] at this

theorem row_frozen {β : Nat → Value} {e : Env} {s s' : St} {a : Act} {w : World} (inv : InvB C β e s a w) {i k : Nat} {L : List D} (hl : lk i s = some (.row k L)) (hf : Fewer s s') (hi : lk i s' = none) : RpD w (Mut C.F β s') (.d (.slc L) (β i)):=by
 obtain ⟨h0,hk,el,xs,g1,g2,g3⟩:=inv.wr.boxes i _ hl
 have g2' : RpD w (Mut C.F β s') (.ds (L.flatMap D.cells) xs):=g2.keep (fun _ _ _=>rfl) (fun b _ h=>hf.mut h)
 rcases g1.2 with ⟨e1,e2⟩ | ⟨b,cap,cur,e1, -, -,hcap, -⟩
 · have : L = []:=List.eq_nil_of_length_eq_zero e2
   subst this
   rw [e1]; exact .slc0 _ _
 · have hc:=g1.cells (g:=b) (by rw [e1]; rfl)
   rw [e1]
   refine .slc rfl hcap (es_of ?_ L xs 0 g2' (fun j u hj=>by have:=hc j u hj; rwa [Addr.add_lit] at this) hk)
   rintro (hm | ⟨j,bx,h1,h2⟩)
   · exact inv.wr.apart i _ b hl (by rw [e1]; rfl) hm
   · obtain ⟨bx',h3⟩:=hf j bx h1
     have:=inv.wr.inj i j _ _ b hl h3 (by rw [e1]; rfl) h2
     subst this
     rw [hi] at h1; cases h1

mutual
theorem toD_rp {β : Nat → Value} {e : Env} {s s' : St} {a : Act} {w : World} (inv : InvB C β e s a w) (hf : Fewer s s') : ∀ (x : SV) (z : D) (u : Value),Rp w C.F β s (.s x u) → x.toD s = some z → (∀ i ∈ x.owns,lk i s' = none) → RpD w (Mut C.F β s') (.d z u)
 | .d x,z,u,h,ht,_=>by
  simp only [SV.toD,Option.some.injEq] at ht; subst ht
  cases h with | d h=>exact h.keep (fun _ _ _=>rfl) (fun b _ h=>hf.mut h)
 | .nil,z,u,h,ht,_=>by
  simp only [SV.toD,Option.some.injEq] at ht; subst ht
  cases h; exact .slc0 _ _
 | .agg cs,z,u,h,ht,ho=>by
  simp only [SV.toD,Option.map_eq_some_iff] at ht
  obtain ⟨zs,h1,rfl⟩:=ht
  cases h with | agg h=>exact .agg (toDs_rp inv hf cs zs _ h h1 ho)
 | .tup cs,z,u,h,ht,ho=>by
  simp only [SV.toD,Option.map_eq_some_iff] at ht
  obtain ⟨zs,h1,rfl⟩:=ht
  cases h with | tup h=>exact .tup (toDs_rp inv hf cs zs _ h h1 ho)
 | .own i,z,u,h,ht,ho=>by
  simp only [SV.toD] at ht
  split at ht
  · rename_i k L hl
    simp only [Option.some.injEq] at ht; subst ht
    cases h with | own=>exact row_frozen inv hl hf (ho i (by simp [SV.owns]))
  · cases ht
 | .ref i o,z,u,h,ht,_=>by simp [SV.toD] at ht
 | .fptr y o,z,u,h,ht,_=>by simp [SV.toD] at ht
 | .eref i j o,z,u,h,ht,_=>by simp [SV.toD] at ht
 | .sref i n,z,u,h,ht,_=>by simp [SV.toD] at ht
 | .clo f cs,z,u,h,ht,_=>by simp [SV.toD] at ht
 | .grd g x,z,u,h,ht,_=>by simp [SV.toD] at ht
 | .junk,z,u,h,ht,_=>by simp [SV.toD] at ht
theorem toDs_rp {β : Nat → Value} {e : Env} {s s' : St} {a : Act} {w : World} (inv : InvB C β e s a w) (hf : Fewer s s') : ∀ (l : List SV) (zs : List D) (us : List Value),Rp w C.F β s (.ss l us) → SV.toDs s l = some zs → (∀ i ∈ SV.ownss l,lk i s' = none) → RpD w (Mut C.F β s') (.ds zs us)
 | [],zs,us,h,ht,_=>by
  simp only [SV.toDs,Option.some.injEq] at ht; subst ht
  cases h; exact .dsn
 | x :: l,zs,us,h,ht,ho=>by
  simp only [SV.toDs] at ht
  split at ht
  · rename_i y ys h1 h2
    simp only [Option.some.injEq] at ht; subst ht
    cases h with
    | ssc hx hl=>exact .dsc (toD_rp inv hf x y _ hx h1 (fun i hi=>ho i (by simp [SV.ownss,hi]))) (toDs_rp inv hf l ys _ hl h2 (fun i hi=>ho i (by simp [SV.ownss,hi])))
  · cases ht
end
mutual
theorem toD_rpv {β : Nat → Value} {e : Env} {s : St} {a : Act} {w : World} (inv : InvB C β e s a w) : ∀ (x : SV) (z : D) (u : Value),Rp w C.F β s (.s x u) → x.toD s = some z → RpD w (fun _=>False) (.d z u)
 | .d x,z,u,h,ht=>by
  simp only [SV.toD,Option.some.injEq] at ht; subst ht
  cases h with | d h=>exact h.keep (fun _ _ _=>rfl) (fun b _ h=>h.elim)
 | .nil,z,u,h,ht=>by
  simp only [SV.toD,Option.some.injEq] at ht; subst ht
  cases h; exact .slc0 _ _
 | .agg cs,z,u,h,ht=>by
  simp only [SV.toD,Option.map_eq_some_iff] at ht
  obtain ⟨zs,h1,rfl⟩:=ht
  cases h with | agg h=>exact .agg (toDs_rpv inv cs zs _ h h1)
 | .tup cs,z,u,h,ht=>by
  simp only [SV.toD,Option.map_eq_some_iff] at ht
  obtain ⟨zs,h1,rfl⟩:=ht
  cases h with | tup h=>exact .tup (toDs_rpv inv cs zs _ h h1)
 | .own i, z,u,h,ht=>by
  simp only [SV.toD] at ht
  split at ht
  · rename_i k L hl
    simp only [Option.some.injEq] at ht; subst ht
    cases h with
    | own =>
     obtain ⟨h0,hk,el,xs,g1,g2,g3⟩:=inv.wr.boxes i _ hl
     have g2' : RpD w (fun _=>False) (.ds (L.flatMap D.cells) xs):=g2.keep (fun _ _ _=>rfl) (fun b _ h=>h.elim)
     rcases g1.2 with ⟨e1,e2⟩ | ⟨b,cap,cur,e1, -, -,hcap, -⟩
     · have : L = []:=List.eq_nil_of_length_eq_zero e2
       subst this
       rw [e1]; exact .slc0 _ _
     · have hc:=g1.cells (g:=b) (by rw [e1]; rfl)
       rw [e1]
       exact .slc rfl hcap (es_of (fun h=>h) L xs 0 g2' (fun j u hj=>by have:=hc j u hj; rwa [Addr.add_lit] at this) hk)
  · cases ht
 | .ref i o,z,u,h,ht=>by simp [SV.toD] at ht
 | .fptr y o,z,u,h,ht=>by simp [SV.toD] at ht
 | .eref i j o,z,u,h,ht=>by simp [SV.toD] at ht
 | .sref i n,z,u,h,ht=>by simp [SV.toD] at ht
 | .clo f cs,z,u,h,ht=>by simp [SV.toD] at ht
 | .grd g x,z,u,h,ht=>by simp [SV.toD] at ht
 | .junk,z,u,h,ht=>by simp [SV.toD] at ht
theorem toDs_rpv {β : Nat → Value} {e : Env} {s : St} {a : Act} {w : World} (inv : InvB C β e s a w) : ∀ (l : List SV) (zs : List D) (us : List Value),Rp w C.F β s (.ss l us) → SV.toDs s l = some zs → RpD w (fun _=>False) (.ds zs us)
 | [],zs,us,h,ht=>by
  simp only [SV.toDs,Option.some.injEq] at ht; subst ht
  cases h; exact .dsn
 | x :: l,zs,us,h,ht=>by
  simp only [SV.toDs] at ht
  split at ht
  · rename_i y ys h1 h2
    simp only [Option.some.injEq] at ht; subst ht
    cases h with
    | ssc hx hl=>exact .dsc (toD_rpv inv x y _ hx h1) (toDs_rpv inv l ys _ hl h2)
  · cases ht
end
mutual
def D.flat : D → Bool
 | .v _=>true
 | .agg cs=>D.flats cs
 | .tup cs=>D.flats cs
 | .slc _=>false
 | .ptr _=>false
def D.flats : List D → Bool
 | []=>true
 | x :: l=>x.flat && D.flats l
end
mutual
theorem flat_rp {w w' : World} {M M' : Nat → Prop} : ∀ (x : D) (u : Value),x.flat = true → RpD w M (.d x u) → RpD w' M' (.d x u)
 | .v u,_,_,.v _ h=>.v _ h
 | .agg cs,_,hf,.agg h=>.agg (flats_rp cs _ hf h)
 | .tup cs,_,hf,.tup h=>.tup (flats_rp cs _ hf h)
theorem flats_rp {w w' : World} {M M' : Nat → Prop} : ∀ (l : List D) (us : List Value),D.flats l = true → RpD w M (.ds l us) → RpD w' M' (.ds l us)
 | [],_,_,.dsn=>.dsn
 | x :: l,_,hf,.dsc h ht=>by
  simp only [D.flats,Bool.and_eq_true] at hf
  exact .dsc (flat_rp x _ hf.1 h) (flats_rp l _ hf.2 ht)
end

end
end Go.Sw
namespace Go.Sw
open Go.RowKit

section
variable {P : Program} {N : Nat} {Γ : Gl} {C : Cx P N Γ} {dst : Option Tmp} {ty : TypeId} {pos : String} {af : Array Edge} {gd : Option (Nat × Bool)} {e e' : Env} {s s' : St} {x : SV} {p : Prop} {nm : Nat}

theorem some4 {p : Prop} {x : SV} {e' : Env} {s' : St} {q : Prop} {y : SV} {f : Env} {r : St} (h : (some (p,x,e',s') : Out) = some (q,y,f,r)) : p = q ∧ x = y ∧ e' = f ∧ s' = r:=by
 simp only [Option.some.injEq,Prod.mk.injEq] at h; exact h

theorem map_some4' {α : Type} {o : Option α} {f : α → Prop × SV × Env × St} {p : Prop} {x : SV} {e' : Env} {s' : St} (h : (o.map f : Out) = some (p,x,e',s')) : ∃ r,o = some r ∧ f r = (p,x,e',s'):=by
 cases o with
 | none=>cases h
 | some r=>exact ⟨r,rfl,by simpa using h⟩
theorem ok_move (y : Operand) (hy : opdOK y = true) (h : stepO P true ⟨dst,.move y,ty,pos,af,gd⟩ e s nm = some (p,x,e',s')) (hp : p) : OpOK C ⟨dst,.move y,ty,pos,af,gd⟩ e s x e' s':=by
 obtain ⟨rfl,rfl,rfl,rfl⟩:=some4 h
 exact ok_same fun β a w inv=>⟨a.eval y,rfl,opn_rp (val_rp inv y hy) hp⟩
theorem ok_assign (y : Operand) (hy : opdOK y = true) (h : stepO P true ⟨dst,.assign y,ty,pos,af,gd⟩ e s nm = some (p,x,e',s')) (hp : p) : OpOK C ⟨dst,.assign y,ty,pos,af,gd⟩ e s x e' s':=by
 obtain ⟨rfl,rfl,rfl,rfl⟩:=some4 h
 exact ok_same fun β a w inv=>⟨a.eval y,rfl,opn_rp (val_rp inv y hy) hp⟩

theorem rp_bool {w : World} {F : Nat → Prop} {β : Nat → Value} {t : Bool} {u : Value} (h : Rp w F β s (.s (.d (.v (.bool t))) u)) : u = .bool t:=by
 cases h with
 | d h=>cases h with | v=>rfl
theorem rp_leaf {w : World} {F : Nat → Prop} {β : Nat → Value} {u v : Value} (h : Rp w F β s (.s (.d (.v v)) u)) : u = v:=by
 cases h with
 | d h=>cases h with | v=>rfl
theorem okp_rp {w : World} {F : Nat → Prop} {β : Nat → Value} {y : SV} {u : Value} {t : Bool} (h : Rp w F β s (.s y u)) (hk : okp true t y) (ht : t = true) : Rp w F β s (.s (opn y) u):=by
 cases y with
 | grd g z =>
  cases h with
  | grdF=>subst ht; simp [okp] at hk
  | grdT h=>exact h
 | _=>exact h
theorem pick_rp {w : World} {F : Nat → Prop} {β : Nat → Value} {y z : SV} {u v : Value} {t : Bool} (hy : t = true → Rp w F β s (.s y u)) (hz : t = false → Rp w F β s (.s z v)) : Rp w F β s (.s (pickV t y z) (if t then u else v)):=by
 unfold pickV
 split
 · cases t
   · have:=rp_bool (hz rfl)
     simpa [this] using hz rfl
   · have:=rp_bool (hy rfl)
     simpa [this] using hy rfl
 · cases t
   · simpa using hz rfl
   · simpa using hy rfl
theorem ok_pick (c y z : Operand) (hc : opdOK c = true) (hy : opdOK y = true) (hz : opdOK z = true) (h : stepO P true ⟨dst,.pick c y z,ty,pos,af,gd⟩ e s nm = some (p,x,e',s')) (hp : p) : OpOK C ⟨dst,.pick c y z,ty,pos,af,gd⟩ e s x e' s':=by
 simp only [stepO] at h
 split at h
 · rename_i t ht
   obtain ⟨rfl,rfl,rfl,rfl⟩:=some4 h
   obtain ⟨h1,h2,h3⟩:=hp
   refine ok_same fun β a w inv=>?_
   have hcv:=opn_rp (val_rp inv c hc) h1
   rw [ht] at hcv
   have hb:=rp_bool hcv
   refine ⟨if t then a.eval y else a.eval z,?_,pick_rp (okp_rp (val_rp inv y hy) h2) (fun hf=>okp_rp (val_rp inv z hz) h3 (by simp [hf]))⟩
   simp [execOp,hb,asBool]
 · cases h

theorem ok_box (t : TypeId) (y : Operand) (hy : opdOK y = true) (h : stepO P true ⟨dst,.box t y,ty,pos,af,gd⟩ e s nm = some (p,x,e',s')) (hp : p) (hn : lk nm s = none) : OpOK C ⟨dst,.box t y,ty,pos,af,gd⟩ e s x e' s':=by
 obtain ⟨rfl,rfl,rfl,rfl⟩:=some4 h
 obtain ⟨-,h1,h2⟩:=hp
 intro β a w inv K Q hK
 obtain ⟨β',i2,r2⟩:=new_box inv (opn_rp (val_rp inv y hy) h1) h2 t hn
 unfold Oper.wp
 exact hK β' _ _ i2 (fun h=>by cases h) r2
theorem ok_alloc (t : TypeId) (h : stepO P true ⟨dst,.alloc t,ty,pos,af,gd⟩ e s nm = some (p,x,e',s')) (hp : p) (hn : lk nm s = none) : OpOK C ⟨dst,.alloc t,ty,pos,af,gd⟩ e s x e' s':=by
 simp only [stepO] at h
 unfold zeroS at h
 cases hi : P.info? t with
 | none=>rw [hi] at h; cases h
 | some i =>
  rw [hi] at h
  cases hzz : i.zero with
  | none=>simp [hzz] at h
  | some z =>
   cases hcz : constOK z
   · simp [hzz,hcz] at h
   simp only [Option.bind_some,hzz,Option.map_some,hcz,cond_true] at h
   obtain ⟨rfl,rfl,rfl,rfl⟩:=some4 h
   intro β a w inv K Q hK
   obtain ⟨β',i2,r2⟩:=new_box inv (ofV_rp z hcz) hp.2 t hn
   unfold Oper.wp execOp
   simp only [Instr.alloc,zeroValue,typeInfo,Sem.run_bind,run_program,Result.andThen_ok,hi,Sem.run_pure,hzz]
   exact hK β' _ _ i2 (fun h=>by cases h) r2

theorem rp_ref {w : World} {F : Nat → Prop} {β : Nat → Value} {i off : Nat} {u : Value} (h : Rp w F β s (.s (.ref i off) u)) : ∃ b,u = .pointer (some ⟨b,off,none⟩) ∧ β i = .pointer (some ⟨b,0,none⟩):=by
 cases h with
 | ref hl hb=>exact ⟨_,rfl,hb⟩
theorem rp_fptr {w : World} {F : Nat → Prop} {β : Nat → Value} {y : D} {off : Nat} {u : Value} (h : Rp w F β s (.s (.fptr y off) u)) : ∃ b o,u = .pointer (some ⟨b,o + off,none⟩) ∧ RpD w (Mut F β s) (.cs y.cells b o):=by
 cases h with
 | fptr h=>exact ⟨_,_,rfl,h⟩
theorem rp_eref {w : World} {F : Nat → Prop} {β : Nat → Value} {i idx off : Nat} {u : Value} (h : Rp w F β s (.s (.eref i idx off) u)) : ∃ k L b n c,lk i s = some (.row k L) ∧ idx < L.length ∧ β i = .slice (some ⟨b,0,none⟩) n c ∧ u = .pointer (some ⟨b,idx * k + off,none⟩):=by
 cases h with
 | eref hl hi hb=>exact ⟨_,_,_,_,_,hl,hi,hb,rfl⟩

theorem box_cells {β : Nat → Value} {a : Act} {w : World} (inv : InvB C β e s a w) {i b : Nat} {cs : List SV} (hl : lk i s = some (.cells cs)) (hb : β i = .pointer (some ⟨b,0,none⟩)) :
 ∃ t us,w.heap[b]? = some (.cells us t (0,0)) ∧ Rp w C.F β s (.ss cs us.toList) ∧ (∀ u ∈ us.toList,u.oneCell' = true) ∧ ∀ j u,us[j]? = some u → w.cell? ⟨b,j,none⟩ = some u:=by
 obtain ⟨b',t,us,h1,h2,h3,h4⟩:=inv.wr.boxes i _ hl
 rw [hb] at h1
 simp at h1
 subst h1
 exact ⟨t,us,h2,h3,h4,fun j u hj=>by simp [World.cell?,h2,hj]⟩
theorem row_cells {β : Nat → Value} {a : Act} {w : World} (inv : InvB C β e s a w) {i b k idx n c : Nat} {L : List D} (hl : lk i s = some (.row k L)) (hb : β i = .slice (some ⟨b,0,none⟩) n c) (hi : idx < L.length) :
 ∃ us,RpD w (Mut C.F β s) (.ds (L.getD idx default).cells us) ∧ ∀ j u,us[j]? = some u → w.cell? ⟨b,idx * k + j,none⟩ = some u:=by
 obtain ⟨h0,hk,el,xs,g1,g2,g3⟩:=inv.wr.boxes i _ hl
 have hc:=g1.cells (g:=b) (by rw [hb]; rfl)
 obtain ⟨r,hr⟩:=flat_get hk idx hi
 have hd : ∀ {l : List D} {us : List Value} (n : Nat),RpD w (Mut C.F β s) (.ds l us) → RpD w (Mut C.F β s) (.ds (l.drop n) (us.drop n)):=by
  intro l us n h
  induction n generalizing l us with
  | zero=>exact h
  | succ n ih=>cases h with
   | dsn=>exact .dsn
   | dsc _ ht=>exact ih ht
 have h1:=hd (idx * k) g2
 rw [hr] at h1
 have hs : ∀ {l l' : List D} {us : List Value},RpD w (Mut C.F β s) (.ds (l ++ l') us) → ∃ u1 u2,us = u1 ++ u2 ∧ RpD w (Mut C.F β s) (.ds l u1):=by
  intro l l' us h
  induction l generalizing us with
  | nil=>exact ⟨[],us,rfl,.dsn⟩
  | cons x l ih=>cases h with
   | dsc hx ht=>obtain ⟨u1,u2,e1,e2⟩:=ih ht; exact ⟨_ :: u1,u2,by rw [e1]; rfl,.dsc hx e2⟩
 obtain ⟨u1,u2,e1,e2⟩:=hs h1
 refine ⟨u1,e2,fun j u hj=>?_⟩
 have hx : xs[idx * k + j]? = some u:=by
  rw [← List.getElem?_drop,e1,List.getElem?_append_left (List.getElem?_eq_some_iff.1 hj).1]
  exact hj
 have:=hc _ u hx
 rw [Addr.add_lit] at this
 simpa using this

theorem ok_load (t : TypeId) (y : Operand) (hy : opdOK y = true) (h : stepO P true ⟨dst,.load t y,ty,pos,af,gd⟩ e s nm = some (p,x,e',s')) (hp : p) : OpOK C ⟨dst,.load t y,ty,pos,af,gd⟩ e s x e' s':=by
 simp only [stepO] at h
 split at h
 · rename_i i off hv
   split at h
   · rename_i cs hl
     cases hr : loadC P t (cs.drop off) with
     | none=>rw [hr] at h; cases h
     | some r =>
      rw [hr] at h
      obtain ⟨rfl,rfl,rfl,rfl⟩:=some4 h
      refine ok_same fun β a w inv=>?_
      have hq:=opn_rp (val_rp inv y hy) hp.1
      rw [hv] at hq
      obtain ⟨b,hu,hb⟩:=rp_ref hq
      obtain ⟨t',us,h1,h2,h3,h4⟩:=box_cells inv hl hb
      obtain ⟨v,h5,h6⟩:=loadC_ok hr hp.2 (h2.ss_drop off) b off (fun j u hj=>h4 _ u (by rw [List.getElem?_drop] at hj; simpa using hj))
      exact ⟨v,by simp [execOp,Instr.loadAt,Instr.sureAddr,hu,h5],h6⟩
   · cases h
 · rename_i z off hv
   cases hr : loadC P t ((z.cells.drop off).map .d) with
   | none=>rw [hr] at h; cases h
   | some r =>
    rw [hr] at h
    obtain ⟨rfl,rfl,rfl,rfl⟩:=some4 h
    refine ok_same fun β a w inv=>?_
    have hq:=opn_rp (val_rp inv y hy) hp.1
    rw [hv] at hq
    obtain ⟨b,o,hu,hb⟩:=rp_fptr hq
    obtain ⟨us,h1,h2⟩:=cs_list (RpD.cs_drop off hb)
    obtain ⟨v,h5,h6⟩:=loadC_ok hr hp.2 (ds_ss h1) b (o + off) h2
    exact ⟨v,by simp [execOp,Instr.loadAt,Instr.sureAddr,hu,h5],h6⟩
 · rename_i i idx off hv
   split at h
   · rename_i k L hl
     cases hr : loadC P t (((L.getD idx default).cells.drop off).map .d) with
     | none=>rw [hr] at h; cases h
     | some r =>
      rw [hr] at h
      obtain ⟨rfl,rfl,rfl,rfl⟩:=some4 h
      refine ok_same fun β a w inv=>?_
      have hq:=opn_rp (val_rp inv y hy) hp.1
      rw [hv] at hq
      obtain ⟨k',L',b,n,c,hl',hi,hb,hu⟩:=rp_eref hq
      rw [hl] at hl'
      cases hl'
      obtain ⟨us,h1,h2⟩:=row_cells inv hl hb hi
      have h3:=(ds_ss h1).ss_drop off
      rw [← List.map_drop] at h3
      obtain ⟨v,h5,h6⟩:=loadC_ok hr hp.2 h3 b (idx * k + off) (fun j u hj=>by
       rw [List.getElem?_drop] at hj
       have:=h2 _ u hj
       rw [show idx * k + off + j = idx * k + (off + j) by omega]; exact this)
      exact ⟨v,by simp [execOp,Instr.loadAt,Instr.sureAddr,hu,h5],h6⟩
   · cases h
 · cases h

theorem upd_rp {w : World} {F : Nat → Prop} {β : Nat → Value} {cs vs : List SV} {us ws : List Value} (off : Nat) (h : Rp w F β s (.ss cs us)) (h' : Rp w F β s (.ss vs ws)) : Rp w F β s (.ss (upd cs off vs) (us.take off ++ ws ++ us.drop (off + ws.length))):=by
 unfold upd
 rw [h'.ss_len]
 exact ((h.ss_take off).ss_app h').ss_app (h.ss_drop _)
theorem ok_store (t : TypeId) (y z : Operand) (hy : opdOK y = true) (hz : opdOK z = true) (h : stepO P true ⟨dst,.store t y z,ty,pos,af,gd⟩ e s nm = some (p,x,e',s')) (hp : p) : OpOK C ⟨dst,.store t y z,ty,pos,af,gd⟩ e s x e' s':=by
 simp only [stepO] at h
 split at h
 · rename_i i off hv
   split at h
   · rename_i cs n hl hn
     obtain ⟨rfl,rfl,rfl,rfl⟩:=some4 h
     obtain ⟨-,g1,g2,g3,g4,g5⟩:=hp
     intro β a w inv K Q hK
     have hq:=opn_rp (val_rp inv y hy) g1
     have hr:=opn_rp (val_rp inv z hz) g2
     rw [hv] at hq
     obtain ⟨b,hu,hb⟩:=rp_ref hq
     obtain ⟨t',us,h1,h2,h3,h4⟩:=box_cells inv hl hb
     have hc:=cells_rp inv hr g5
     have hone:=scs_one inv hc g5
     have hlen:=hc.ss_len
     have hlen2:=h2.ss_len
     have hst:=run_storeCells_at P b off t' (a.eval z).cells.toList 0 us w h1 (by simp only [Nat.add_zero,hlen]; rw [g3, ← Array.length_toList,hlen2]; exact g4) hone
     have hnew:=inv.set (us':=(us.toList.take off ++ (a.eval z).cells.toList ++ us.toList.drop (off + (a.eval z).cells.toList.length)).toArray) hl hb h1 (by simpa using upd_rp off h2 hc) (by
      intro u hu'
      simp only [List.mem_append] at hu'
      rcases hu' with (hu' | hu') | hu'
      · exact h3 u (List.mem_of_mem_take hu')
      · exact hone u hu'
      · exact h3 u (List.mem_of_mem_drop hu'))
     unfold Oper.wp execOp
     have hsz : ((a.eval z).cells.size ≠ n) = False:=by
      have : (a.eval z).cells.size = n:=by rw [← Array.length_toList,hlen,g3]
      simp [this]
     simp only [Nat.add_zero] at hst
     simp only [Instr.storeAt,hu,Instr.sureAddr,Sem.run_bind,Sem.run_pure,Result.andThen_ok,storeVar,szOf_run hn,hsz,if_false,hst,Oper.upon]
     exact hK _ _ _ hnew (fun h=>by cases h) .junk
   · cases h
 · cases h

theorem ok_fieldAddr (t : TypeId) (y : Operand) (f : Nat) (hy : opdOK y = true) (h : stepO P true ⟨dst,.fieldAddr t y f,ty,pos,af,gd⟩ e s nm = some (p,x,e',s')) (hp : p) : OpOK C ⟨dst,.fieldAddr t y f,ty,pos,af,gd⟩ e s x e' s':=by
 simp only [stepO] at h
 split at h
 · rename_i d n hf
   split at h
   all_goals first | (cases h; done) | skip
   all_goals
    rename_i hv
    obtain ⟨rfl,rfl,rfl,rfl⟩:=some4 h
    refine ok_same fun β a w inv=>?_
    have hq:=opn_rp (val_rp inv y hy) hp
    rw [hv] at hq
    generalize hu : a.eval y = u at hq
   · cases hq with
     | ref hl hb=>exact ⟨_,by simp [execOp,hu,fieldAt_run hf],.ref hl hb⟩
   · cases hq with
     | fptr hb=>exact ⟨_,by simp only [execOp,hu,fieldAt_run hf,Sem.run_bind,Result.andThen_ok,Sem.run_pure,Nat.add_assoc],.fptr hb⟩
   · cases hq with
     | eref hl hi hb=>exact ⟨_,by simp only [execOp,hu,fieldAt_run hf,Sem.run_bind,Result.andThen_ok,Sem.run_pure,Nat.add_assoc],.eref hl hi hb⟩
 · cases h

theorem elemSz_run {P : Program} {t : TypeId} {k : Nat} (h : elemSz P t = some k) : ∃ el,P.underlying t = some (.slice el) ∧ szOf P el = some k:=by
 unfold elemSz at h
 split at h
 · rename_i el hu; exact ⟨el,hu,h⟩
 · cases h
theorem indexAt_run {P : Program} {t : TypeId} {k : Nat} (h : elemSz P t = some k) (b o len cap : Nat) (kk : IntKind) (n : Int) (h0 : 0 ≤ n) (h1 : n < len) (w : World) :
 (Instr.indexAt t (.slice (some ⟨b,o,none⟩) len cap) (.int kk n)).run P w = .ok (.pointer (some ⟨b,o + n.toNat * k,none⟩)) w:=by
 obtain ⟨el,hu,hs⟩:=elemSz_run h
 unfold Instr.indexAt
 simp [asIntOf,run_underlying hu,szOf_run hs,h0,h1,Addr.add_lit]
theorem ok_indexAddr (t : TypeId) (y z : Operand) (hy : opdOK y = true) (hz : opdOK z = true) (h : stepO P true ⟨dst,.indexAddr t y z,ty,pos,af,gd⟩ e s nm = some (p,x,e',s')) (hp : p) : OpOK C ⟨dst,.indexAddr t y z,ty,pos,af,gd⟩ e s x e' s':=by
 simp only [stepO] at h
 split at h
 · rename_i k kk n hk hz'
   split at h
   · rename_i l hv
     obtain ⟨rfl,rfl,rfl,rfl⟩:=some4 h
     obtain ⟨g1,g2,g345⟩:=hp
     obtain ⟨g3,g4,g5⟩:=g345 trivial
     refine ok_same fun β a w inv=>?_
     have hq:=opn_rp (val_rp inv y hy) g1
     have hr:=opn_rp (val_rp inv z hz) g2
     rw [hv] at hq
     rw [hz'] at hr
     have hn:=rp_leaf hr
     generalize hu : a.eval y = u at hq
     cases hq with
     | d hd =>
      cases hd with
      | slc0=>exact absurd g4 (by simp; omega)
      | @slc _ k' b o c m hlen _ he =>
       subst hlen
       have hlt : n.toNat < l.length:=by omega
       obtain ⟨h5,h6⟩:=RpD.es_get n.toNat he (x:=l.getD n.toNat default) (by simp [List.getD,hlt])
       rw [g5] at h6
       subst h6
       exact ⟨_,by simp [execOp,hu,hn,indexAt_run hk b o l.length c kk n g3 g4 w],.fptr (off:=0) h5⟩
   · rename_i i hv
     split at h
     · rename_i k' L hl
       obtain ⟨rfl,rfl,rfl,rfl⟩:=some4 h
       obtain ⟨g1,g2,g345⟩:=hp
       obtain ⟨g3,g4,g5⟩:=g345 trivial
       subst g5
       refine ok_same fun β a w inv=>?_
       have hq:=opn_rp (val_rp inv y hy) g1
       have hr:=opn_rp (val_rp inv z hz) g2
       rw [hv] at hq
       rw [hz'] at hr
       have hn:=rp_leaf hr
       have hu : a.eval y = β i:=by
        generalize a.eval y = u at hq
        cases hq with | own=>rfl
       obtain ⟨h0,hkk,el,xs,q1,q2,q3⟩:=inv.wr.boxes i _ hl
       rcases q1.2 with ⟨e1,e2⟩ | ⟨b,cap,cur,e1, -⟩
       · omega
       · refine ⟨.pointer (some ⟨b,0 + n.toNat * k',none⟩),by simp [execOp,hu,e1,hn,indexAt_run hk b 0 L.length cap kk n g3 g4 w],?_⟩
         have:=Rp.eref (w:=w) (F:=C.F) (o:=0) hl (show n.toNat < L.length by omega) e1
         simpa using this
     · cases h
   · rename_i i m hv
     obtain ⟨rfl,rfl,rfl,rfl⟩:=some4 h
     obtain ⟨g1,g2,g345⟩:=hp
     obtain ⟨g3,g4,g5⟩:=g345 trivial
     subst g5
     refine ok_same fun β a w inv=>?_
     have hq:=opn_rp (val_rp inv y hy) g1
     have hr:=opn_rp (val_rp inv z hz) g2
     rw [hv] at hq
     rw [hz'] at hr
     have hn:=rp_leaf hr
     generalize hu : a.eval y = u at hq
     cases hq with
     | @sref _ _ b cs hl hb =>
      refine ⟨.pointer (some ⟨b,0 + n.toNat * 1,none⟩),by simp [execOp,hu,hn,indexAt_run hk b 0 m m kk n g3 g4 w],?_⟩
      have:=Rp.ref (w:=w) (F:=C.F) (o:=n.toNat) hl hb
      simpa using this
   · cases h
 · cases h

theorem ok_extract (y : Operand) (i : Nat) (hy : opdOK y = true) (h : stepO P true ⟨dst,.extract y i,ty,pos,af,gd⟩ e s nm = some (p,x,e',s')) (hp : p) : OpOK C ⟨dst,.extract y i,ty,pos,af,gd⟩ e s x e' s':=by
 simp only [stepO] at h
 split at h
 · rename_i vs hv
   cases hi : vs[i]? with
   | none=>rw [hi] at h; cases h
   | some z =>
    rw [hi] at h
    obtain ⟨rfl,rfl,rfl,rfl⟩:=some4 h
    refine ok_same fun β a w inv=>?_
    have hq:=opn_rp (val_rp inv y hy) hp
    rw [hv] at hq
    generalize hu : a.eval y = u at hq
    cases hq with
    | tup ht =>
     obtain ⟨v,h1,h2⟩:=Rp.ss_get i ht hi
     exact ⟨v,by simp [execOp,hu,Instr.extract,h1],h2⟩
 · rename_i vs hv
   cases hi : vs[i]? with
   | none=>rw [hi] at h; cases h
   | some z =>
    rw [hi] at h
    obtain ⟨rfl,rfl,rfl,rfl⟩:=some4 h
    refine ok_same fun β a w inv=>?_
    have hq:=opn_rp (val_rp inv y hy) hp
    rw [hv] at hq
    generalize hu : a.eval y = u at hq
    cases hq with
    | d hd =>
     cases hd with
     | tup ht =>
      obtain ⟨v,h1,h2⟩:=RpD.ds_get i ht hi
      exact ⟨v,by simp [execOp,hu,Instr.extract,h1],.d h2⟩
 · cases h
theorem ok_nilCheck (y : Operand) (hy : opdOK y = true) (h : stepO P true ⟨dst,.nilCheck y,ty,pos,af,gd⟩ e s nm = some (p,x,e',s')) (hp : p) : OpOK C ⟨dst,.nilCheck y,ty,pos,af,gd⟩ e s x e' s':=by
 simp only [stepO] at h
 split at h
 all_goals first | (cases h; done) | skip
 all_goals
  rename_i hv
  obtain ⟨rfl,rfl,rfl,rfl⟩:=some4 h
  refine ok_same fun β a w inv=>?_
  have hq:=opn_rp (val_rp inv y hy) hp
  rw [hv] at hq
  generalize hu : a.eval y = u at hq
 · cases hq with
   | ref hl hb=>exact ⟨_,by simp only [execOp,hu,Sem.run_pure],.ref hl hb⟩
 · cases hq with
   | eref hl hi hb=>exact ⟨_,by simp only [execOp,hu,Sem.run_pure],.eref hl hi hb⟩
 · cases hq with
   | fptr hb=>exact ⟨_,by simp only [execOp,hu,Sem.run_pure],.fptr hb⟩
 · have h1:=ptr_rp hq
   cases h1 with
   | fptr hb=>exact ⟨_,by simp only [execOp,hu,Sem.run_pure],.fptr hb⟩

theorem bin_run {P : Program} {op : BinOp} {k : IntKind} {m n : Int} {r : Prop × Value} (h : bin op k m n = some r) (hp : r.1) (t : TypeId) (y z : Operand) (w : World) :
 (do eqGuard op t y z (.int k m) (.int k n); binOp op t (.int k m) (.int k n) : Sem Value).run P w = .ok r.2 w ∧ r.2.oneCell' = true:=by
 cases op <;> simp only [bin,Option.some.injEq] at h <;> first | (cases h; done) | skip
 all_goals subst h
 all_goals refine ⟨?_,rfl⟩
 all_goals simp [eqGuard,binOp,Op.intArith,Op.intDiv,Op.intCmp]
 all_goals simp_all
theorem binS_run {P : Program} {op : BinOp} {m n : ByteArray} {r : Prop × Value} (h : binS op m n = some r) (hp : r.1) (t : TypeId) (y z : Operand) (w : World) :
 (do eqGuard op t y z (.string m) (.string n); binOp op t (.string m) (.string n) : Sem Value).run P w = .ok r.2 w ∧ r.2.oneCell' = true:=by
 cases op <;> simp only [binS,Option.some.injEq] at h <;> first | (cases h; done) | skip
 all_goals subst h
 all_goals refine ⟨?_,rfl⟩
 all_goals simp [eqGuard,binOp,Op.stringOp]
 all_goals (replace hp : m.size + n.size ≤ maxLen:=hp; simp only [maxLen] at hp; simp [IntKind.max]; omega)
theorem leavesV_rp {w : World} {F : Nat → Prop} {β : Nat → Value} : ∀ {l : List SV} {X : List Value} {us : List Value},leavesV l = some X → Rp w F β s (.ss l us) → us = X
 | [],X,us,h,hr=>by simp [leavesV] at h; subst h; cases hr; rfl
 | .d (.v u) :: l,X,us,h,hr=>by
  simp only [leavesV] at h
  split at h
  · rename_i us' h1
    simp only [Option.some.injEq] at h; subst h
    cases hr with
    | ssc hx hl=>rw [rp_leaf hx,leavesV_rp h1 hl]
  · cases h
 | .d (.agg _) :: l,_,_,h,_=>by simp [leavesV] at h
 | .d (.tup _) :: l,_,_,h,_=>by simp [leavesV] at h
 | .d (.slc _) :: l,_,_,h,_=>by simp [leavesV] at h
 | .nil :: l,_,_,h,_=>by simp [leavesV] at h
 | .agg _ :: l,_,_,h,_=>by simp [leavesV] at h
 | .tup _ :: l,_,_,h,_=>by simp [leavesV] at h
 | .ref _ _ :: l,_,_,h,_=>by simp [leavesV] at h
 | .fptr _ _ :: l,_,_,h,_=>by simp [leavesV] at h
 | .own _ :: l,_,_,h,_=>by simp [leavesV] at h
 | .eref _ _ _ :: l,_,_,h,_=>by simp [leavesV] at h
 | .sref _ _ :: l,_,_,h,_=>by simp [leavesV] at h
 | .clo _ _ :: l,_,_,h,_=>by simp [leavesV] at h
 | .grd _ _ :: l,_,_,h,_=>by simp [leavesV] at h
 | .junk :: l,_,_,h,_=>by simp [leavesV] at h
theorem aggOf_rp {w : World} {F : Nat → Prop} {β : Nat → Value} {y : SV} {l : List SV} {u : Value} (h : aggOf y = some l) (hr : Rp w F β s (.s y u)) : ∃ us : List Value,u = .agg us.toArray ∧ Rp w F β s (.ss l us):=by
 unfold aggOf at h
 split at h
 · simp only [Option.some.injEq] at h; subst h
   cases hr with | agg h=>exact ⟨_,rfl,h⟩
 · simp only [Option.some.injEq] at h; subst h
   cases hr with | d hd=>cases hd with | agg h=>exact ⟨_,rfl,ds_ss h⟩
 · cases h
theorem eqA_run {w : World} {F : Nat → Prop} {β : Nat → Value} {op : BinOp} {t : TypeId} {y z : SV} {u v : Value} {r : Prop × Value} (h : eqA P op t y z = some r) (hp : r.1) (hy : Rp w F β s (.s y u)) (hz : Rp w F β s (.s z v)) (a b : Operand) :
 (do eqGuard op t a b u v; binOp op t u v : Sem Value).run P w = .ok r.2 w ∧ r.2.oneCell' = true:=by
 unfold eqA at h
 split at h
 · rename_i xs ys hx1 hy1
   obtain ⟨us,rfl,hus⟩:=aggOf_rp hx1 hy
   obtain ⟨vs,rfl,hvs⟩:=aggOf_rp hy1 hz
   split at h
   · rename_i u0 X v0 Y h1 h2
     obtain rfl:=leavesV_rp h1 hus
     obtain rfl:=leavesV_rp h2 hvs
     split at h
     · split at h
       · split at h
         · simp only [Option.some.injEq] at h; subst h
           exact ⟨(hp a b w).1,rfl⟩
         · simp only [Option.some.injEq] at h; subst h
           exact ⟨(hp a b w).2,rfl⟩
         · cases h
       · cases h
     · cases h
   · cases h
 · cases h
theorem binB_run {op : BinOp} {m n r : Bool} (h : binB op m n = some r) (t : TypeId) (y z : Operand) (w : World) (ht : P.underlying t = some .bool) :
 (do eqGuard op t y z (.bool m) (.bool n); binOp op t (.bool m) (.bool n) : Sem Value).run P w = .ok (.bool r) w:=by
 cases op <;> simp only [binB,Option.some.injEq] at h <;> first | (cases h; done) | skip
 all_goals subst h
 all_goals have hq : (Op.equal t (.bool m) (.bool n)).run P w = .ok (m == n) w:=run_equalIn_bool w 9999 t m n ht
 all_goals simp [eqGuard,binOp,hq]
theorem ok_binOp (op : BinOp) (t t2 : TypeId) (y z : Operand) (hy : opdOK y = true) (hz : opdOK z = true) (h : stepO P true ⟨dst,.binOp op t y z t2,ty,pos,af,gd⟩ e s nm = some (p,x,e',s')) (hp : p) : OpOK C ⟨dst,.binOp op t y z t2,ty,pos,af,gd⟩ e s x e' s':=by
 have fin : ∀ r : Prop × Value,ok1 true (val e y) → ok1 true (val e z) → (∀ β (a : Act) (w : World),InvB C β e s a w → Rp w C.F β s (.s (opn (val e y)) (a.eval y)) → Rp w C.F β s (.s (opn (val e z)) (a.eval z)) →
  (do eqGuard op t y z (a.eval y) (a.eval z); binOp op t (a.eval y) (a.eval z) : Sem Value).run P w = .ok r.2 w ∧ r.2.oneCell' = true) → OpOK C ⟨dst,.binOp op t y z t2,ty,pos,af,gd⟩ e s (.d (.v r.2)) e s:=by
  intro r g1 g2 hrun
  refine ok_same fun β a w inv=>?_
  obtain ⟨h3,h4⟩:=hrun β a w inv (opn_rp (val_rp inv y hy) g1) (opn_rp (val_rp inv z hz) g2)
  refine ⟨r.2,?_,.d (.v _ h4)⟩
  simp only [execOp]
  rw [Sem.run_bind,h3]
  rfl
 simp only [stepO] at h
 split at h
 · rename_i k a1 k' b1 h1 h2
   split at h
   · rename_i hk
     subst hk
     obtain ⟨r,hr,h3⟩:=map_some4' h
     simp only [Prod.mk.injEq] at h3
     obtain ⟨rfl,rfl,rfl,rfl⟩:=h3
     refine fin r hp.1 hp.2.1 fun β a w inv q1 q2=>?_
     rw [h1] at q1
     rw [h2] at q2
     rw [rp_leaf q1,rp_leaf q2]
     exact bin_run hr (hp.2.2 trivial) t y z w
   · cases h
 · rename_i a1 b1 h1 h2
   obtain ⟨r,hr,h3⟩:=map_some4' h
   simp only [Prod.mk.injEq] at h3
   obtain ⟨rfl,rfl,rfl,rfl⟩:=h3
   refine fin r hp.1 hp.2.1 fun β a w inv q1 q2=>?_
   rw [h1] at q1
   rw [h2] at q2
   rw [rp_leaf q1,rp_leaf q2]
   exact binS_run hr (hp.2.2 trivial) t y z w
 · rename_i a1 b1 h1 h2
   obtain ⟨r,hr,h3⟩:=map_some4' h
   simp only [Prod.mk.injEq] at h3
   obtain ⟨rfl,rfl,rfl,rfl⟩:=h3
   refine fin (True,.bool r) hp.1 hp.2.1 fun β a w inv q1 q2=>?_
   rw [h1] at q1
   rw [h2] at q2
   rw [rp_leaf q1,rp_leaf q2]
   exact ⟨binB_run hr t y z w (by simpa using hp.2.2),rfl⟩
 · obtain ⟨r,hr,h3⟩:=map_some4' h
   simp only [Prod.mk.injEq] at h3
   obtain ⟨rfl,rfl,rfl,rfl⟩:=h3
   exact fin r hp.1 hp.2.1 fun β a w inv q1 q2=>eqA_run hr hp.2.2 q1 q2 y z

theorem ok_unOp (op : UnOp) (t : TypeId) (y : Operand) (hy : opdOK y = true) (h : stepO P true ⟨dst,.unOp op t y,ty,pos,af,gd⟩ e s nm = some (p,x,e',s')) (hp : p) : OpOK C ⟨dst,.unOp op t y,ty,pos,af,gd⟩ e s x e' s':=by
 simp only [stepO] at h
 obtain ⟨r,hr,h3⟩:=map_some4' h
 simp only [Prod.mk.injEq] at h3
 obtain ⟨rfl,rfl,rfl,rfl⟩:=h3
 refine ok_same fun β a w inv=>?_
 have hq:=opn_rp (val_rp inv y hy) hp
 unfold un1 at hr
 split at hr
 · rename_i k n hv
   simp only [Option.some.injEq] at hr; subst hr
   rw [hv] at hq
   exact ⟨_,by simp [execOp,rp_leaf hq,Op.unary,Op.intArith],.d (.v _ rfl)⟩
 · rename_i b hv
   simp only [Option.some.injEq] at hr; subst hr
   rw [hv] at hq
   exact ⟨_,by simp [execOp,rp_leaf hq,Op.unary],.d (.v _ rfl)⟩
 · cases hr
theorem ok_convert (src dst' : TypeId) (y : Operand) (hy : opdOK y = true) (h : stepO P true ⟨dst,.convert src dst' y,ty,pos,af,gd⟩ e s nm = some (p,x,e',s')) (hp : p) : OpOK C ⟨dst,.convert src dst' y,ty,pos,af,gd⟩ e s x e' s':=by
 simp only [stepO] at h
 obtain ⟨r,hr,h3⟩:=map_some4' h
 simp only [Prod.mk.injEq] at h3
 obtain ⟨rfl,rfl,rfl,rfl⟩:=h3
 refine ok_same fun β a w inv=>?_
 have hq:=opn_rp (val_rp inv y hy) hp
 unfold cnv at hr
 split at hr
 · rename_i k0 k kk n h1 h2 hv
   simp only [Option.some.injEq] at hr; subst hr
   rw [hv] at hq
   have hc : (convert src dst' (.int kk n)).run P w = .ok (.int k (k.wrap n)) w:=by
    unfold convert
    simp only [Sem.run_bind,run_underlying h1,run_underlying h2,Result.andThen_ok]
    rfl
   exact ⟨_,by simp only [execOp,rp_leaf hq,Sem.run_bind,hc,Result.andThen_ok,Sem.run_pure],.d (.v _ rfl)⟩
 · rename_i b h1 h2 hv
   simp only [Option.some.injEq] at hr; subst hr
   rw [hv] at hq
   have hc : (convert src dst' (.string b)).run P w = .ok (.string b) w:=by
    unfold convert
    simp only [Sem.run_bind,run_underlying h1,run_underlying h2,Result.andThen_ok]
    rfl
   exact ⟨_,by simp only [execOp,rp_leaf hq,Sem.run_bind,hc,Result.andThen_ok,Sem.run_pure],.d (.v _ rfl)⟩
 · rename_i k0 kk n h1 h2 hv
   simp only [Option.some.injEq] at hr; subst hr
   rw [hv] at hq
   have hc : (convert src dst' (.int kk n)).run P w = .ok (.string (Utf8.encode n)) w:=by
    unfold convert
    simp only [Sem.run_bind,run_underlying h1,run_underlying h2,Result.andThen_ok]
    rfl
   exact ⟨_,by simp only [execOp,rp_leaf hq,Sem.run_bind,hc,Result.andThen_ok,Sem.run_pure],.d (.v _ rfl)⟩
 · cases hr
theorem ok_index (t : TypeId) (y z : Operand) (hy : opdOK y = true) (hz : opdOK z = true) (h : stepO P true ⟨dst,.index t y z,ty,pos,af,gd⟩ e s nm = some (p,x,e',s')) (hp : p) : OpOK C ⟨dst,.index t y z,ty,pos,af,gd⟩ e s x e' s':=by
 simp only [stepO] at h
 split at h
 · rename_i b kk n ht h1 h2
   obtain ⟨rfl,rfl,rfl,rfl⟩:=some4 h
   refine ok_same fun β a w inv=>?_
   have hq:=opn_rp (val_rp inv y hy) hp.1
   have hr:=opn_rp (val_rp inv z hz) hp.2.1
   rw [h1] at hq
   rw [h2] at hr
   obtain ⟨g1,g2⟩:=hp.2.2 trivial
   have hlt : n.toNat < b.data.toList.length:=by
    have : b.data.toList.length = b.size:=by rw [Array.length_toList]; rfl
    omega
   have hb : b[n.toNat]? = some (b.data.toList.getD n.toNat 0):=by
    have hs : n.toNat < b.size:=by omega
    have h3 : b[n.toNat]? = some b[n.toNat]:=getElem?_pos b n.toNat hs
    rw [h3]
    have : b.data.toList.getD n.toNat 0 = b[n.toNat]:=by
     rw [List.getD_eq_getElem?_getD,List.getElem?_eq_getElem hlt]
     rfl
    rw [this]
   exact ⟨_,by simp only [execOp,rp_leaf hq,rp_leaf hr,Instr.index,asIntOf,Sem.run_bind,Sem.run_pure,Result.andThen_ok,run_underlying ht,g1,if_true,hb],.d (.v _ rfl)⟩
 · cases h
theorem bnd_run {β : Nat → Value} {a : Act} {w : World} (inv : InvB C β e s a w) {y : Option Operand} {dflt n : Int} {v : SV} (hy : (y.toList).all opdOK = true) (h : bnd e y dflt = some (v,n)) (hk : ok1 true v) : (y = none ∧ n = dflt) ∨ ∃ o k,y = some o ∧ a.eval o = .int k n:=by
 unfold bnd at h
 split at h
 · simp only [Option.some.injEq,Prod.mk.injEq] at h; exact .inl ⟨rfl,h.2.symm⟩
 · rename_i o
   split at h
   · rename_i k m hv
     simp only [Option.some.injEq,Prod.mk.injEq] at h
     obtain ⟨rfl,rfl⟩:=h
     have hq:=opn_rp (val_rp inv o (by simpa using hy)) hk
     rw [hv] at hq
     exact .inr ⟨o,k,rfl,rp_leaf hq⟩
   · cases h
theorem ok_slice (t : TypeId) (y : Operand) (lo hi mx : Option Operand) (hy : opdOK y = true) (hlo : lo.toList.all opdOK = true) (hhi : hi.toList.all opdOK = true) (h : stepO P true ⟨dst,.slice t y lo hi mx,ty,pos,af,gd⟩ e s nm = some (p,x,e',s')) (hp : p) : OpOK C ⟨dst,.slice t y lo hi mx,ty,pos,af,gd⟩ e s x e' s':=by
 simp only [stepO] at h
 unfold slO at h
 cases mx with
 | some m=>cases h
 | none =>
  simp only at h
  split at h
  · rename_i b ht h1
    split at h
    · rename_i vl l vh hh hl1 hh1
      obtain ⟨rfl,rfl,rfl,rfl⟩:=some4 h
      obtain ⟨g1,g2,g3,g4⟩:=hp
      obtain ⟨k1,k2,k3⟩:=g4 trivial
      refine ok_same fun β a w inv=>?_
      have hq:=opn_rp (val_rp inv y hy) g1
      rw [h1] at hq
      have hbs : ((b.size : Int)).toNat = b.size:=by simp
      have key : (Instr.sliceBounds false b.size b.size (lo.map a.eval) (hi.map a.eval) none).run P w = .ok (l.toNat,hh.toNat,b.size) w:=by
       rcases bnd_run inv hlo hl1 g2 with ⟨rfl,rfl⟩ | ⟨o,k,rfl,ho⟩ <;> rcases bnd_run inv hhi hh1 g3 with ⟨rfl,rfl⟩ | ⟨o2,kk2,rfl,ho2⟩
       · simp [Instr.sliceBounds]
       · have : 0 ≤ hh:=by omega
         simp [Instr.sliceBounds,Instr.sliceBound,asIntOf,ho2,this,k3]
       · simp [Instr.sliceBounds,Instr.sliceBound,asIntOf,ho,k1,k2]
       · have : 0 ≤ hh:=by omega
         have h4 : ((hh.toNat : Nat) : Int) = hh:=Int.toNat_of_nonneg this
         simp only [Instr.sliceBounds,Instr.sliceBound,asIntOf,ho,ho2,Option.map_some,Sem.run_bind,Sem.run_pure,Result.andThen_ok,this,k3,and_self,if_true,h4,k1,k2]
      refine ⟨.string (b.extract l.toNat hh.toNat),?_,.d (.v _ rfl)⟩
      simp only [execOp,Instr.sliceAt,Sem.run_bind,run_underlying ht,Result.andThen_ok,Instr.slice,rp_leaf hq,Option.map_none,Option.isSome_none,Bool.false_eq_true,if_false,key,Sem.run_pure]
    · cases h
  · rename_i el L ht h1
    split at h
    · rename_i k vl l hsz hl1
      obtain ⟨rfl,rfl,rfl,rfl⟩:=some4 h
      obtain ⟨g1,g2,g4,g5⟩:=hp
      obtain ⟨k1,k2⟩:=g4 trivial
      refine ok_same fun β a w inv=>?_
      have hq:=opn_rp (val_rp inv y hy) g1
      rw [h1] at hq
      have hsz' : (sizeOf el).run P w = .ok k w:=by
       unfold szOf at hsz
       cases hi : P.info? el with
       | none=>rw [hi] at hsz; cases hsz
       | some i =>
        simp only [hi,Option.map_some,Option.some.injEq] at hsz
        simp [sizeOf,typeInfo,hi,hsz]
      have key : ∀ n c,n = L.length → (Instr.sliceBounds true n c (lo.map a.eval) none none).run P w = .ok (l.toNat,n,c) w:=fun n c hn=>by
       subst hn
       rcases bnd_run inv hlo hl1 g2 with ⟨rfl,rfl⟩ | ⟨o,k,rfl,ho⟩
       · simp [Instr.sliceBounds]
       · simp [Instr.sliceBounds,Instr.sliceBound,asIntOf,ho,k1,k2]
      have hrun : ∀ (a0 : Option Addr) n c,n = L.length → a.eval y = .slice a0 n c → (execOp a.eval ⟨dst,.slice t y lo none none,ty,pos,af,gd⟩).run P w = .ok (.value (.slice (if c = l.toNat then a0 else a0.map (·.add (l.toNat * k))) (n - l.toNat) (c - l.toNat))) w:=fun a0 n c hn he=>by
       simp only [execOp,Instr.sliceAt,Sem.run_bind,run_underlying ht,Result.andThen_ok,Instr.slice,he,Option.map_none,key n c hn,hsz',Sem.run_pure]
      generalize hu : a.eval y = u at hq
      cases hq with
      | d hq =>
       cases hq with
       | slc0 a0 c0 =>
        refine ⟨_,hrun a0 0 c0 rfl hu,.d ?_⟩
        rw [List.drop_nil,Nat.zero_sub]
        exact .slc0 _ _
       | @slc _ k0 b o c n hn hc he =>
        refine ⟨_,hrun _ n c hn hu,.d ?_⟩
        by_cases hend : L.length ≤ l.toNat
        · rw [List.drop_of_length_le hend,show n - l.toNat = 0 by omega]
          exact .slc0 _ _
        · have hcl : ¬ c = l.toNat:=by omega
          have hk0 : k0 = k:=by
           cases L with
           | nil=>simp at hend
           | cons d L =>
            cases he with
            | esc hk _ _=>rw [← hk]; exact g5 d (by simp)
          subst hk0
          rw [if_neg hcl]
          simp only [Option.map_some,Addr.add_lit]
          exact .slc (by rw [List.length_drop,hn]) (by omega) (he.es_drop l.toNat)
    · rename_i hh k vl l hsz hl1
      split at h
      · rename_i vh n2 hh1
        obtain ⟨rfl,rfl,rfl,rfl⟩:=some4 h
        obtain ⟨g1,g2,g3,g4,g5⟩:=hp
        obtain ⟨k1,k2,k3⟩:=g4 trivial
        refine ok_same fun β a w inv=>?_
        have hq:=opn_rp (val_rp inv y hy) g1
        rw [h1] at hq
        have hsz' : (sizeOf el).run P w = .ok k w:=by
         unfold szOf at hsz
         cases hi : P.info? el with
         | none=>rw [hi] at hsz; cases hsz
         | some i =>
          simp only [hi,Option.map_some,Option.some.injEq] at hsz
          simp [sizeOf,typeInfo,hi,hsz]
        have hn2 : 0 ≤ n2:=by omega
        have key : ∀ n c,n = L.length → n ≤ c → (Instr.sliceBounds true n c (lo.map a.eval) (some (a.eval hh)) none).run P w = .ok (l.toNat,n2.toNat,c) w:=fun n c hn hc=>by
         subst hn
         obtain ⟨hx, -⟩ | ⟨o2,kk2,ho2',ho2⟩:=bnd_run inv hhi hh1 g3
         · cases hx
         · obtain rfl:=Option.some.inj ho2'
           have h4 : ((n2.toNat : Nat) : Int) = n2:=Int.toNat_of_nonneg hn2
           have h5 : n2 ≤ (c : Int):=by omega
           rcases bnd_run inv hlo hl1 g2 with ⟨rfl,rfl⟩ | ⟨o,k,rfl,ho⟩
           · simp [Instr.sliceBounds,Instr.sliceBound,asIntOf,ho2,hn2,h5]
           · simp [Instr.sliceBounds,Instr.sliceBound,asIntOf,ho,ho2,Option.map_some,hn2,h5,h4,k1,k2]
        have hrun : ∀ (a0 : Option Addr) n c,n = L.length → n ≤ c → a.eval y = .slice a0 n c → (execOp a.eval ⟨dst,.slice t y lo (some hh) none,ty,pos,af,gd⟩).run P w = .ok (.value (.slice (if c = l.toNat then a0 else a0.map (·.add (l.toNat * k))) (n2.toNat - l.toNat) (c - l.toNat))) w:=fun a0 n c hn hc he=>by
         simp only [execOp,Instr.sliceAt,Sem.run_bind,run_underlying ht,Result.andThen_ok,Instr.slice,he,Option.map_none,Option.map_some,key n c hn hc,hsz',Sem.run_pure]
        generalize hu : a.eval y = u at hq
        cases hq with
        | d hq =>
         cases hq with
         | slc0 a0 c0 =>
          have hz : n2.toNat - l.toNat = 0:=by simp at k3; omega
          refine ⟨_,hrun a0 0 c0 rfl (Nat.zero_le _) hu,.d ?_⟩
          rw [List.take_nil,List.drop_nil,hz]
          exact .slc0 _ _
         | @slc _ k0 b o c n hn hc he =>
          refine ⟨_,hrun _ n c hn hc hu,.d ?_⟩
          have hlen : (L.take n2.toNat).length = n2.toNat:=by rw [List.length_take]; omega
          by_cases hend : n2.toNat ≤ l.toNat
          · rw [List.drop_of_length_le (by omega),show n2.toNat - l.toNat = 0 by omega]
            exact .slc0 _ _
          · have hcl : ¬ c = l.toNat:=by omega
            have hk0 : k0 = k:=by
             cases L with
             | nil=>simp at hlen; omega
             | cons d L =>
              cases he with
              | esc hk _ _=>rw [← hk]; exact g5 d (by simp)
            subst hk0
            rw [if_neg hcl]
            simp only [Option.map_some,Addr.add_lit]
            exact .slc (by rw [List.length_drop,hlen]) (by omega) ((he.es_take n2.toNat).es_drop l.toNat)
      · cases h
    · cases h
  · cases h

theorem oks_rp {β : Nat → Value} {a : Act} {w : World} (inv : InvB C β e s a w) : ∀ (l : List Operand),l.all opdOK = true → oks true (vals e l) → Rp w C.F β s (.ss (opns (vals e l)) (l.map a.eval))
 | [],_,_=>.ssn
 | y :: l,h,h2=>by
  simp only [List.all_cons,Bool.and_eq_true] at h
  exact .ssc (opn_rp (val_rp inv y h.1) h2.1) (oks_rp inv l h.2 h2.2)
theorem ok_makeFunc (fn : Fn) (first caps : Array Operand) (hc : caps.toList.all opdOK = true) (h : stepO P true ⟨dst,.makeFunc fn first caps,ty,pos,af,gd⟩ e s nm = some (p,x,e',s')) (hp : p) : OpOK C ⟨dst,.makeFunc fn first caps,ty,pos,af,gd⟩ e s x e' s':=by
 simp only [stepO,mkF] at h
 split at h
 · rename_i f hf
   obtain ⟨rfl,rfl,rfl,rfl⟩:=some4 h
   have hf' : first = #[]:=by cases first; simp_all
   subst hf'
   refine ok_same fun β a w inv=>?_
   have hq:=oks_rp inv caps.toList hc hp
   refine ⟨.func (.func f) #[] (caps.map a.eval),by simp [execOp,Instr.makeFunc],?_⟩
   rw [show caps.map a.eval = (caps.toList.map a.eval).toArray from by apply Array.ext'; simp]
   exact Rp.clo (f:=f) hq
 · cases h
theorem map_some4 {α : Type} {o : Option α} {f : α → Prop × SV × Env × St} {p : Prop} {x : SV} {e' : Env} {s' : St} (h : (o.map f : Out) = some (p,x,e',s')) : ∃ r,o = some r ∧ f r = (p,x,e',s'):=by
 cases o with
 | none=>cases h
 | some r=>exact ⟨r,rfl,by simpa using h⟩
theorem lenV_run {β : Nat → Value} {a : Act} {w : World} (inv : InvB C β e s a w) {y : SV} {u : Value} {n : Nat} (h : lenV s y = some n) (hr : Rp w C.F β s (.s y u)) : ∃ b c,u = .slice b n c:=by
 unfold lenV at h
 split at h
 · cases hr; simp at h; subst h; exact ⟨_,_,rfl⟩
 · simp at h; subst h
   cases hr with
   | d hd=>cases hd with
    | slc0=>exact ⟨_,_,rfl⟩
    | slc hn _ _=>subst hn; exact ⟨_,_,rfl⟩
 · split at h
   · rename_i k L hl
     simp at h; subst h
     cases hr with
     | own _ =>
      obtain ⟨h0,hkk,el,xs,q1,q2,q3⟩:=inv.wr.boxes _ _ hl
      rcases q1.2 with ⟨e1,e2⟩ | ⟨b,cap,cur,e1, -⟩
      · rw [e1,e2]; exact ⟨_,_,rfl⟩
      · rw [e1]; exact ⟨_,_,rfl⟩
   · cases h
 · cases h
theorem lenT_run {F : Nat → Prop} {β : Nat → Value} {w : World} {y : SV} {u : Value} {n : Nat} (h : lenT y = some n) (hr : Rp w F β s (.s y u)) : ∃ b : ByteArray,u = .string b ∧ b.size = n:=by
 unfold lenT at h
 split at h
 · simp at h; subst h
   exact ⟨_,rp_leaf hr,rfl⟩
 · cases h
theorem ok_len (args : Array Operand) (ats : Array TypeId) (hc : args.toList.all opdOK = true) (h : lenO P true args.toList ats.toList e s = some (p,x,e',s')) (hp : p) : OpOK C ⟨dst,.call ⟨.builtin .len,args,ats⟩,ty,pos,af,gd⟩ e s x e' s':=by
 unfold lenO at h
 split at h
 · rename_i y t ha ht
   have ha' : args = #[y]:=by cases args; simp_all
   have ht' : ats = #[t]:=by cases ats; simp_all
   subst ha' ht'
   simp at hc
   split at h
   · rename_i el hu
     obtain ⟨n,h1,h2⟩:=map_some4 h
     simp only [Prod.mk.injEq] at h2
     obtain ⟨rfl,rfl,rfl,rfl⟩:=h2
     refine ok_same fun β a w inv=>?_
     obtain ⟨b,c,hv⟩:=lenV_run inv h1 (opn_rp (val_rp inv y hc) hp)
     exact ⟨.int .i64 n,by simp [execOp,resolve,invoke,builtin,Builtin.len_,run_underlying hu,hv,goInt],.d (.v _ rfl)⟩
   · rename_i hu
     obtain ⟨n,h1,h2⟩:=map_some4 h
     simp only [Prod.mk.injEq] at h2
     obtain ⟨rfl,rfl,rfl,rfl⟩:=h2
     refine ok_same fun β a w inv=>?_
     obtain ⟨b,hv,hn⟩:=lenT_run h1 (opn_rp (val_rp inv y hc) hp)
     exact ⟨.int .i64 n,by simp [execOp,resolve,invoke,builtin,Builtin.len_,run_underlying hu,hv,goInt,hn],.d (.v _ rfl)⟩
   · rename_i kt et hu
     split at h
     · rename_i i hi
       split at h
       · rename_i M hM
         obtain ⟨rfl,rfl,rfl,rfl⟩:=some4 h
         refine ok_same fun β a w inv=>?_
         have hq:=opn_rp (val_rp inv y hc) hp
         rw [hi] at hq
         obtain ⟨b,h1,h2, -⟩:=inv.wr.boxes i _ hM
         have hv : a.eval y = .map (some b):=by
          generalize a.eval y = u at hq
          cases hq with | mp _=>exact h1
         exact ⟨.int .i64 M.length,by simp [execOp,resolve,invoke,builtin,Builtin.len_,run_underlying hu,hv,goInt,getObj,Sem.run,h2,ents_len],.d (.v _ rfl)⟩
       · cases h
     · cases h
   · cases h
 · cases h
end
end Go.Sw
namespace Go.Sw
open Go.RowKit

section
variable {P : Program} {N : Nat} {Γ : Gl} {C : Cx P N Γ} {dst : Option Tmp} {ty : TypeId} {pos : String} {af : Array Edge} {gd : Option (Nat × Bool)} {e e' : Env} {s s' : St} {x : SV} {p : Prop} {nm : Nat}

theorem lk_jkS (X : Nat → Bool) (i : Nat) : ∀ s : St,lk i (jkS X s) = (lk i s).map (Box.jk X)
 | []=>rfl
 | (j,b) :: s=>by
  unfold jkS lk
  cases Nat.beq i j
  · simp only [cond_false]; exact lk_jkS X i s
  · rfl

theorem InvB.rowset {β : Nat → Value} {a : Act} {w w' : World} (inv : InvB C β e s a w) {i k : Nat} {L L' : List D} {v' : Value} (hl : lk i s = some (.row k L)) {b' : Nat} (hb' : blk v' = some b') (hbb : blk (β i) = some b' ∨ w.heap.size ≤ b')
 (hos : w'.os = w.os) (htape : w'.tape = w.tape) (hout : w'.output = w.output) (hsize : w.heap.size ≤ w'.heap.size) (hheap : ∀ b,b < w.heap.size → blk (β i) ≠ some b → w'.heap[b]? = w.heap[b]?)
 (hk0 : 0 < k) (hk : ∀ x ∈ L',x.cells.length = k) {el : TypeId} {xs : List Value} (hown : w'.ownsRow 0 el k v' L'.length xs) (hxs : RpD w (Mut C.F β s) (.ds (L'.flatMap D.cells) xs)) (hone : ∀ u ∈ xs,u.oneCell' = true) :
 InvB C (bset β i v') (jkE (Nat.beq i) e) (put i (.row k L') (jkS (Nat.beq i) s)) a w':=by
 have get : ∀ j bx,j ≠ i → lk j (put i (.row k L') (jkS (Nat.beq i) s)) = some bx → ∃ b,lk j s = some b ∧ bx = b.jk (Nat.beq i):=fun j bx hj h=>by
  rw [lk_put_ne _ hj,lk_jkS] at h
  cases hl : lk j s with
  | none=>rw [hl] at h; cases h
  | some b=>rw [hl] at h; exact ⟨b,rfl,by simpa using h.symm⟩
 have hnew : ∀ j bx b,j ≠ i → lk j s = some bx → blk (β j) = some b → b ≠ b':=fun j bx b hj h1 h2 he=>by
  subst he
  rcases hbb with h | h
  · exact hj (inv.wr.inj j i bx _ b h1 hl h2 h)
  · have:=(inv.wr.boxes j bx h1).blk_lt h2; omega
 have hx : Ext (Nat.beq i) C.F w β s w' (bset β i v') (put i (.row k L') (jkS (Nat.beq i) s)):=by
  refine ⟨fun b hb hm=>hheap b hb (fun h=>hm (.inr ⟨i,_,hl,h⟩)),fun b hb hm=>?_,fun j cs hX h=>?_,fun j k2 L2 hX h=>?_,fun j M hX h=>?_⟩
  · rcases hm with hm | ⟨j,bx,h1,h2⟩
    · exact .inl hm
    · by_cases hj : j = i
      · subst hj
        rw [bset_same,hb'] at h2
        cases h2
        rcases hbb with h | h
        · exact .inr ⟨j,_,hl,h⟩
        · omega
      · obtain ⟨b2,g1, -⟩:=get j bx hj h1
        rw [bset_ne hj] at h2
        exact .inr ⟨j,b2,g1,h2⟩
  · have hj : j ≠ i:=fun h=>by subst h; simp at hX
    exact ⟨bset_ne hj,SV.jks (Nat.beq i) cs,by rw [lk_put_ne _ hj,lk_jkS,h]; rfl⟩
  · have hj : j ≠ i:=fun h=>by subst h; simp at hX
    exact ⟨bset_ne hj,L2,by rw [lk_put_ne _ hj,lk_jkS,h]; rfl,Nat.le_refl _⟩
  · have hj : j ≠ i:=fun h=>by subst h; simp at hX
    exact ⟨bset_ne hj,M,by rw [lk_put_ne _ hj,lk_jkS,h]; rfl⟩
 refine inv.step hx ⟨fun j bx h=>?_,fun j1 j2 b1 b2 b h1 h2 h3 h4=>?_,fun j bx b h h2=>?_,fun b h=>Nat.lt_of_lt_of_le (inv.wr.low b h) hsize⟩ ⟨hos.trans inv.since.os,htape.trans inv.since.tape,hout.trans inv.since.output,Nat.le_trans inv.since.size hsize,fun b hb h=>?_,fun j bx b h h2=>?_,fun j c1 c2 h h2=>?_,fun j bx h=>?_⟩ hsize (fun b hb=>hheap b (Nat.lt_of_lt_of_le hb inv.big) (fun h=>by have:=inv.base i _ b hl h; omega)) (fun j bx b h h2=>?_)
 · by_cases hj : j = i
   · subst hj
     rw [lk_put_same] at h
     cases h
     exact ⟨hk0,hk,el,xs,by rw [bset_same]; exact hown,hxs.keep hx.heap hx.mutb,hone⟩
   · obtain ⟨b2,g1,rfl⟩:=get j bx hj h
     have hb:=inv.wr.boxes j b2 g1
     have hsame : ∀ b,blk (β j) = some b → w'.heap[b]? = w.heap[b]? := fun b hb2=>hheap b (hb.blk_lt hb2) (fun he=>hj (inv.wr.inj j i _ _ b g1 hl hb2 he))
     cases b2 with
     | cells cs =>
      obtain ⟨bb,t,us,h1,h2,h3,h4⟩:=hb
      exact ⟨bb,t,us,by rw [bset_ne hj]; exact h1,by rw [hsame bb (by rw [h1]; rfl)]; exact h2,Rp.keep hx h3,h4⟩
     | row k2 L2 =>
      obtain ⟨g0,hk2,el2,xs2,q1,q2,q3⟩:=hb
      refine ⟨g0,hk2,el2,xs2,?_,q2.keep hx.heap hx.mutb,q3⟩
      rw [bset_ne hj]
      refine ⟨q1.1,?_⟩
      rcases q1.2 with h | ⟨gg,cap,cur,e1,e2,e3,e4⟩
      · exact .inl h
      · exact .inr ⟨gg,cap,cur,e1,e2,by rw [hsame gg (by rw [e1]; rfl)]; exact e3,e4⟩
     | mp M =>
      obtain ⟨bb,h1,h2⟩:=hb
      exact ⟨bb,by rw [bset_ne hj]; exact h1,by rw [hsame bb (by rw [h1]; rfl)]; exact h2⟩
 · by_cases hj1 : j1 = i
   · by_cases hj2 : j2 = i
     · omega
     · subst hj1
       rw [bset_same,hb'] at h3
       cases h3
       obtain ⟨c2,g2, -⟩:=get j2 b2 hj2 h2
       rw [bset_ne hj2] at h4
       exact absurd rfl (hnew j2 c2 b' hj2 g2 h4)
   · obtain ⟨c1,g1, -⟩:=get j1 b1 hj1 h1
     rw [bset_ne hj1] at h3
     by_cases hj2 : j2 = i
     · subst hj2
       rw [bset_same,hb'] at h4
       cases h4
       exact absurd rfl (hnew j1 c1 b' hj1 g1 h3)
     · obtain ⟨c2,g2, -⟩:=get j2 b2 hj2 h2
       rw [bset_ne hj2] at h4
       exact inv.wr.inj j1 j2 c1 c2 b g1 g2 h3 h4
 · by_cases hj : j = i
   · subst hj
     rw [bset_same,hb'] at h2
     cases h2
     rcases hbb with hq | hq
     · exact inv.wr.apart j _ b' hl hq
     · intro hF; have:=inv.wr.low b' hF; omega
   · obtain ⟨c,g1, -⟩:=get j bx hj h
     rw [bset_ne hj] at h2
     exact inv.wr.apart j c b g1 h2
 · rw [hheap b (Nat.lt_of_lt_of_le hb inv.since.size) (fun he=>?_)]
   · exact inv.since.heap b hb h
   · rcases inv.since.boxes i _ b hl he with h2 | ⟨j,bj,h2,h3⟩
     · omega
     · exact h j bj h2 h3
 · by_cases hj : j = i
   · subst hj
     rw [bset_same,hb'] at h2
     cases h2
     rcases hbb with hq | hq
     · exact inv.since.boxes j _ b' hl hq
     · exact .inl (Nat.le_trans inv.since.size hq)
   · obtain ⟨c,g1, -⟩:=get j bx hj h
     rw [bset_ne hj] at h2
     exact inv.since.boxes j c b g1 h2
 · by_cases hj : j = i
   · subst hj; rw [lk_put_same] at h2; cases h2
   · obtain ⟨c,g1,g2⟩:=get j _ hj h2
     rw [bset_ne hj]
     cases c with
     | cells cs=>exact inv.since.cells j c1 cs h g1
     | row=>cases g2
     | mp=>cases g2
 · by_cases hj : j = i
   · subst hj; rw [lk_put_same]; simp
   · rw [lk_put_ne _ hj,lk_jkS]
     have:=inv.since.keep j bx h
     cases hlj : lk j s with
     | none=>exact absurd hlj this
     | some b=>simp
 · by_cases hj : j = i
   · subst hj
     rw [bset_same,hb'] at h2
     cases h2
     rcases hbb with hq | hq
     · exact inv.base j _ b' hl hq
     · exact Nat.le_trans inv.big hq
   · obtain ⟨c,g1, -⟩:=get j bx hj h
     rw [bset_ne hj] at h2
     exact inv.base j c b g1 h2

theorem elem_info {t : TypeId} {k by' : Nat} (h1 : elemSz P t = some k) (h2 : elemBy P t = some by') (h3 : elemZ P t = true) : ∃ el i z,P.underlying t = some (.slice el) ∧ P.info? el = some i ∧ i.size = k ∧ i.bytes = by' ∧ i.zero = some z ∧ z.cells.size = k ∧ 0 < k:=by
 obtain ⟨el,hu,hs⟩:=elemSz_run h1
 unfold szOf at hs
 cases hi : P.info? el with
 | none=>rw [hi] at hs; cases hs
 | some i =>
  simp only [hi,Option.map_some,Option.some.injEq] at hs
  simp only [elemBy,hu,hi,Option.map_some,Option.some.injEq] at h2
  simp only [elemZ,hu,hi] at h3
  split at h3
  · rename_i z hz
    simp only [Bool.and_eq_true,beq_iff_eq,Nat.blt_eq] at h3
    exact ⟨el,i,z,hu,hi,hs,h2,hz,by rw [h3.1,hs],by omega⟩
  · cases h3
theorem grown_row (w : World) (el : TypeId) (k : Nat) (z : Value) (xs : List Value) (n old : Nat) (hx : xs.length = n * k) (hz : z.cells.size = k) (hn : n ≤ maxLen) :
 (w.drew.alloc (.cells (xs.toArray ++ Builtin.zeroCells z.cells (grownCap w n old el - n)) el)).ownsRow 0 el k (.slice (some ⟨w.heap.size,0,none⟩) n (grownCap w n old el)) n xs:=by
 have hge:=grownCap_ge w n old el
 refine ⟨hx,.inr ⟨w.heap.size,_,_,rfl,Nat.zero_le _,heap_alloc_new w.drew _,hge,grownCap_le_maxLen w n old el hn,?_,?_⟩⟩
 · simp only [Array.size_append,List.size_toArray,size_zeroCells,hz,hx, ← Nat.add_mul]
   congr 1
   omega
 · simp only [Array.toList_append]
   rw [← hx]
   exact List.take_left
theorem dscs_flat {l : List D} {k : Nat} (h : ∀ d ∈ l,d.fits k) : dscs (l.flatMap D.cells):=by
 have app : ∀ a b : List D,dscs a → dscs b → dscs (a ++ b):=fun a=>by
  induction a with
  | nil=>intro b _ h; exact h
  | cons x a ih =>
   intro b h1 h2
   cases x with
   | v u=>exact ih b h1 h2
   | slc L=>exact ih b h1 h2
   | agg cs=>exact h1.elim
   | tup cs=>exact h1.elim
   | ptr y=>exact h1.elim
 induction l with
 | nil=>trivial
 | cons x l ih =>
  rw [List.flatMap_cons]
  exact app _ _ (h x (by simp)).2 (ih fun d hd=>h d (by simp [hd]))
theorem dscs_one1 {w : World} {M : Nat → Prop} : ∀ {l : List D} {us : List Value},RpD w M (.ds l us) → dscs l → ∀ u ∈ us,u.oneCell' = true
 | [],_,.dsn,_,u,h=>by cases h
 | .v x :: l,_,.dsc hx ht,hs,u,h=>by
  rcases List.mem_cons.1 h with rfl | h
  · cases hx with | v _ h1=>exact h1
  · exact dscs_one1 ht hs u h
 | .slc y :: l,_,.dsc hx ht,hs,u,h=>by
  rcases List.mem_cons.1 h with rfl | h
  · cases hx <;> rfl
  · exact dscs_one1 ht hs u h
 | .agg y :: l,_,_,hs,u,h=>hs.elim
 | .tup y :: l,_,_,hs,u,h=>hs.elim
theorem src_ok {β : Nat → Value} {a : Act} {w : World} (inv : InvB C β e s a w) {z : Operand} {t' el' : TypeId} (hz : opdOK z = true) (hu' : P.underlying t' = some (.slice el')) {k : Nat} {q : Prop} {l : List D} (hs : srcO s k (opn (val e z)) = some (q,l)) (hk : ok1 true (val e z)) (hq : q) :
 ∃ xs,Src P k t' (a.eval z) l.length xs w ∧ (∀ u ∈ xs,u.oneCell' = true) ∧ RpD w (Mut C.F β s) (.ds (l.flatMap D.cells) xs) ∧ (∀ d ∈ l,d.cells.length = k) ∧ xs.length = l.length * k:=by
 have hr:=opn_rp (val_rp inv z hz) hk
 generalize a.eval z = u at hr
 unfold srcO at hs
 split at hs
 · rename_i j hj
   rw [hj] at hr
   split at hs
   · rename_i k2 L hlj
     simp only [Option.some.injEq,Prod.mk.injEq] at hs
     obtain ⟨rfl,rfl⟩:=hs
     subst hq
     cases hr with
     | own =>
      obtain ⟨h0,hkk,el,xs,q1,q2,q3⟩:=inv.wr.boxes j _ hlj
      refine ⟨xs,?_,q3,q2,hkk,q1.1⟩
      rcases q1.2 with ⟨e1,e2⟩ | ⟨g,cap,cur,e1, -⟩
      · have hL : L = []:=List.eq_nil_of_length_eq_zero e2
        subst hL
        have hx : xs = []:=List.eq_nil_of_length_eq_zero (by rw [q1.1]; simp)
        subst hx
        rw [e1]
        exact Src.ofNil w hu' 0
      · have hc:=q1.cells (g:=g) (by rw [e1]; rfl)
        rw [e1]
        exact Src.ofSlice w hu' ⟨g,0,none⟩ L.length cap xs q1.1 hc q3
   · cases hs
 · rename_i L hj
   rw [hj] at hr
   simp only [Option.some.injEq,Prod.mk.injEq] at hs
   obtain ⟨rfl,rfl⟩:=hs
   have hlen : ∀ d ∈ L,d.cells.length = k:=fun d hd=>(hq d hd).1
   cases hr with
   | d hd =>
    cases hd with
    | slc0 a0 c0 =>
     refine ⟨[],?_,(fun u h=>by cases h),.dsn,(fun d h=>by cases h),by simp⟩
     cases a0 with
     | none=>exact Src.ofNil w hu' c0
     | some a1=>exact Src.ofSlice w hu' a1 0 c0 [] (by simp) (fun j u h=>by simp at h) (fun u h=>by cases h)
    | @slc _ k0 b o c n hn hc he =>
     subst hn
     obtain ⟨xs,x1,x2,x3⟩:=he.es_cells
     have hx1 : xs.length = L.length * k:=by
      cases L with
      | nil=>rw [x1]; simp
      | cons d L =>
       cases he with
       | esc hk0 _ _=>rw [x1, ← hk0,hlen d (by simp)]
     have hone:=dscs_one1 x3 (dscs_flat hq)
     refine ⟨xs,?_,hone,x3,hlen,hx1⟩
     exact Src.ofSlice w hu' ⟨b,o,none⟩ L.length c xs hx1 (fun j u hj=>by rw [Addr.add_lit]; exact x2 j u hj) hone
 · rename_i hj
   rw [hj] at hr
   simp only [Option.some.injEq,Prod.mk.injEq] at hs
   obtain ⟨rfl,rfl⟩:=hs
   cases hr with
   | nil=>exact ⟨[],Src.ofNil w hu' 0,(fun u h=>by cases h),.dsn,(fun d h=>by cases h),by simp⟩
 · cases hs
theorem run_append_none (w : World) (t tx ty el : TypeId) (i : TypeInfo) (ht : P.underlying t = some (.slice el)) (hi : P.info? el = some i) (u : Value) (hs : Src P i.size tx u 0 [] w) :
 (Builtin.append_ #[t,tx] ty #[.slice none 0 0,u]).run P w = .ok (.slice none 0 0) w:=by
 rcases hs.kind with ⟨e',hk⟩ | hk <;> simp [Builtin.append_,run_underlying ht,run_underlying hk,sizeOf,typeInfo,hi,hs.len,hs.cells]

theorem ok_app (args : Array Operand) (ats : Array TypeId) (hc : args.toList.all opdOK = true) (h : appO P true args.toList ats.toList e s nm = some (p,x,e',s')) (hp : p) (hn : lk nm s = none) : OpOK C ⟨dst,.call ⟨.builtin .append,args,ats⟩,ty,pos,af,gd⟩ e s x e' s':=by
 unfold appO at h
 split at h
 · rename_i y z t t' ha ht
   have ha' : args = #[y,z]:=by cases args; simp_all
   have ht' : ats = #[t,t']:=by cases ats; simp_all
   subst ha' ht'
   simp at hc
   split at h
   · rename_i k by' k' hk hby hk'
     split at h
     · -- nothing is appended
       rename_i q hsrc
       split at h
       · rename_i hy
         obtain ⟨rfl,rfl,rfl,rfl⟩:=some4 h
         obtain ⟨-,g1,g2,g3,rfl,hq0⟩:=hp
         refine ok_same fun β a w inv=>?_
         obtain ⟨el,i,zz,hu,hi,hsz,hbb,hzz,hzs,hpos⟩:=elem_info hk hby g3
         obtain ⟨el',hu', -⟩:=elemSz_run hk'
         obtain ⟨xs,hs, -, -, -,hxl⟩:=src_ok inv hc.2 hu' hsrc g2 hq0
         have hx0 : xs = []:=List.eq_nil_of_length_eq_zero (by rw [hxl]; simp)
         subst hx0
         have hq:=opn_rp (val_rp inv y hc.1) g1
         rw [hy] at hq
         have hyv : a.eval y = .slice none 0 0:=by
          generalize a.eval y = u at hq
          cases hq with | nil=>rfl
         refine ⟨.slice none 0 0,?_,.nil⟩
         simp only [execOp,resolve,Sem.run_bind,Sem.run_pure,Result.andThen_ok,invoke,builtin,List.map_toArray,List.map_cons,List.map_nil,hyv]
         rw [run_append_none w t t' ty el i hu hi (a.eval z) (by rw [hsz]; exact hs)]
         rfl
       · rename_i i0 hy
         split at h
         · rename_i k3 L hli
           obtain ⟨rfl,rfl,rfl,rfl⟩:=some4 h
           obtain ⟨-,g1,g2,g3,rfl,hq0,rfl⟩:=hp
           refine ok_same fun β a w inv=>?_
           obtain ⟨el,i,zz,hu,hi,hsz,hbb,hzz,hzs,hpos⟩:=elem_info hk hby g3
           obtain ⟨el',hu', -⟩:=elemSz_run hk'
           obtain ⟨xs,hs, -, -, -,hxl⟩:=src_ok inv hc.2 hu' hsrc g2 hq0
           have hx0 : xs = []:=List.eq_nil_of_length_eq_zero (by rw [hxl]; simp)
           subst hx0
           have hq:=opn_rp (val_rp inv y hc.1) g1
           rw [hy] at hq
           have hyv : a.eval y = β i0:=by
            generalize a.eval y = u at hq
            cases hq with | own=>rfl
           rw [hyv] at hq
           obtain ⟨c0,ckk,elr,xo,q1,q2,q3⟩:=inv.wr.boxes i0 _ hli
           refine ⟨β i0,?_,hq⟩
           simp only [execOp,resolve,Sem.run_bind,Sem.run_pure,Result.andThen_ok,invoke,builtin,List.map_toArray,List.map_cons,List.map_nil,hyv]
           rcases q1.2 with ⟨e1,e2⟩ | ⟨gg,cp,cur,e1, -,e3,e4, -⟩
           · rw [e1,run_append_none w t t' ty el i hu hi (a.eval z) (by rw [hsz]; exact hs)]
             rfl
           · rw [e1,run_append_room_src (P:=P) w t t' ty el i hu hi gg 0 L.length cp (a.eval z) 0 [] (by rw [hsz]; exact hs) (by omega) (fun j h=>by simp at h) (fun j h=>by simp at h)]
             rfl
         · cases h
       · cases h
     · rename_i q y0 Ly hsrc
       split at h
       · rename_i hy
         obtain ⟨rfl,rfl,rfl,rfl⟩:=some4 h
         obtain ⟨-,g1,g2,g3,rfl,hq0,g6,g7⟩:=hp
         intro β a w inv K Q hK
         obtain ⟨el,i,zz,hu,hi,hsz,hbb,hzz,hzs,hpos⟩:=elem_info hk hby g3
         obtain ⟨el',hu', -⟩:=elemSz_run hk'
         obtain ⟨xs,hs,h4,h5,h6,h2⟩:=src_ok inv hc.2 hu' hsrc g2 hq0
         rw [← hsz] at hs
         simp only [List.length_cons] at hs h2
         have hq:=opn_rp (val_rp inv y hc.1) g1
         rw [hy] at hq
         have hyv : a.eval y = .slice none 0 0:=by
          generalize a.eval y = u at hq
          cases hq with | nil=>rfl
         have hr:=run_append_grow_src (P:=P) w t t' ty el i zz hu hi hzz none 0 0 [] (run_firstCells_none w.drew i.size 0 0 0) _ _ xs hs (by omega) (by simp only [maxLen] at g7; omega) (growslice_fits (by omega) (by rw [hbb,Nat.zero_add]; exact g6))
         simp only [Nat.zero_add,List.nil_append] at hr
         have hrow:=grown_row w el k' zz xs (Ly.length + 1) 0 h2 hzs g7
         have hv : ∀ b,blk (.slice (some ⟨w.heap.size,0,none⟩) (Ly.length + 1) (grownCap w (Ly.length + 1) 0 el)) = some b → b = w.drew.heap.size:=fun b hb=>by simpa [blk] using hb.symm
         have inv1:=inv.grow ((Below.refl w.heap.size w).drew)
         have inv2:=inv1.new _ _ (.row k' (y0 :: Ly)) hv hn (by
          refine ⟨hpos,h6,el,xs,?_,?_,h4⟩
          · rw [bset_same]; exact hrow
          · have hx:=ext_alloc inv1 (.cells (xs.toArray ++ Builtin.zeroCells zz.cells (grownCap w (Ly.length + 1) 0 el - (Ly.length + 1))) el) (.slice (some ⟨w.heap.size,0,none⟩) (Ly.length + 1) (grownCap w (Ly.length + 1) 0 el)) (.row k' (y0 :: Ly)) hv hn
            exact (RpD.keep (w:=w) (w':=w.drew) (M:=Mut C.F β s) (M':=Mut C.F β s) (fun _ _ _=>rfl) (fun _ _ h=>h) h5).keep hx.heap hx.mutb)
         have hown:=Rp.own (w:=w.drew.alloc (.cells (xs.toArray ++ Builtin.zeroCells zz.cells (grownCap w (Ly.length + 1) 0 el - (Ly.length + 1))) el)) (F:=C.F) (β := bset β nm (.slice (some ⟨w.heap.size,0,none⟩) (Ly.length + 1) (grownCap w (Ly.length + 1) 0 el))) (lk_cons_same nm (Box.row k' (y0 :: Ly)) s)
         rw [bset_same] at hown
         unfold Oper.wp execOp
         simp only [resolve,Sem.run_bind,Sem.run_pure,Result.andThen_ok,invoke,builtin,List.map_toArray,List.map_cons,List.map_nil,hyv,hr]
         exact hK _ _ _ inv2 (fun h=>by cases h) hown
       · rename_i i0 hy
         split at h
         · rename_i k3 L hli
           obtain ⟨rfl,rfl,rfl,rfl⟩:=some4 h
           obtain ⟨-,g1,g2,g3,rfl,hq0,rfl,hij,g6,g7⟩:=hp
           intro β a w inv K Q hK
           obtain ⟨el,i,zz,hu,hi,hsz,hbb,hzz,hzs,hpos⟩:=elem_info hk hby g3
           obtain ⟨el',hu', -⟩:=elemSz_run hk'
           obtain ⟨xs,hs,h4,h5,h6,h2⟩:=src_ok inv hc.2 hu' hsrc g2 hq0
           rw [← hsz] at hs
           simp only [List.length_cons] at hs h2
           have hq:=opn_rp (val_rp inv y hc.1) g1
           rw [hy] at hq
           have hyv : a.eval y = β i0:=by
            generalize a.eval y = u at hq
            cases hq with | own=>rfl
           obtain ⟨c0,ckk,elr,xo,q1,q2,q3⟩:=inv.wr.boxes i0 _ hli
           have hall : ∀ d ∈ L ++ y0 :: Ly,d.cells.length = k3:=fun d hd=>(List.mem_append.1 hd).elim (ckk d) (h6 d)
           have hrpall : RpD w (Mut C.F β s) (.ds ((L ++ y0 :: Ly).flatMap D.cells) (xo ++ xs)):=by
            rw [List.flatMap_append]; exact q2.ds_app h5
           have honeall : ∀ u ∈ xo ++ xs,u.oneCell' = true:=fun u hu=>(List.mem_append.1 hu).elim (q3 u) (h4 u)
           have hlenall : (xo ++ xs).length = (L ++ y0 :: Ly).length * k3:=by
            simp only [List.length_append,q1.1,h2,List.length_cons,Nat.add_mul]
           have hlen2 : (L ++ y0 :: Ly).length = L.length + (Ly.length + 1):=by simp
           -- a new block
           have grow : ∀ (base : Option Addr) (c : Nat), β i0 = .slice base L.length c → c < L.length + (Ly.length + 1) → (Builtin.firstCells i.size L.length (.slice base L.length c)).run P w.drew = .ok xo.toArray w.drew → (∀ b,blk (β i0) = some b → True) → Oper.wp P ⟨dst,.call ⟨.builtin .append, #[y,z], #[t,t']⟩,ty,pos,af,gd⟩ a w K Q:=by
            intro base c hβ hlt hold _
            have hr:=run_append_grow_src (P:=P) w t t' ty el i zz hu hi hzz base L.length c xo hold _ _ xs hs hlt (by simp only [maxLen] at g7; omega) (growslice_fits hlt (by rw [hbb]; exact g6))
            have hrow:=grown_row w el k3 zz (xo ++ xs) (L.length + (Ly.length + 1)) c (by rw [hlenall,hlen2]) hzs g7
            have inv2:=inv.rowset (w':=w.drew.alloc (.cells ((xo ++ xs).toArray ++ Builtin.zeroCells zz.cells (grownCap w (L.length + (Ly.length + 1)) c el - (L.length + (Ly.length + 1)))) el)) (v':=.slice (some ⟨w.heap.size,0,none⟩) (L.length + (Ly.length + 1)) (grownCap w (L.length + (Ly.length + 1)) c el)) hli (b':=w.heap.size) rfl (.inr (Nat.le_refl _)) rfl rfl rfl (by simp)
             (fun b hb _=>heap_alloc_lt w.drew _ hb) hpos hall (by rw [hlen2]; exact hrow) hrpall honeall
            have hown:=Rp.own (w:=w.drew.alloc (.cells ((xo ++ xs).toArray ++ Builtin.zeroCells zz.cells (grownCap w (L.length + (Ly.length + 1)) c el - (L.length + (Ly.length + 1)))) el)) (F:=C.F) (β := bset β i0 (.slice (some ⟨w.heap.size,0,none⟩) (L.length + (Ly.length + 1)) (grownCap w (L.length + (Ly.length + 1)) c el))) (lk_put_same i0 (Box.row k3 (L ++ y0 :: Ly)) (jkS (Nat.beq i0) s))
            rw [bset_same] at hown
            unfold Oper.wp execOp
            simp only [resolve,Sem.run_bind,Sem.run_pure,Result.andThen_ok,invoke,builtin,List.map_toArray,List.map_cons,List.map_nil,hyv,hβ,hr]
            exact hK _ _ _ inv2 (fun h=>by cases h) hown
           rcases q1.2 with ⟨e1,e2⟩ | ⟨gg,cp,cur,e1, -,e3,e4,e5,e6,e7⟩
           · have hx0 : xo = []:=List.eq_nil_of_length_eq_zero (by rw [q1.1,e2,Nat.zero_mul])
             subst hx0
             refine grow none 0 (by rw [e1,e2]) (by omega) ?_ (fun _ _=>trivial)
             rw [e2]; exact run_firstCells_none w.drew i.size 0 0 0
           · have hold : ∀ j u,xo[j]? = some u → w.cell? ((⟨gg,0,none⟩ : Addr).add j) = some u:=q1.cells (g:=gg) (by rw [e1]; rfl)
             by_cases hroom : L.length + (Ly.length + 1) ≤ cp
             · have hsz2 : L.length * k3 + xs.length ≤ cur.size:=by rw [h2,e6, ← Nat.add_mul]; exact Nat.mul_le_mul_right _ hroom
               have hcell : ∀ j,j < xs.length → (w.cell? ⟨gg,0 + L.length * i.size + j,none⟩).isSome = true:=fun j hj=>by
                have hlt : L.length * k3 + j < cur.size:=by omega
                simp [World.cell?,e3,hsz,hlt]
               have hfz : ∀ j,j < xs.length → w.frozen? ⟨gg,0 + L.length * i.size + j,none⟩ = false:=fun j hj=>by simp [World.frozen?,e3]
               have hr:=run_append_room_src (P:=P) w t t' ty el i hu hi gg 0 L.length cp _ _ xs hs hroom hcell hfz
               have k1:=run_storeCells_cells (P:=P) gg (0 + L.length * i.size) xs 0 w (by simpa using hcell) (by simpa using hfz) h4
               have k2:=run_storeCells_at P gg (0 + L.length * i.size) elr xs 0 cur w e3 (by rw [hsz]; omega) h4
               rw [k1] at k2
               simp only [Result.ok.injEq,true_and,Nat.add_zero,Nat.zero_add,hsz] at k2
               simp only [Nat.zero_add,hsz,k2] at hr
               have inv2:=inv.rowset (w':=w.setRow gg (cur.toList.take (L.length * k3) ++ xs ++ cur.toList.drop (L.length * k3 + xs.length)).toArray) (v':=.slice (some ⟨gg,0,none⟩) (L.length + (Ly.length + 1)) cp) hli (b':=gg) (el:=elr) rfl (.inl (by rw [e1]; rfl)) rfl rfl rfl (by simp)
                (fun b hb hne=>setRow_other w gg b _ (fun he=>hne (by rw [e1,he]; rfl))) hpos hall (by
                 refine ⟨hlenall,.inr ⟨gg,cp,_,by rw [hlen2],Nat.zero_le _,setRow_heap w gg cur _ elr (0,0) e3,by omega,e5,?_,?_⟩⟩
                 · simp only [List.size_toArray,List.length_append,List.length_take,List.length_drop,Array.length_toList]
                   omega
                 · rw [e7, ← hlenall]
                   simp only [List.toList_toArray]
                   exact List.take_left) hrpall honeall
               have hown:=Rp.own (w:=w.setRow gg (cur.toList.take (L.length * k3) ++ xs ++ cur.toList.drop (L.length * k3 + xs.length)).toArray) (F:=C.F) (β := bset β i0 (.slice (some ⟨gg,0,none⟩) (L.length + (Ly.length + 1)) cp)) (lk_put_same i0 (Box.row k3 (L ++ y0 :: Ly)) (jkS (Nat.beq i0) s))
               rw [bset_same] at hown
               unfold Oper.wp execOp
               simp only [resolve,Sem.run_bind,Sem.run_pure,Result.andThen_ok,invoke,builtin,List.map_toArray,List.map_cons,List.map_nil,hyv,e1,hr]
               exact hK _ _ _ inv2 (fun h=>by cases h) hown
             · exact grow (some ⟨gg,0,none⟩) cp e1 (by omega) (run_firstCells_some w.drew i.size L.length ⟨gg,0,none⟩ L.length cp xo (by rw [hsz]; exact q1.1) (by simpa using hold)) (fun _ _=>trivial)
         · cases h
       · cases h
     · cases h
   · cases h
 · cases h

theorem foldl_set (off : Nat) : ∀ (vs : List Value) (k : Nat) (arr : Array Value),off + k + vs.length ≤ arr.size →
 ((vs.zipIdx k).foldl (fun (cs : Array Value) (cj : Value × Nat)=>cs.setIfInBounds (off + cj.2) cj.1) arr).toList = arr.toList.take (off + k) ++ vs ++ arr.toList.drop (off + k + vs.length)
 | [],k,arr,h=>by simp
 | v :: vs,k,arr,h=>by
  simp only [List.length_cons] at h
  simp only [List.zipIdx_cons,List.foldl_cons]
  rw [foldl_set off vs (k + 1) _ (by simp; omega)]
  have hlt : off + k < arr.toList.length:=by simp; omega
  simp only [Array.toList_setIfInBounds]
  rw [show off + (k + 1) = off + k + 1 by omega,List.take_succ_eq_append_getElem (by simpa using hlt)]
  simp only [List.getElem_set_self,List.length_cons]
  rw [List.take_set_of_le (by omega),List.drop_set_of_lt (by omega)]
  simp only [List.append_assoc,List.singleton_append,List.cons_append,List.nil_append]
  rw [show off + k + 1 + vs.length = off + k + (vs.length + 1) by omega]
theorem arr_fold (off : Nat) (cells : Array Value) (arr : Array Value) (h : off + cells.size ≤ arr.size) :
 (cells.zipIdx.foldl (fun (cs : Array Value) (cj : Value × Nat)=>cs.setIfInBounds (off + cj.2) cj.1) arr).toList = upd arr.toList off cells.toList:=by
 rw [← Array.foldl_toList,Array.toList_zipIdx]
 have:=foldl_set off cells.toList 0 arr (by simpa using h)
 simpa [upd] using this
theorem fill_ok {β : Nat → Value} {a : Act} {w : World} (inv : InvB C β e s a w) {pl : List (Nat × Nat)} {place : Nat → Option (Nat × Nat)} (hpl : ∀ i q,pl[i]? = some q → place i = some q) : ∀ (parts : List (Nat × Operand)) (cs cs' : List SV) (cells : Array Value) (p : Prop),
 (parts.map (·.2)).all opdOK = true → fillO true pl e parts cs = some (p,cs') → p → Rp w C.F β s (.ss cs cells.toList) → ∃ cells',Instr.fill place cells (parts.map fun ix=>(ix.1,a.eval ix.2)) = some cells' ∧ Rp w C.F β s (.ss cs' cells'.toList)
 | [],cs,cs',cells,p,_,h,hp,hr=>by
  simp only [fillO,Option.some.injEq,Prod.mk.injEq] at h
  obtain ⟨-,rfl⟩:=h
  exact ⟨cells,rfl,hr⟩
 | (i, x) :: r,cs,cs',cells,p,ho,h,hp,hr=>by
  simp only [fillO] at h
  split at h
  · rename_i off n hi
    split at h
    · rename_i q cs2 h2
      simp only [Option.some.injEq,Prod.mk.injEq] at h
      obtain ⟨rfl,rfl⟩:=h
      obtain ⟨g1,g2,g3,g4,g5⟩:=hp
      simp only [List.map_cons,List.all_cons,Bool.and_eq_true] at ho
      have hv:=opn_rp (val_rp inv x ho.1) g1
      have hc:=cells_rp inv hv g4
      have hlen:=hc.ss_len
      have hlen2:=hr.ss_len
      have hsz : (a.eval x).cells.size = n:=by rw [← Array.length_toList,hlen,g2]
      have hcs : cells.size = cs.length:=by rw [← Array.length_toList,hlen2]
      have hnew : Rp w C.F β s (.ss (upd cs off (opn (val e x)).cells) (((a.eval x).cells.zipIdx.foldl (fun (cs : Array Value) (cj : Value × Nat)=>cs.setIfInBounds (off + cj.2) cj.1) cells)).toList):=by
       rw [arr_fold off _ _ (by omega)]
       exact upd_rp off hr hc
      obtain ⟨cells',h5,h6⟩:=fill_ok inv hpl r _ cs2 _ q ho.2 h2 g5 hnew
      refine ⟨cells',?_,h6⟩
      simp only [List.map_cons,Instr.fill,hpl i _ hi]
      rw [if_neg (by simp [hsz]; omega)]
      exact h5
    · cases h
  · cases h
theorem ok_build (t : TypeId) (parts : Array (Nat × Operand)) (hc : (parts.toList.map (·.2)).all opdOK = true) (h : buildO P true t parts.toList e s = some (p,x,e',s')) (hp : p) : OpOK C ⟨dst,.build t parts,ty,pos,af,gd⟩ e s x e' s':=by
 unfold buildO at h
 split at h
 · rename_i z pl hz hpl
   obtain ⟨r,h1,h2⟩:=map_some4 h
   simp only [Prod.mk.injEq] at h2
   obtain ⟨rfl,rfl,rfl,rfl⟩:=h2
   unfold zeroS at hz
   cases hi : P.info? t with
   | none=>rw [hi] at hz; cases hz
   | some i =>
    rw [hi] at hz
    cases hzz : i.zero with
    | none=>simp [hzz] at hz
    | some zv =>
     cases hcz : constOK zv
     · simp [hzz,hcz] at hz
     simp only [Option.bind_some,hzz,hcz,cond_true,Option.some.injEq] at hz
     refine ok_same fun β a w inv=>?_
     have hzr:=ofV_rp (w:=w) (F:=C.F) (β := β) (s:=s) zv hcz
     rw [hz] at hzr
     have hzc : Rp w C.F β s (.ss z zv.cells.toList):=by
      cases hzr with | agg h=>exact h
     have hfill : ∀ place : Nat → Option (Nat × Nat),(∀ i q,pl[i]? = some q → place i = some q) → _:=fun place hpp=>fill_ok inv (place:=place) hpp parts.toList z r.2 zv.cells r.1 hc h1 hp.2 hzc
     have hb : ∃ cells',P.built t (parts.toList.map fun ix=>(ix.1,a.eval ix.2)) = some cells' ∧ Rp w C.F β s (.ss r.2 cells'.toList):=by
      unfold plcs at hpl
      split at hpl
      · rename_i fs hu
        obtain ⟨cells',g1,g2⟩:=hfill (fun i=>pl.toArray[i]?) (fun i q h=>by simpa using h)
        refine ⟨cells',?_,g2⟩
        simp only [Program.built,hi,hu,hzz,hpl]
        exact g1
      · rename_i n el hu
        cases hie : P.info? el with
        | none=>rw [hie] at hpl; cases hpl
        | some ie =>
         simp only [hie,Option.map_some,Option.some.injEq] at hpl
         obtain ⟨cells',g1,g2⟩:=hfill (fun i=>some (i * ie.size,ie.size)) (fun i q h=>by
          rw [← hpl,List.getElem?_map] at h
          cases hr : (List.range n)[i]? with
          | none=>rw [hr] at h; cases h
          | some j =>
           rw [hr] at h
           obtain ⟨h3,h4⟩:=List.getElem?_eq_some_iff.1 hr
           simp at h4 h
           subst h4
           simpa using h)
         refine ⟨cells',?_,g2⟩
         simp only [Program.built,hi,hu,hzz,hie]
         exact g1
      · cases hpl
     obtain ⟨cells',g1,g2⟩:=hb
     refine ⟨.agg cells',?_,?_⟩
     · have hm : (parts.map fun (ix : Nat × Operand)=>(ix.1,a.eval ix.2)).toList = parts.toList.map fun ix=>(ix.1,a.eval ix.2):=by simp
       have:=run_build (P:=P) w t (parts.map fun (ix : Nat × Operand)=>(ix.1,a.eval ix.2)) cells' (by rw [hm]; exact g1)
       simp only [execOp,Sem.run_bind,this,Result.andThen_ok,Sem.run_pure]
     · have:=Rp.agg g2
       simpa using this
 · cases h

theorem dcells_rp {w : World} {M : Nat → Prop} {x : D} {u : Value} (h : RpD w M (.d x u)) : RpD w M (.ds x.cells u.cells.toList):=by
 have one : u.cells = #[u] → x.cells = [x] → RpD w M (.ds x.cells u.cells.toList):=fun h1 h2=>by rw [h1,h2]; exact .dsc h .dsn
 cases h with
 | v u h1=>exact one (one_cells h1) rfl
 | agg h=>exact h
 | tup h=>exact one rfl rfl
 | slc0=>exact one rfl rfl
 | slc=>exact one rfl rfl
 | ptr=>exact one rfl rfl
theorem dscs_one {w : World} {M : Nat → Prop} : ∀ {l : List D} {us : List Value},RpD w M (.ds l us) → dscs l → ∀ u ∈ us,u.oneCell' = true
 | [],_,.dsn,_,u,h=>by cases h
 | .v y :: l,_,.dsc hx ht,hs,u,h=>by
  rcases List.mem_cons.1 h with rfl | h
  · cases hx with | v _ h1=>exact h1
  · exact dscs_one ht hs u h
 | .slc y :: l,_,.dsc hx ht,hs,u,h=>by
  rcases List.mem_cons.1 h with rfl | h
  · cases hx <;> rfl
  · exact dscs_one ht hs u h
theorem take_upd {α : Type} (l : List α) (off : Nat) (vs : List α) (h : off ≤ l.length) : (upd l off vs).take (off + vs.length) = l.take off ++ vs:=by
 have h1 : (l.take off ++ vs).length = off + vs.length:=by rw [List.length_append,List.length_take,Nat.min_eq_left h]
 unfold upd
 rw [← h1,List.take_left]
theorem elems_ok {β : Nat → Value} {a : Act} {w : World} (inv : InvB C β e s a w) (k : Nat) : ∀ (parts : List (Nat × Operand)) (j : Nat) (ds : List D) (p : Prop) (arr : Array Value),
 (parts.map (·.2)).all opdOK = true → elemsO true k e s parts j = some (p,ds) → p → arr.size = (j + ds.length) * k → ∃ cells' xs,Instr.fill (fun i=>some (i * k,k)) arr (parts.map fun ix=>(ix.1,a.eval ix.2)) = some cells' ∧ cells'.toList = arr.toList.take (j * k) ++ xs ∧ xs.length = ds.length * k ∧
  RpD w (Mut C.F β s) (.ds (ds.flatMap D.cells) xs) ∧ (∀ u ∈ xs,u.oneCell' = true) ∧ ∀ d ∈ ds,d.cells.length = k
 | [],j,ds,p,arr,_,h,hp,hsz=>by
  simp only [elemsO,Option.some.injEq,Prod.mk.injEq] at h
  obtain ⟨-,rfl⟩:=h
  refine ⟨arr,[],rfl,?_,by simp,.dsn,fun u h=>(by cases h),fun d h=>by cases h⟩
  rw [List.append_nil,List.take_of_length_le (by simp [hsz])]
 | (i, x) :: r,j,ds,p,arr,ho,h,hp,hsz=>by
  simp only [elemsO] at h
  cases hij : Nat.beq i j with
  | false=>rw [hij] at h; cases h
  | true =>
   have hij' : i = j:=Nat.eq_of_beq_eq_true hij
   subst hij'
   rw [hij,cond_true] at h
   split at h
   · rename_i d q ds2 h1 h2
     simp only [Option.some.injEq,Prod.mk.injEq] at h
     obtain ⟨rfl,rfl⟩:=h
     obtain ⟨g1,g2,g3,g4⟩:=hp
     simp only [List.map_cons,List.all_cons,Bool.and_eq_true] at ho
     have hv:=opn_rp (val_rp inv x ho.1) g1
     have hd:=toD_rp inv (s':=s) (fun i bx h=>⟨bx,h⟩) _ d _ hv h1 (by rw [g2]; intro i h; cases h)
     have hdc:=dcells_rp hd
     have hlen:=hdc.ds_len
     rw [g3.1] at hlen
     have hlen' : (a.eval x).cells.size = k:=by rw [← Array.length_toList]; exact hlen
     have e1 : (i + (ds2.length + 1)) * k = i * k + (k + ds2.length * k):=by simp only [Nat.add_mul]; omega
     have e2 : (i + 1 + ds2.length) * k = i * k + (k + ds2.length * k):=by simp only [Nat.add_mul]; omega
     simp only [List.length_cons] at hsz
     have hfold:=arr_fold (i * k) (a.eval x).cells arr (by omega)
     have hsz2 : ((a.eval x).cells.zipIdx.foldl (fun (cs : Array Value) (cj : Value × Nat)=>cs.setIfInBounds (i * k + cj.2) cj.1) arr).size = (i + 1 + ds2.length) * k:=by
      rw [← Array.length_toList,hfold]
      simp only [upd,List.length_append,List.length_take,List.length_drop,Array.length_toList]
      omega
     obtain ⟨cells',xs,f1,f2,f3,f4,f5,f6⟩:=elems_ok inv k r (i + 1) ds2 q _ ho.2 h2 g4 hsz2
     refine ⟨cells',(a.eval x).cells.toList ++ xs,?_,?_,?_,?_,?_,?_⟩
     · simp only [List.map_cons,Instr.fill]
       rw [if_neg (by simp [hlen']; omega)]
       exact f1
     · have e3 : (i + 1) * k = i * k + (a.eval x).cells.toList.length:=by rw [hlen]; simp only [Nat.add_mul]; omega
       rw [f2,hfold,e3,take_upd _ _ _ (by rw [Array.length_toList]; omega),List.append_assoc]
     · simp only [List.length_append,hlen,f3,List.length_cons,Nat.add_mul]; omega
     · rw [List.flatMap_cons]; exact hdc.ds_app f4
     · intro u hu
       rcases List.mem_append.1 hu with h | h
       · exact dscs_one hdc g3.2 u h
       · exact f5 u h
     · intro d' hd'
       rcases List.mem_cons.1 hd' with rfl | h
       · exact g3.1
       · exact f6 d' h
   · cases h
theorem run_bsl0 (w : World) (t el : TypeId) (len : Nat) (parts : Array (Nat × Value)) (cells : Array Value) (ie : TypeInfo) (z : Value)
 (hu : P.underlying t = some (.slice el)) (hie : P.info? el = some ie) (hz : ie.zero = some z) (hsmall : ¬ len * ie.size > 2 ^ 24)
 (h : Instr.fill (fun i=>some (i * ie.size,ie.size)) ((Array.range (len * ie.size)).map (z.cells[· % z.cells.size]!)) parts.toList = some cells) :
 (Instr.buildSlice t len parts).run P w = .ok (.slice (some ⟨w.heap.size,0,none⟩) len len) (w.alloc (.cells cells el)):=by
 by_cases hpos : len * ie.size = 0
 · rw [hpos] at h
   simp [Instr.buildSlice,run_underlying hu,sizeOf,typeInfo,hie,hpos,newRow]
   have h0 : ∀ f : Nat → Value,(Array.range 0).map f = #[]:=fun f=>by
    apply Array.eq_empty_of_size_eq_zero
    simp
   rw [h0] at h
   rw [h0,h]
   simp
 · exact run_buildSlice w t el len parts cells ie z hu hie hz hsmall hpos h
theorem ok_bsl (t : TypeId) (len : Nat) (parts : Array (Nat × Operand)) (hc : (parts.toList.map (·.2)).all opdOK = true) (h : bslO P true t len parts.toList e s nm = some (p,x,e',s')) (hp : p) (hn : lk nm s = none) : OpOK C ⟨dst,.buildSlice t len parts,ty,pos,af,gd⟩ e s x e' s':=by
 unfold bslO at h
 split at h
 · rename_i k hk
   obtain ⟨r,h1,h2⟩:=map_some4 h
   simp only [Prod.mk.injEq] at h2
   obtain ⟨rfl,rfl,rfl,rfl⟩:=h2
   obtain ⟨-,g3,g4,g5,g7⟩:=hp
   intro β a w inv K Q hK
   obtain ⟨el,hu,hs⟩:=elemSz_run hk
   unfold szOf at hs
   cases hi : P.info? el with
   | none=>rw [hi] at hs; cases hs
   | some i =>
    simp only [hi,Option.map_some,Option.some.injEq] at hs
    subst hs
    simp only [elemZ,hu,hi] at g3
    split at g3
    · rename_i z hz
      simp only [Bool.and_eq_true,beq_iff_eq,Nat.blt_eq] at g3
      obtain ⟨cells',xs,f1,f2,f3,f4,f5,f6⟩:=elems_ok inv i.size parts.toList 0 r.2 r.1 ((Array.range (len * i.size)).map (z.cells[· % z.cells.size]!)) hc h1 g7 (by simp [g4])
      simp only [Nat.zero_mul,List.take_zero,List.nil_append] at f2
      have hm : (parts.map fun (ix : Nat × Operand)=>(ix.1,a.eval ix.2)).toList = parts.toList.map fun ix=>(ix.1,a.eval ix.2):=by simp
      have hrun:=run_bsl0 (P:=P) w t el len (parts.map fun (ix : Nat × Operand)=>(ix.1,a.eval ix.2)) cells' i z hu hi hz (by omega) (by rw [hm]; exact f1)
      have hv : ∀ b,blk (.slice (some ⟨w.heap.size,0,none⟩) len len) = some b → b = w.heap.size:=fun b hb=>by simpa [blk] using hb.symm
      have inv2:=inv.new (.cells cells' el) (.slice (some ⟨w.heap.size,0,none⟩) len len) (.row i.size r.2) hv hn (by
       refine ⟨g3.2,f6,el,xs,?_,?_,f5⟩
       · rw [bset_same, ← g4]
         refine ⟨f3,.inr ⟨w.heap.size,r.2.length,cells',rfl,Nat.zero_le _,heap_alloc_new w _,Nat.le_refl _,?_,?_,?_⟩⟩
         · have : r.2.length ≤ r.2.length * i.size:=Nat.le_mul_of_pos_right _ g3.2
           rw [g4] at this ⊢
           simp only [maxLen]; omega
         · rw [← Array.length_toList,f2,f3]
         · rw [f2, ← f3,List.take_length]
       · have hx:=ext_alloc inv (.cells cells' el) (.slice (some ⟨w.heap.size,0,none⟩) len len) (.row i.size r.2) hv hn
         exact f4.keep hx.heap hx.mutb)
      have hown:=Rp.own (w:=w.alloc (.cells cells' el)) (F:=C.F) (β := bset β nm (.slice (some ⟨w.heap.size,0,none⟩) len len)) (lk_cons_same nm (Box.row i.size r.2) s)
      rw [bset_same] at hown
      unfold Oper.wp execOp
      simp only [Sem.run_bind,hrun,Result.andThen_ok,Sem.run_pure]
      exact hK _ _ _ inv2 (fun h=>by cases h) hown
    · cases g3
 · cases h

theorem ok_call (c : Call) (hc : c.args.toList.all opdOK = true) (h : stepO P true ⟨dst,.call c,ty,pos,af,gd⟩ e s nm = some (p,x,e',s')) (hp : p) (hn : lk nm s = none) : OpOK C ⟨dst,.call c,ty,pos,af,gd⟩ e s x e' s':=by
 obtain ⟨cl,args,ats⟩:=c
 simp only [stepO,callO] at h
 split at h
 · unfold bltO at h
   split at h
   · exact ok_len args ats hc h hp
   · exact ok_app args ats hc h hp hn
   · cases h
 · cases h
end
end Go.Sw
namespace Go.Sw
open Go.RowKit

section
variable {P : Program} {N : Nat} {Γ : Gl} {C : Cx P N Γ} {dst : Option Tmp} {ty : TypeId} {pos : String} {af : Array Edge} {gd : Option (Nat × Bool)} {e e' : Env} {s s' : St} {x : SV} {p : Prop} {nm : Nat}

theorem getM_run {P : Program} {w : World} {r : Nat} {es : Array MapEntry} {cl : Nat} (hb : w.heap[r]? = some (.map es cl)) : (getObj r).run P w = .ok (.map es cl) w:=by
 simp [getObj,Sem.run,hb]
theorem putM_run {P : Program} {w : World} {r : Nat} {es : Array MapEntry} {cl : Nat} (o : Obj) (hb : w.heap[r]? = some (.map es cl)) : (setObj r o).run P w = .ok () { w with heap:=w.heap.setIfInBounds r o }:=by
 simp [setObj,Sem.run,hb]
theorem heap_other (w : World) (b : Nat) (o : Obj) {b' : Nat} (h : b' ≠ b) : ({ w with heap:=w.heap.setIfInBounds b o } : World).heap[b']? = w.heap[b']? := by
 simp [Ne.symm h]
theorem InvB.setMp {β : Nat → Value} {a : Act} {w : World} (inv : InvB C β e s a w) {i b : Nat} {M M' : List (Value × Value)} (hl : lk i s = some (.mp M)) (hb : β i = .map (some b)) (h1 : ∀ q ∈ M',q.2.oneCell' = true) :
 InvB C β e (put i (.mp M') s) a { w with heap:=w.heap.setIfInBounds b (.map (entsOf 0 M').toArray M'.length) }:=by
 obtain ⟨b0,hb0,hh, -⟩:=inv.wr.boxes i _ hl
 obtain rfl : b = b0:=by rw [hb] at hb0; simpa using hb0
 have hlt : b < w.heap.size:=(Array.getElem?_eq_some_iff.1 hh).1
 have hmut : Mut C.F β s b:=.inr ⟨i,_,hl,by rw [hb]; rfl⟩
 have other : ∀ b',b' ≠ b → ({ w with heap:=w.heap.setIfInBounds b (.map (entsOf 0 M').toArray M'.length) } : World).heap[b']? = w.heap[b']? := fun b' h=>heap_other w b _ h
 have hx : Ext (fun _=>false) C.F w β s { w with heap:=w.heap.setIfInBounds b (.map (entsOf 0 M').toArray M'.length) } β (put i (.mp M') s):=by
  refine ⟨fun b' _ hm=>other b' (fun h=>hm (h ▸ hmut)),fun b' _ hm=>?_,fun j cs1 _ h=>?_,fun j k L _ h=>?_,fun j M1 _ h=>?_⟩
  · rcases hm with h | ⟨j,bx,h2,h3⟩
    · exact .inl h
    · by_cases hj : j = i
      · subst hj; exact .inr ⟨j,_,hl,h3⟩
      · rw [lk_put_ne _ hj] at h2
        exact .inr ⟨j,bx,h2,h3⟩
  · have hj : j ≠ i:=fun q=>by subst q; rw [hl] at h; cases h
    exact ⟨rfl,cs1,by rw [lk_put_ne _ hj]; exact h⟩
  · have hj : j ≠ i:=fun q=>by subst q; rw [hl] at h; cases h
    exact ⟨rfl,L,by rw [lk_put_ne _ hj]; exact h,Nat.le_refl _⟩
  · by_cases hj : j = i
    · subst hj; exact ⟨rfl,M',lk_put_same _ _ _⟩
    · exact ⟨rfl,M1,by rw [lk_put_ne _ hj]; exact h⟩
 refine inv.step0 hx ⟨?_,?_,?_,?_⟩ ⟨inv.since.os,inv.since.tape,inv.since.output,?_,?_,?_,?_,?_⟩ (by simp) ?_ ?_
 · intro j bx h
   by_cases hj : j = i
   · subst hj
     rw [lk_put_same] at h
     cases h
     exact ⟨b,hb,by simp [hlt],h1⟩
   · rw [lk_put_ne _ hj] at h
     refine (inv.wr.boxes j bx h).keep hx rfl (fun b' hb'=>other b' fun he=>?_)
     subst he
     exact hj (inv.wr.inj j i bx _ _ h hl hb' (by rw [hb]; rfl))
 · intro j k b1 b2 b' h1 h2 h3 h4
   have get : ∀ j b1,lk j (put i (.mp M') s) = some b1 → ∃ b2,lk j s = some b2:=fun j b1 h=>by
    by_cases hj : j = i
    · subst hj; exact ⟨_,hl⟩
    · rw [lk_put_ne _ hj] at h; exact ⟨_,h⟩
   obtain ⟨c1,g1⟩:=get j b1 h1
   obtain ⟨c2,g2⟩:=get k b2 h2
   exact inv.wr.inj j k c1 c2 b' g1 g2 h3 h4
 · intro j bx b' h h2
   by_cases hj : j = i
   · subst hj; exact inv.wr.apart j _ b' hl h2
   · rw [lk_put_ne _ hj] at h; exact inv.wr.apart j _ b' h h2
 · intro b' h
   have:=inv.wr.low b' h
   simpa using this
 · simpa using inv.since.size
 · intro b' hlt h
   rw [other b' fun he=>?_]
   · exact inv.since.heap b' hlt h
   · subst he
     rcases inv.since.boxes i _ b' hl (by rw [hb]; rfl) with h2 | ⟨j,bj,h2,h3⟩
     · omega
     · exact h j bj h2 h3
 · intro j bx b' h h2
   by_cases hj : j = i
   · subst hj; exact inv.since.boxes j _ b' hl h2
   · rw [lk_put_ne _ hj] at h; exact inv.since.boxes j _ b' h h2
 · intro j c1 c2 h h2
   by_cases hj : j = i
   · subst hj; rw [lk_put_same] at h2; cases h2
   · rw [lk_put_ne _ hj] at h2; exact inv.since.cells j c1 c2 h h2
 · intro j bx h
   by_cases hj : j = i
   · subst hj; rw [lk_put_same]; simp
   · rw [lk_put_ne _ hj]; exact inv.since.keep j bx h
 · intro b' hlt
   refine other b' fun he=>?_
   subst he
   have:=inv.base i _ b' hl (by rw [hb]; rfl)
   omega
 · intro j bx b' h h2
   by_cases hj : j = i
   · subst hj; exact inv.base j _ b' hl h2
   · rw [lk_put_ne _ hj] at h; exact inv.base j _ b' h h2

/-! ### Entries -/
theorem ents_get : ∀ (l : List (Value × Value)) (n j : Nat),(entsOf n l)[j]? = (l[j]?).map fun q=>⟨q.1,q.2,n + j⟩
 | [],n,j=>by simp [entsOf]
 | (k,v) :: l,n,0=>by simp [entsOf]
 | (k,v) :: l,n,j + 1=>by
  simp only [entsOf,List.getElem?_cons_succ,ents_get l (n + 1) j]
  rw [show n + 1 + j = n + (j + 1) by omega]
theorem ents_push (l : List (Value × Value)) (k v : Value) : (entsOf 0 (l ++ [(k,v)])) = entsOf 0 l ++ [⟨k,v,l.length⟩]:=by
 apply List.ext_getElem?
 intro j
 rw [ents_get]
 by_cases h : j < l.length
 · rw [List.getElem?_append_left h,List.getElem?_append_left (by rw [ents_len]; exact h),ents_get]
 · rw [List.getElem?_append_right (by omega),List.getElem?_append_right (by rw [ents_len]; omega),ents_len]
   by_cases h2 : j = l.length
   · subst h2; simp
   · rw [List.getElem?_eq_none (by simp; omega),List.getElem?_eq_none (by simp; omega)]; rfl
theorem ents_set (l : List (Value × Value)) (i : Nat) (f : MapEntry → MapEntry) (q : Value × Value) (h : ∀ p,l[i]? = some p → f ⟨p.1,p.2,i⟩ = ⟨q.1,q.2,i⟩) : (entsOf 0 l).toArray.modify i f = (entsOf 0 (l.set i q)).toArray:=by
 apply Array.ext'
 apply List.ext_getElem?
 intro j
 rw [ents_get,List.getElem?_set]
 simp only [Array.toList_modify,List.getElem?_modify]
 rw [ents_get]
 by_cases hj : i = j
 · subst hj
   simp only [if_true,Nat.zero_add]
   cases hl : l[i]? with
   | none =>
    have : ¬ i < l.length:=by
     have:=List.getElem?_eq_none_iff.1 hl
     omega
    simp [this]
   | some p =>
    have hlt:=(List.getElem?_eq_some_iff.1 hl).1
    simp [hlt,h p hl]
 · simp [hj]
theorem findM_at {k : Value} : ∀ {l : List (Value × Value)} {n i : Nat} {v : Value},findM k l n = some (i,v) → ∃ j k',i = n + j ∧ l[j]? = some (k',v) ∧ keq k k' = true
 | (k',v') :: l,n,i,v,h=>by
  unfold findM at h
  cases hb : keq k k' with
  | true =>
   rw [hb,cond_true] at h
   simp only [Option.some.injEq,Prod.mk.injEq] at h
   obtain ⟨rfl,rfl⟩:=h
   exact ⟨0,k',rfl,rfl,hb⟩
  | false =>
   rw [hb,cond_false] at h
   obtain ⟨j,k2,h1,h2,h3⟩:=findM_at h
   exact ⟨j + 1,k2,by omega,by simpa using h2,h3⟩
theorem setM_found {k x : Value} : ∀ {l : List (Value × Value)} {n i : Nat} {v : Value},findM k l n = some (n + i,v) → ∃ k',l[i]? = some (k',v) ∧ keq k k' = true ∧ setM k x l = l.set i (k',x)
 | (k',v') :: l,n,i,v,h=>by
  unfold findM at h
  unfold setM
  cases hb : keq k k' with
  | true =>
   rw [hb,cond_true] at h
   simp only [Option.some.injEq,Prod.mk.injEq] at h
   obtain ⟨h1,rfl⟩:=h
   obtain rfl : i = 0:=by omega
   exact ⟨k',rfl,hb,by simp⟩
  | false =>
   rw [hb,cond_false] at h
   obtain ⟨j,k2,h1,h2,h3⟩:=findM_at h
   obtain rfl : i = j + 1:=by omega
   obtain ⟨k3,g1,g2,g3⟩:=setM_found (x:=x) (i:=j) (by rw [h,h1])
   exact ⟨k3,by simpa using g1,g2,by simp [g3]⟩
theorem setM_none {k x : Value} : ∀ {l : List (Value × Value)} {n : Nat},findM k l n = none → setM k x l = l ++ [(k,x)]
 | [],n,h=>rfl
 | (k',v') :: l,n,h=>by
  unfold findM at h
  unfold setM
  cases hb : keq k k' with
  | true=>rw [hb] at h; cases h
  | false =>
   rw [hb,cond_false] at h
   simp [setM_none h]
theorem setM_one {k x : Value} (hx : x.oneCell' = true) : ∀ {l : List (Value × Value)},(∀ q ∈ l,q.2.oneCell' = true) → ∀ q ∈ setM k x l,q.2.oneCell' = true
 | [],h,q,hq=>by
  simp [setM] at hq; subst hq; exact hx
 | (k',v') :: l,h,q,hq=>by
  unfold setM at hq
  cases hb : keq k k' with
  | true =>
   rw [hb,cond_true] at hq
   rcases List.mem_cons.1 hq with rfl | hq
   · exact hx
   · exact h q (by simp [hq])
  | false =>
   rw [hb,cond_false] at hq
   rcases List.mem_cons.1 hq with rfl | hq
   · exact h _ (by simp)
   · exact setM_one hx (fun q hq=>h q (by simp [hq])) q hq

/-! ### The operations -/
theorem zero_run {et : TypeId} {z : Value} (h : zeroS P et = some (.d (.v z))) (w : World) : (zeroValue et).run P w = .ok z w:=by
 unfold zeroS at h
 cases hi : P.info? et with
 | none=>rw [hi] at h; cases h
 | some i =>
  rw [hi] at h
  cases hz : i.zero with
  | none=>simp [hz] at h
  | some z0 =>
   simp only [Option.bind_some,hz] at h
   cases hc : constOK z0 with
   | false=>rw [hc] at h; cases h
   | true =>
    rw [hc,cond_true,Option.some.injEq] at h
    have : z0 = z:=by
     unfold ofV at h
     split at h
     · cases h
     · cases h
     · cases h
     · simpa using h
    subst this
    simp [zeroValue,typeInfo,hi,hz]
theorem mapOf_run {t kt : TypeId} {z : Value} (h : mapOf P t = some (kt,z)) : ∃ et,P.underlying t = some (.map kt et) ∧ zeroS P et = some (.d (.v z)) ∧ z.oneCell' = true:=by
 unfold mapOf at h
 split at h
 · rename_i kt' et hu
   split at h
   · rename_i z' hz
     cases ho : z'.oneCell' with
     | false=>rw [ho] at h; cases h
     | true =>
      rw [ho,cond_true] at h
      simp only [Option.some.injEq,Prod.mk.injEq] at h
      obtain ⟨rfl,rfl⟩:=h
      exact ⟨et,hu,hz,ho⟩
   · cases h
 · cases h
theorem valV_rp {w : World} {F : Nat → Prop} {β : Nat → Value} {y : SV} {u kv : Value} (h : valV y = some kv) (hr : Rp w F β s (.s y u)) : u = kv:=by
 have agg : ∀ cs,aggOf y = some cs → (leavesV cs).map (fun us=>Value.agg us.toArray) = some kv → u = kv:=fun cs h1 h2=>by
  obtain ⟨us,h3,h4⟩:=Option.map_eq_some_iff.1 h2
  subst h4
  unfold aggOf at h1
  split at h1
  · rename_i cs'
    cases h1
    cases hr with
    | agg hr=>rw [leavesV_rp h3 hr]
  · rename_i cs'
    cases h1
    cases hr with
    | d hr =>
     cases hr with
     | agg hr=>rw [leavesV_rp h3 (ds_ss hr)]
  · cases h1
 unfold valV at h
 split at h
 · rename_i v
   simp only [Option.some.injEq] at h
   subst h
   exact rp_leaf hr
 · split at h
   · rename_i cs hcs
     exact agg cs hcs h
   · cases h
theorem mp_rp {β : Nat → Value} {a : Act} {w : World} (inv : InvB C β e s a w) {i : Nat} {M : List (Value × Value)} {u : Value} (hl : lk i s = some (.mp M)) (hr : Rp w C.F β s (.s (.mp i) u)) : ∃ b,u = .map (some b) ∧ β i = .map (some b) ∧ w.heap[b]? = some (.map (entsOf 0 M).toArray M.length) ∧ ∀ q ∈ M,q.2.oneCell' = true:=by
 cases hr with
 | mp _ =>
  obtain ⟨b,h1,h2,h3⟩:=inv.wr.boxes i _ hl
  exact ⟨b,h1,h1,h2,h3⟩
theorem ok_makeMap (t : TypeId) (h : stepO P true ⟨dst,.makeMap t none,ty,pos,af,gd⟩ e s nm = some (p,x,e',s')) (hp : p) (hn : lk nm s = none) : OpOK C ⟨dst,.makeMap t none,ty,pos,af,gd⟩ e s x e' s':=by
 simp only [stepO] at h
 obtain ⟨rfl,rfl,rfl,rfl⟩:=some4 h
 intro β a w inv K Q hK
 have hv : ∀ b,blk (.map (some w.heap.size)) = some b → b = w.heap.size:=fun b hb=>by simpa [blk] using hb.symm
 have inv2:=inv.new (.map #[] 0) (.map (some w.heap.size)) (.mp []) hv hn ⟨w.heap.size,bset_same _ _ _,by rw [heap_alloc_new w _]; rfl,fun q hq=>by cases hq⟩
 have hown:=Rp.mp (w:=w.alloc (.map #[] 0)) (F:=C.F) (β := bset β nm (.map (some w.heap.size))) (lk_cons_same nm (Box.mp []) s)
 rw [bset_same] at hown
 unfold Oper.wp execOp
 have hrun : (Instr.makeMap t none).run P w = .ok (.map (some w.heap.size)) (w.alloc (.map #[] 0)):=by
  simp [Instr.makeMap,Result.andThen]
 simp only [Option.map_none,Sem.run_bind,hrun,Result.andThen_ok,Sem.run_pure]
 exact hK _ _ _ inv2 (fun h=>by cases h) hown
theorem ok_lookup (t : TypeId) (y z : Operand) (ok : Bool) (hy : opdOK y = true) (hz : opdOK z = true) (h : stepO P true ⟨dst,.lookup t y z ok,ty,pos,af,gd⟩ e s nm = some (p,x,e',s')) (hp : p) : OpOK C ⟨dst,.lookup t y z ok,ty,pos,af,gd⟩ e s x e' s':=by
 simp only [stepO] at h
 split at h
 · rename_i kt zv i kv hm hy1 hz1
   split at h
   · rename_i M hM
     obtain ⟨rfl,rfl,rfl,rfl⟩:=some4 h
     obtain ⟨g1,g2,g3⟩:=hp
     obtain ⟨g4,g5, -⟩:=g3 trivial
     refine ok_same fun β a w inv=>?_
     have hq:=opn_rp (val_rp inv y hy) g1
     rw [hy1] at hq
     obtain ⟨b,hv, -,hh,hone⟩:=mp_rp inv hM hq
     have hk:=valV_rp hz1 (opn_rp (val_rp inv z hz) g2)
     obtain ⟨et,hu,hzr,hzo⟩:=mapOf_run hm
     have hrun : (Instr.lookup t (.map (some b)) kv ok).run P w = .ok (if ok then .tuple #[((findM kv M 0).map (·.2)).getD zv,.bool (findM kv M 0).isSome] else ((findM kv M 0).map (·.2)).getD zv) w:=by
      have hgo:=getM_run (P:=P) hh
      simp only [Instr.lookup,Sem.run_bind,run_underlying hu,Result.andThen_ok,hgo,Sem.run_pure,g4]
      rw [g5]
      cases hf : findM kv M 0 with
      | none=>cases ok <;> simp only [Result.andThen_ok,Sem.run_bind,zero_run hzr w,Sem.run_pure] <;> rfl
      | some q=>obtain ⟨j,v⟩:=q; cases ok <;> simp only [Result.andThen_ok,Sem.run_bind,Sem.run_pure] <;> rfl
     refine ⟨if ok then .tuple #[((findM kv M 0).map (·.2)).getD zv,.bool (findM kv M 0).isSome] else ((findM kv M 0).map (·.2)).getD zv,by simp only [execOp,Sem.run_bind,hv,hk,hrun,Result.andThen_ok,Sem.run_pure],?_⟩
     unfold lookO
     cases hf : findM kv M 0 with
     | none =>
      cases ok with
      | true=>exact .tup (us:=[zv,.bool false]) (.ssc (.d (.v _ hzo)) (.ssc (.d (.v _ rfl)) .ssn))
      | false=>exact .d (.v _ hzo)
     | some q =>
      obtain ⟨j,v⟩:=q
      obtain ⟨j',k', -,hj, -⟩:=findM_at hf
      have hvo : v.oneCell' = true:=hone _ (List.mem_of_getElem? hj)
      cases ok with
      | true=>exact .tup (us:=[v,.bool true]) (.ssc (.d (.v _ hvo)) (.ssc (.d (.v _ rfl)) .ssn))
      | false=>exact .d (.v _ hvo)
   · cases h
 · cases h
theorem mem_keys {k' v : Value} {M : List (Value × Value)} {j : Nat} (h : M[j]? = some (k',v)) : k' ∈ M.map (·.1):=List.mem_map.2 ⟨_,List.mem_of_getElem? h,rfl⟩
theorem upd_run {t kt : TypeId} {z : Value} (hm : mapOf P t = some (kt,z)) {b : Nat} {M : List (Value × Value)} {kv yv : Value} (hk : KeyOK P kt kv M) {w : World} (hh : w.heap[b]? = some (.map (entsOf 0 M).toArray M.length)) :
 (Instr.mapUpdate t (.map (some b)) kv yv).run P w = .ok () { w with heap:=w.heap.setIfInBounds b (.map (entsOf 0 (setM kv yv M)).toArray (setM kv yv M).length) }:=by
 obtain ⟨g4,g5,g6⟩:=hk
 obtain ⟨et,hu,hzr,hzo⟩:=mapOf_run hm
 have hgo:=getM_run (P:=P) hh
 simp only [Instr.mapUpdate,Sem.run_bind,run_underlying hu,Result.andThen_ok,hgo,g4]
 rw [g5]
 cases hf : findM kv M 0 with
 | none =>
  simp only [Result.andThen_ok,Sem.run_bind,putM_run (P:=P) _ hh]
  rw [setM_none hf,ents_push]
  simp
 | some q =>
  obtain ⟨j,v⟩:=q
  obtain ⟨k',h1,h2,h3⟩:=setM_found (x:=yv) (n:=0) (i:=j) (by rw [Nat.zero_add]; exact hf)
  have e1 : ((entsOf 0 M).toArray[j]?.map (·.key)).getD kv = k':=by
   have : (entsOf 0 M).toArray[j]? = (entsOf 0 M)[j]? := by simp
   rw [this,ents_get,h1]; rfl
  have hlt:=(List.getElem?_eq_some_iff.1 h1).1
  simp only [Result.andThen_ok,Sem.run_bind,e1,g6 w k' (mem_keys h1) h2,putM_run (P:=P) _ hh]
  rw [h3,ents_set M j _ (k',yv) (fun p hp=>rfl),List.length_set]
theorem ok_upd (op : Op) (t : TypeId) (y z u : Operand) (hop : op = .mapUpdate t y z u ∨ op = .insert t y z u) (hy : opdOK y = true) (hz : opdOK z = true) (hu' : opdOK u = true) (h : stepO P true ⟨dst,op,ty,pos,af,gd⟩ e s nm = some (p,x,e',s')) (hp : p) : OpOK C ⟨dst,op,ty,pos,af,gd⟩ e s x e' s':=by
 have hst : stepO P true ⟨dst,op,ty,pos,af,gd⟩ e s nm = match mapOf P t,opn (val e y),valV (opn (val e z)) with
  | some (kt,z'),.mp i,some kv=>match lk i s,opn (val e u) with
   | some (.mp M),.d (.v yv)=>some (true = true ∧ ok1 true (val e y) ∧ ok1 true (val e z) ∧ ok1 true (val e u) ∧ KeyOK P kt kv M,.junk,e,put i (.mp (setM kv yv M)) s)
   | _,_=>none
  | _,_,_=>none:=by
  rcases hop with rfl | rfl <;> rfl
 have hex : ∀ a : Act,execOp a.eval ⟨dst,op,ty,pos,af,gd⟩ = (do Instr.mapUpdate t (a.eval y) (a.eval z) (a.eval u); pure .skip):=fun a=>by
  rcases hop with rfl | rfl <;> rfl
 have hpu : pureOp op = false:=by rcases hop with rfl | rfl <;> rfl
 rw [hst] at h
 split at h
 · rename_i kt zv i kv hm hy1 hz1
   split at h
   · rename_i M yv hM hu1
     obtain ⟨rfl,rfl,rfl,rfl⟩:=some4 h
     obtain ⟨-,g1,g2,g3,g4⟩:=hp
     intro β a w inv K Q hK
     have hq:=opn_rp (val_rp inv y hy) g1
     rw [hy1] at hq
     obtain ⟨b,hv,hb,hh,hone⟩:=mp_rp inv hM hq
     have hk:=valV_rp hz1 (opn_rp (val_rp inv z hz) g2)
     have hur:=opn_rp (val_rp inv u hu') g3
     rw [hu1] at hur
     have hyv:=rp_leaf hur
     have hyo : yv.oneCell' = true:=by
      cases hur with
      | d hd=>cases hd with | v _ h1=>exact h1
     unfold Oper.wp
     rw [hex]
     simp only [Sem.run_bind,hv,hk,hyv,upd_run hm g4 hh,Result.andThen_ok,Sem.run_pure]
     exact hK β _ _ (inv.setMp hM hb (setM_one hyo hone)) (fun h=>by rw [show pureOp op = true from h] at hpu; cases hpu) .junk
   · cases h
 · cases h
theorem ok_mapEntry (t : TypeId) (y z : Operand) (hy : opdOK y = true) (hz : opdOK z = true) (h : stepO P true ⟨dst,.mapEntry t y z,ty,pos,af,gd⟩ e s nm = some (p,x,e',s')) (hp : p) : OpOK C ⟨dst,.mapEntry t y z,ty,pos,af,gd⟩ e s x e' s':=by
 simp only [stepO] at h
 split at h
 · rename_i kt zv i kv hm hy1 hz1
   split at h
   · rename_i M hM
     obtain ⟨rfl,rfl,rfl,rfl⟩:=some4 h
     obtain ⟨-,g1,g2,g4,g5,g6⟩:=hp
     intro β a w inv K Q hK
     have hq:=opn_rp (val_rp inv y hy) g1
     rw [hy1] at hq
     obtain ⟨b,hv,hb,hh,hone⟩:=mp_rp inv hM hq
     have hk:=valV_rp hz1 (opn_rp (val_rp inv z hz) g2)
     obtain ⟨et,hu,hzr,hzo⟩:=mapOf_run hm
     have hgo:=getM_run (P:=P) hh
     have hlist : (entsOf 0 M).toArray.toList = entsOf 0 M:=rfl
     have hone2 : ∀ q ∈ entM kv zv M (findM kv M 0),q.2.oneCell' = true:=by
      unfold entM
      split
      · exact hone
      · intro q hq
        rcases List.mem_append.1 hq with hq | hq
        · exact hone q hq
        · simp at hq; subst hq; exact hzo
     have hinv:=inv.setMp hM hb hone2
     unfold Oper.wp
     have hrun : ∃ v,(Instr.mapEntry t (.map (some b)) kv).run P w = .ok v { w with heap:=w.heap.setIfInBounds b (.map (entsOf 0 (entM kv zv M (findM kv M 0))).toArray (entM kv zv M (findM kv M 0)).length) } ∧
      ∀ w' F β s,Rp w' F β s (.s (entO zv M.length (findM kv M 0)) v):=by
      simp only [Instr.mapEntry,Sem.run_bind,run_underlying hu,Result.andThen_ok,hgo,g4]
      rw [g5]
      cases hf : findM kv M 0 with
      | none =>
       refine ⟨.tuple #[zv,goInt M.length],?_,fun w' F β s=>.tup (us:=[zv,goInt M.length]) (.ssc (.d (.v _ hzo)) (.ssc (.d (.v _ rfl)) .ssn))⟩
       simp only [Result.andThen_ok,Sem.run_bind,zero_run hzr w,putM_run (P:=P) _ hh,Sem.run_pure,entM]
       rw [ents_push]
       simp
      | some q =>
       obtain ⟨j,v⟩:=q
       obtain ⟨k',h1,h2, -⟩:=setM_found (x:=v) (n:=0) (i:=j) (by rw [Nat.zero_add]; exact hf)
       have hat : (entsOf 0 M).toArray[j]? = some ⟨k',v,j⟩:=by
        have : (entsOf 0 M).toArray[j]? = (entsOf 0 M)[j]? := by simp
        rw [this,ents_get,h1]; simp
       have hvo : v.oneCell' = true:=hone _ (List.mem_of_getElem? h1)
       refine ⟨.tuple #[v,goInt j],?_,fun w' F β s=>.tup (us:=[v,goInt j]) (.ssc (.d (.v _ hvo)) (.ssc (.d (.v _ rfl)) .ssn))⟩
       simp only [Result.andThen_ok,Sem.run_bind,hat,Option.map_some,Option.getD_some,g6 w k' (mem_keys h1) h2,putM_run (P:=P) _ hh,Sem.run_pure,entM]
       rw [ents_set M j _ (k',v) (fun p hp=>by rw [h1] at hp; obtain rfl:=Option.some.inj hp; rfl)]
       have hset : M.set j (k',v) = M:=by
        apply List.ext_getElem?
        intro i'
        rw [List.getElem?_set]
        split
        · rename_i hi; subst hi
          rw [h1]
          simp [(List.getElem?_eq_some_iff.1 h1).1]
        · rfl
       rw [hset]
     obtain ⟨v,hr,hv2⟩:=hrun
     simp only [execOp,Sem.run_bind,hv,hk,hr,Result.andThen_ok,Sem.run_pure]
     exact hK β _ _ hinv (fun h=>by cases h) (hv2 _ _ _ _)
   · cases h
 · cases h
theorem ok_entryStore (t : TypeId) (y z u : Operand) (hy : opdOK y = true) (hz : opdOK z = true) (hu' : opdOK u = true) (h : stepO P true ⟨dst,.entryStore t y z u,ty,pos,af,gd⟩ e s nm = some (p,x,e',s')) (hp : p) : OpOK C ⟨dst,.entryStore t y z u,ty,pos,af,gd⟩ e s x e' s':=by
 simp only [stepO] at h
 split at h
 · rename_i i kk j yv hy1 hz1 hu1
   split at h
   · rename_i M hM
     obtain ⟨rfl,rfl,rfl,rfl⟩:=some4 h
     obtain ⟨-,g1,g2,g3,g4,g5⟩:=hp
     intro β a w inv K Q hK
     have hq:=opn_rp (val_rp inv y hy) g1
     rw [hy1] at hq
     obtain ⟨b,hv,hb,hh,hone⟩:=mp_rp inv hM hq
     have hzr:=opn_rp (val_rp inv z hz) g2
     rw [hz1] at hzr
     have hzv:=rp_leaf hzr
     have hur:=opn_rp (val_rp inv u hu') g3
     rw [hu1] at hur
     have hyv:=rp_leaf hur
     have hyo : yv.oneCell' = true:=by
      cases hur with
      | d hd=>cases hd with | v _ h1=>exact h1
     have hgo:=getM_run (P:=P) hh
     obtain ⟨n,rfl⟩ : ∃ n : Nat,j = (n : Int):=⟨j.toNat,by omega⟩
     have hn : n < M.length:=by omega
     obtain ⟨q,hq2⟩ : ∃ q,M[n]? = some q:=⟨M[n],by simp [hn]⟩
     have hfind : (entsOf 0 M).toArray.findIdx? (fun e=>(e.born : Int) == (n : Int)) = some n:=by
      rw [List.findIdx?_toArray]
      rw [List.findIdx?_eq_some_iff_getElem]
      refine ⟨by rw [ents_len]; exact hn,?_,fun j hj=>?_⟩
      · have h1 : (entsOf 0 M)[n]? = some ⟨q.1,q.2,n⟩:=by rw [ents_get,hq2]; simp
        have h2:=(List.getElem?_eq_some_iff.1 h1).2
        rw [h2]; simp
      · have hjl : j < M.length:=by omega
        have h1 : (entsOf 0 M)[j]? = some ⟨M[j].1,M[j].2,j⟩:=by rw [ents_get]; simp [hjl]
        have h2:=(List.getElem?_eq_some_iff.1 h1).2
        rw [h2]
        simp
        omega
     have hstM : stM n yv M = M.set n (q.1,yv):=by unfold stM; rw [hq2]
     have hone2 : ∀ r ∈ stM n yv M,r.2.oneCell' = true:=fun r hr=>by
      rw [hstM] at hr
      rcases List.mem_or_eq_of_mem_set hr with hr | rfl
      · exact hone r hr
      · exact hyo
     have hinv:=inv.setMp hM hb hone2
     unfold Oper.wp
     simp only [execOp,Instr.entryStore,asInt,asIntOf,Sem.run_bind,hv,hzv,hyv,hgo,Result.andThen_ok,Sem.run_pure,hfind,putM_run (P:=P) _ hh]
     rw [ents_set M n _ (q.1,yv) (fun p hp=>by rw [hq2] at hp; obtain rfl:=Option.some.inj hp; rfl),Int.toNat_natCast] at *
     rw [hstM,List.length_set] at hinv
     rw [hstM] at hK
     exact hK β _ _ hinv (fun h=>by cases h) .junk
   · cases h
 · cases h
end
end Go.Sw
