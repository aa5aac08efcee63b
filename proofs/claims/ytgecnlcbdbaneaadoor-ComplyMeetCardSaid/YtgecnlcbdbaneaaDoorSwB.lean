/- A symbolic walk: lists of operations, code, loops. -/
import Derived.Test.YtgecnlcbdbaneaaDoorSwA
import Derived.Scope
set_option linter.unusedVariables false
set_option linter.unusedSimpArgs false
namespace Go.Sw
open Go.RowKit
open _root_.Bool renaming and_eq_true → za, noConfusion → zh

section
variable {P : Program} {N : Nat} {Γ : Gl} {C : Cx P N Γ}

theorem qu7 {o : Oper} {e e' : Env} {s s' : St} {x : SV} {p : Prop} {nm : Nat} (hn : lk nm s = none) (ho : o.op.operands.toList.all qc8 = true) (h : qb8 P true o e s nm = some (p,x,e',s')) (hp : p) : qw2 C o e s x e' s':=by
 obtain ⟨dst,op,ty,pos,af,gd⟩:=o
 cases op with
 | move y=>exact ok_move y (by simpa [Op.operands] using ho) h hp
 | assign y=>exact yc1 y (by simpa [Op.operands] using ho) h hp
 | pick c a b =>
  simp [Op.operands] at ho
  exact ok_pick c a b ho.1 ho.2.1 ho.2.2 h hp
 | alloc t=>exact yr5 t h hp hn
 | box t y=>exact ok_box t y (by simpa [Op.operands] using ho) h hp hn
 | load t y=>exact ok_load t y (by simpa [Op.operands] using ho) h hp
 | store t y z =>
  simp [Op.operands] at ho
  exact yo7 t y z ho.1 ho.2 h hp
 | nilCheck y=>exact xi0 y (by simpa [Op.operands] using ho) h hp
 | binOp op t y z t2 =>
  simp [Op.operands] at ho
  exact yr1 op t t2 y z ho.1 ho.2 h hp
 | fieldAddr t y f=>exact xe8 t y f (by simpa [Op.operands] using ho) h hp
 | indexAddr t y z =>
  simp [Op.operands] at ho
  exact xe3 t y z ho.1 ho.2 h hp
 | extract y i=>exact xv9 y i (by simpa [Op.operands] using ho) h hp
 | makeFunc fn first caps =>
  simp only [Op.operands,Array.toList_append,List.all_append,za] at ho
  exact xj2 fn first caps ho.2 h hp
 | call c=>exact ok_call c (by
  obtain ⟨cl,args,ats⟩:=c
  cases cl <;> simp_all [Op.operands,Call.operands]) h hp hn
 | unOp op t y=>exact ok_unOp op t y (by simpa [Op.operands] using ho) h hp
 | convert a b y=>exact xu2 a b y (by simpa [Op.operands] using ho) h hp
 | index t y z =>
  simp [Op.operands] at ho
  exact yt4 t y z ho.1 ho.2 h hp
 | slice t y lo hi mx =>
  simp only [Op.operands,Array.toList_append,List.all_append,za] at ho
  exact ok_slice t y lo hi mx (by simpa using ho.1.1.1) (by cases lo <;> simp_all [Option.toArray]) (by cases hi <;> simp_all [Option.toArray]) h hp
 | build t parts=>exact ys9 t parts (by simpa [Op.operands] using ho) h hp
 | buildSlice t len parts=>exact ok_bsl t len parts (by simpa [Op.operands] using ho) h hp hn
 | makeMap t r =>
  cases r with
  | none=>exact xt5 t h hp hn
  | some r=>cases h
 | lookup t y z ok =>
  simp [Op.operands] at ho
  exact yi6 t y z ok ho.1 ho.2 h hp
 | mapUpdate t y z u =>
  simp [Op.operands] at ho
  exact yv5 _ t y z u (.inl rfl) ho.1 ho.2.1 ho.2.2 h hp
 | insert t y z u =>
  simp [Op.operands] at ho
  exact yv5 _ t y z u (.inr rfl) ho.1 ho.2.1 ho.2.2 h hp
 | mapEntry t y z =>
  simp [Op.operands] at ho
  exact xk2 t y z ho.1 ho.2 h hp
 | entryStore t y z u =>
  simp [Op.operands] at ho
  exact vv1 t y z u ho.1 ho.2.1 ho.2.2 h hp
 | _=>cases h
theorem vb7 {o : Oper} {e e' : Env} {s s' : St} {x : SV} {p : Prop} (ho : o.op.operands.toList.all qc8 = true) (h : qb8 P true o e s = some (p,x,e',s')) (hp : p) : qw2 C o e s x e' s':=qu7 (lk_nx s) ho h hp

theorem xv6 {o : Oper} {e e' : Env} {s s' : St} {x : SV} {p : Prop} (h : qb8 P false o e s = some (p,x,e',s')) (hp : p) : e' = e ∧ s' = s:=by
 obtain ⟨dst,op,ty,pos,af,gd⟩:=o
 unfold qb8 at h
 simp only at h
 (repeat' split at h)
 all_goals (try unfold mkF at h)
 all_goals (try unfold slO at h)
 all_goals (try unfold vj8 xu0 at h)
 all_goals (try unfold vl6 at h)
 all_goals (try unfold bslO at h)
 all_goals ((repeat' split at h))
 all_goals (try unfold yv7 at h)
 all_goals (try unfold vo2 at h)
 all_goals ((repeat' split at h))
 all_goals first
  | (cases h; done)
  | (obtain ⟨r,h1,h2⟩:=qe1 h; simp only [Prod.mk.injEq] at h2; obtain ⟨rfl,rfl,rfl,rfl⟩:=h2; first | exact ⟨rfl,rfl⟩ | (have:=hp.1; simp at this))
  | (obtain ⟨rfl,rfl,rfl,rfl⟩:=qe9 h; first | exact ⟨rfl,rfl⟩ | (simp at hp; done) | (have:=hp.1; simp at this))

theorem xv2 {g : Bool} {o : Oper} {e e' : Env} {s s' : St} {x : SV} {p : Prop} (hpu : qd4 o.op = true) (h : qb8 P g o e s = some (p,x,e',s')) : s' = s:=by
 obtain ⟨dst,op,ty,pos,af,gd⟩:=o
 cases op
 all_goals first | exact zh (show false = true from hpu) | skip
 all_goals unfold qb8 at h
 all_goals simp only at h
 all_goals (try unfold mkF at h)
 all_goals (try unfold vl6 at h)
 all_goals (try unfold slO at h)
 case call c =>
  obtain ⟨cl,args,ats⟩:=c
  unfold vj8 at h
  simp only at h
  split at h
  · rename_i b
    cases b <;> first | exact zh (show false = true from hpu) | skip
    unfold xu0 yv7 at h
    simp only at h
    (repeat' split at h)
    all_goals first
     | (cases h; done)
     | (obtain ⟨r,h1,h2⟩:=qe1 h; simp only [Prod.mk.injEq] at h2; exact h2.2.2.2.symm)
     | exact (qe9 h).2.2.2.symm
  · cases h
 all_goals (repeat' split at h)
 all_goals first
  | (cases h; done)
  | (obtain ⟨r,h1,h2⟩:=qe1 h; simp only [Prod.mk.injEq] at h2; exact h2.2.2.2.symm)
  | exact (qe9 h).2.2.2.symm
def qk9 (dst : Option Tmp) (x : SV) (e : Env) : Env:=match dst with | some d=>put d x e | none=>e
theorem qr4 (l : Array Value) (d t : Nat) (v : Value) : (l.setIfInBounds d v).getD t undef = if d = t ∧ d < l.size then v else l.getD t undef:=by
 simp only [Array.getD_eq_getD_getElem?,Array.getElem?_setIfInBounds]
 by_cases h : d = t
 · subst h
   by_cases h2 : d < l.size
   · simp [h2]
   · simp [h2]
 · simp [h]
theorem qd1.put {β : Nat → Value} {e : Env} {s : St} {a : Act} {w : World} (inv : qd1 C β e s a w) (dst : Option Tmp) (hd : dst.all (fun d=>decide (d < N)) = true) {x : SV} {v : Value} (h : Rp w C.F β s (.s x v)) : qd1 C β (qk9 dst x e) s (a.put dst v) w:=by
 cases dst with
 | none=>exact inv
 | some d =>
  simp at hd
  refine ⟨inv.wr,inv.base,fun t y ht=>?_,by simp [Act.put,inv.size],inv.defers,inv.glob,inv.big,inv.since⟩
  simp only [qk9] at ht
  simp only [Act.put,qr4]
  by_cases hdt : d = t
  · subst hdt
    rw [qb3] at ht
    cases ht
    refine ⟨hd,?_⟩
    rw [if_pos ⟨rfl,by rw [inv.size]; exact hd⟩]
    exact h
  · rw [qb0 _ (Ne.symm hdt)] at ht
    rw [if_neg (fun h=>hdt h.1)]
    exact inv.env t y ht

def xg3 (e : Env) (ops : List Oper) (j : Nat) (want : Bool) : Option Bool :=
 match ops[j]? with
 | some oj=>match oj.dst with
  | some t=>match lk t e with
   | some (.d (.v (.bool b)))=>some (bif want then b else !b)
   | some (.grd h (.d (.v (.bool b))))=>some (h && (bif want then b else !b))
   | _=>none
  | none=>none
 | none=>none
theorem qx6 {β : Nat → Value} {e : Env} {s : St} {a : Act} {w : World} (inv : qd1 C β e s a w) {o : Oper} {ops : List Oper} {j : Nat} {want g : Bool} (ho : o.guard = some (j,want)) (h : xg3 e ops j want = some g) :
 Region.wanted o (yielded ops.toArray a.tmps) = g:=by
 unfold xg3 at h
 split at h
 · rename_i oj hj
   split at h
   · rename_i t ht
     have hget : ∀ x,lk t e = some x → a.tmps[t]? = some (a.tmps.getD t undef) ∧ Rp w C.F β s (.s x (a.tmps.getD t undef)):=fun x hx=>by
      obtain ⟨h1,h2⟩:=inv.env t x hx
      exact ⟨by have : t < a.tmps.size:=by rw [inv.size]; exact h1
                simp [this],h2⟩
     have hy : yielded ops.toArray a.tmps j = match a.tmps[t]? with | some (.bool b)=>some b | _=>none:=by
      simp [yielded,hj,ht]
      cases a.tmps[t]? <;> rfl
     simp only [Region.wanted,ho,hy]
     split at h
     · rename_i b hl
       obtain ⟨h1,h2⟩:=hget _ hl
       simp at h; subst h
       rw [vd9 h2] at h1
       rw [h1]
       cases want <;> cases b <;> rfl
     · rename_i q b hl
       obtain ⟨h1,h2⟩:=hget _ hl
       simp at h; subst h
       generalize hv : a.tmps.getD t undef = v at h1 h2
       cases h2 with
       | grdF=>rw [h1]; cases want <;> rfl
       | grdT h3 =>
        rw [h1,vd9 h3]
        cases want <;> cases b <;> rfl
     · cases h
   · cases h
 · cases h

def Stop (C : Cx P N Γ) (ops : List Oper) (l : List Oper) (e : Env) (s : St) (K : Exit → Env → St → Prop) : Prop :=
 ∀ β a w,qd1 C β e s a w → wpList P ops.toArray (fun ex a w => ∃ β e s,qd1 C β e s a w ∧ K ex e s) l a w

def qo0 (C : Cx P N Γ) (ops : List Oper) : List Oper → Env → St → (Exit → Env → St → Prop) → Prop
 | [],e,s,K=>K .normal e s
 | o :: rest,e,s,K =>
  match o.guard with
  | none=>match qb8 P true o e s with
   | some (p,x,e',s')=>p ∧ qo0 C ops rest (qk9 o.dst x e') s' K
   | none=>Stop C ops (o :: rest) e s K
  | some (j,want)=>match xg3 e ops j want with
   | some g=>match qb8 P g o e s with
    | some (p,x,e',s')=>p ∧ qo0 C ops rest (qk9 o.dst (.grd g x) e') s' K
    | none=>Stop C ops (o :: rest) e s K
   | none=>Stop C ops (o :: rest) e s K
def ve9 (N : Nat) (o : Oper) : Bool:=o.dst.all (fun d=>decide (d < N)) && o.op.operands.toList.all qc8
def qg5 (N : Nat) (l : List Oper) : Bool:=l.all (ve9 N)

theorem qh3 {ops : List Oper} : ∀ {l : List Oper} {e : Env} {s : St} {K : Exit → Env → St → Prop},qg5 N l = true → qo0 C ops l e s K → Stop C ops l e s K
 | [],e,s,K,_,h=>fun β a w inv=>⟨β,e,s,inv,h⟩
 | o :: rest,e,s,K,hB,h=>by
  simp only [qg5,List.all_cons,za,ve9] at hB
  obtain ⟨⟨hd,ho⟩,hB'⟩:=hB
  unfold qo0 at h
  split at h
  · rename_i hg
    split at h
    · rename_i p x e' s' hs
      obtain ⟨hp,h⟩:=h
      have ih:=qh3 (ops:=ops) hB' h
      intro β a w inv
      refine wpList_plain hg fun K' hK'=>vb7 ho hs hp β a w inv K' _ fun β' v w' inv' _ hr=>hK' _ _ (ih β' _ _ (inv'.put o.dst hd hr))
    · exact h
  · rename_i j want hg
    split at h
    · rename_i g hv
      split at h
      · rename_i p x e' s' hs
        obtain ⟨hp,h⟩:=h
        have ih:=qh3 (ops:=ops) hB' h
        intro β a w inv
        have hw:=qx6 inv hg hv
        cases g with
        | true =>
         refine wpList_step fun K' hK'=>?_
         rw [if_pos hw]
         exact vb7 ho hs hp β a w inv K' _ fun β' v w' inv' _ hr=>hK' _ _ (ih β' _ _ (inv'.put o.dst hd (.grdT hr)))
        | false =>
         obtain ⟨rfl,rfl⟩:=xv6 hs hp
         exact wpList_skip hw (ih β _ _ (inv.put o.dst hd .grdF))
      · exact h
    · exact h

/-! ### Code -/
def Swp (C : Cx P N Γ) (c : Code) (K : Exit → Env → St → Prop) (e : Env) (s : St) : Prop :=
 ∀ β a w,qd1 C β e s a w → c.wp P (fun ex a w => ∃ β e s,qd1 C β e s a w ∧ K ex e s) a w

variable {K : Exit → Env → St → Prop} {e : Env} {s : St}
theorem qg2 {id : Nat} {l : List Oper} (hB : qg5 N l = true) (h : ∀ K' : Exit → Env → St → Prop,(∀ e s,K .normal e s → K' .normal e s) → qo0 C l l e s K') : Swp C (.region id l.toArray false) K e s :=
 fun β a w inv=>wp_mono (wp_region_lit (qh3 hB (h (fun ex e s=>match ex with | .normal=>K .normal e s | _=>False) (fun e s h=>h)) β a w inv)) fun ex a w ⟨β,e,s,h1,h2⟩=>by
  cases ex with
  | normal=>exact ⟨β,e,s,h1,h2⟩
  | _=>exact h2.elim
def ym9 (C : Cx P N Γ) (b : Code) (K : Exit → Env → St → Prop) : Exit → Env → St → Prop
 | .normal,e,s=>Swp C b K e s
 | x,e,s=>K x e s
theorem ql8 {x y : Code} (h : Swp C x (ym9 C y K) e s) : Swp C (.seq x y) K e s:=fun β a w inv=>wp_seq (wp_mono (h β a w inv) fun ex a w ⟨β,e,s,h1,h2⟩=>by
 cases ex with
 | normal=>exact h2 β a w h1
 | _=>exact ⟨β,e,s,h1,h2⟩)
theorem qr8 (h : K .normal e s) : Swp C .skip K e s:=fun β a w inv=>wp_skip ⟨β,e,s,inv,h⟩
theorem qz2 {l : Nat} (h : K .normal e s) : Swp C (.label l) K e s:=fun β a w inv=>wp_label ⟨β,e,s,inv,h⟩
theorem vh7 {id : Nat} (h : K (.exit id) e s) : Swp C (.exit id) K e s:=fun β a w inv=>wp_exit ⟨β,e,s,inv,h⟩
theorem vw8 (h : K .ret e s) : Swp C .ret K e s:=fun β a w inv=>wp_ret ⟨β,e,s,inv,h⟩
def xu4 (id : Nat) (K : Exit → Env → St → Prop) : Exit → Env → St → Prop
 | .exit i,e,s=>if i = id then K .normal e s else K (.exit i) e s
 | x,e,s=>K x e s
theorem qz4 {id : Nat} {c : Code} (h : Swp C c (xu4 id K) e s) : Swp C (.block id c) K e s:=fun β a w inv=>wp_block (wp_mono (h β a w inv) fun ex a w ⟨β,e,s,h1,h2⟩=>by
 cases ex with
 | exit i =>
  simp only [Exit.inBlock]
  simp only [xu4] at h2
  split
  · rename_i hi; rw [if_pos hi] at h2; exact ⟨β,e,s,h1,h2⟩
  · rename_i hi; rw [if_neg hi] at h2; exact ⟨β,e,s,h1,h2⟩
 | _=>exact ⟨β,e,s,h1,h2⟩)
theorem qn6 {c : Operand} {x y : Code} (hk : qc8 c = true) (h : ∃ t,val e c = .d (.v (.bool t)) ∧ (t = true → Swp C x K e s) ∧ (t = false → Swp C y K e s)) : Swp C (.cond c x y) K e s:=fun β a w inv=>by
 obtain ⟨t,hc,h1,h2⟩:=h
 have hv:=vd9 (hc ▸ qb9 inv c hk)
 exact wp_cond_split hv (fun ht=>h1 ht β a w inv) (fun ht=>h2 ht β a w inv)

def Sub (C : Cx P N Γ) (e : Env) (s : St) (e' : Env) (s' : St) : Prop := ∀ β a w,qd1 C β e s a w → ∃ β',qd1 C β' e' s' a w
def yk6 (C : Cx P N Γ) {α : Type} (E : α → Env) (S : α → St) (I : α → Prop) (μ : α → Nat) (x : α) (K : Exit → Env → St → Prop) : Exit → Env → St → Prop
 | .normal,e,s => ∃ y,I y ∧ μ y < μ x ∧ Sub C e s (E y) (S y)
 | ex,e,s=>K ex e s
theorem qd3 {body : Code} {α : Type} (E : α → Env) (S : α → St) (I : α → Prop) (μ : α → Nat) (x0 : α) (h0 : I x0) (hs : Sub C e s (E x0) (S x0))
 (round : ∀ x,I x → Swp C body (yk6 C E S I μ x K) (E x) (S x)) : Swp C (.loop body) K e s:=by
 intro β a w inv
 obtain ⟨β0,inv0⟩:=hs β a w inv
 intro b k cs
 have key : ∀ n x β a w, μ x = n → I x → qd1 C β (E x) (S x) a w →
  ∃ ex a' w',(∃ β e s,qd1 C β e s a' w' ∧ K ex e s) ∧ Arrives P (lone (b.at a (.code body :: .inLoop body :: k)) cs w) b k cs ex a' w':=by
  intro n
  induction n using Nat.strongRecOn with
  | _ n ih =>
   intro x β a w hn hI inv
   obtain ⟨ex,a1,w1,⟨β1,e1,s1,i1,k1⟩,harr⟩:=round x hI β a w inv b (.inLoop body :: k) cs
   cases ex with
   | normal =>
    obtain ⟨y,hy,hlt,hsub⟩:=k1
    obtain ⟨β2,i2⟩:=hsub _ _ _ i1
    obtain ⟨ex2,a2,w2,hq2,harr2⟩:=ih (μ y) (hn ▸ hlt) y β2 a1 w1 rfl hy i2
    exact ⟨ex2,a2,w2,hq2,.of_steps (Steps.trans harr (.one step_inLoop)) harr2⟩
   | exit id=>exact ⟨_,a1,w1,⟨β1,e1,s1,i1,k1⟩,.pass (x:=.inLoop body) rfl (fun _ _=>.inl (by simp)) harr⟩
   | goto l=>exact ⟨_,a1,w1,⟨β1,e1,s1,i1,k1⟩,.pass (x:=.inLoop body) rfl (fun _ _=>.inl (by simp)) harr⟩
   | ret=>exact ⟨_,a1,w1,⟨β1,e1,s1,i1,k1⟩,.pass (x:=.inLoop body) rfl (fun _ _=>.inl (by simp)) harr⟩
   | panic ch=>exact ⟨_,a1,w1,⟨β1,e1,s1,i1,k1⟩,.pass (x:=.inLoop body) rfl (fun _ _=>.inl (by simp)) harr⟩
   | outgrown=>exact ⟨_,a1,w1,⟨β1,e1,s1,i1,k1⟩,.pass (x:=.inLoop body) rfl (fun _ _=>.inl (by simp)) harr⟩
 obtain ⟨ex,a',w',hq,harr⟩:=key _ x0 β0 a w rfl h0 inv0
 exact ⟨ex,a',w',hq,.of_steps (.one step_loop) harr⟩
end
end Go.Sw
namespace Go.Sw
open Go.RowKit

section
variable {P : Program} {N : Nat} {Γ : Gl} {C : Cx P N Γ}

/-! ### Functions of plain data -/
def xx5 (P : Program) (f : FuncId) : Bool := match P.funcs[f]? with | some fn => !(fn.name == "runtime.NumGoroutine") && fn.body.isSome | none => false
def DFn (P : Program) (Γ : Gl) (f : FuncId) (args : List D) (ret : D) : Prop :=
 xx5 P f = true ∧ ∀ (F : Nat → Prop) (w : World) (us : List Value), Γ.G w → Γ.NG ≤ w.heap.size → (∀ b,F b → Γ.NG ≤ b ∧ b < w.heap.size) → RpD w F (.ds args us) →
  Calls P f us.toArray w fun e w' => ∃ v,e = .returned v ∧ Below w.heap.size w w' ∧ RpD w' F (.d ret v)

def GD (P : Program) (Γ : Gl) (k : Nat) (t : TypeId) (d : D) : Prop := ∀ w, Γ.G w → ∃ u,(Instr.loadAt t (.pointer (some ⟨k,0,none⟩))).run P w = .ok u w ∧ RpD w (fun b => Γ.NG ≤ b) (.d d u)
theorem yv3 {k : Nat} {t : TypeId} {dst : Option Tmp} {ty : TypeId} {pos : String} {af : Array Edge} {gd : Option (Nat × Bool)} {a : Act} {w : World} {u : Value} (h : (Instr.loadAt t (.pointer (some ⟨k,0,none⟩))).run P w = .ok u w) :
 (execOp a.eval ⟨dst,.load t (.global k),ty,pos,af,gd⟩).run P w = .ok (.value u) w:=by
 simp only [execOp,Act.eval,Sem.run_bind,h]
 rfl
theorem qp0 {f : FuncId} {dst : Option Tmp} {args : Array Operand} {ats : Array TypeId} {ty : TypeId} {pos : String} {af : Array Edge} {gd : Option (Nat × Bool)} (hf : xx5 P f = true) (a : Act) (w : World) :
 (execOp a.eval ⟨dst,.call ⟨.value (.func f),args,ats⟩,ty,pos,af,gd⟩).run P w = .ok (.enter f (args.toList.map a.eval).toArray) w:=by
 unfold xx5 at hf
 split at hf
 · rename_i fn hfn
   simp only [Bool.and_eq_true,Bool.not_eq_true'] at hf
   have h2 : fn.body.isNone = false:=by cases h : fn.body <;> simp_all
   have hm : args.map a.eval = (args.toList.map a.eval).toArray:=by apply Array.ext'; simp
   simp only [execOp,resolve,Act.eval,Deferred.ofValue,Sem.run_bind,Sem.run_pure,Result.andThen_ok,invoke,callFunc,run_program,hfn,hf.1,h2]
   simp [hm]
 · cases hf

theorem yh5 {β : Nat → Value} {e : Env} {s : St} {a : Act} {w : World} (inv : qd1 C β e s a w) {b : Nat} (h : Mut C.F β s b) : b < w.heap.size:=by
 rcases h with h | ⟨i,bx,h1,h2⟩
 · exact inv.wr.low b h
 · exact (inv.wr.boxes i bx h1).blk_lt h2

theorem xm5 {β : Nat → Value} {e : Env} {s : St} {a : Act} {w : World} (inv : qd1 C β e s a w) {b : Nat} (h : Mut C.F β s b) : Γ.NG ≤ b:=by
 rcases h with h | ⟨i,bx,h1,h2⟩
 · exact C.lo b h
 · exact inv.base i bx b h1 h2
theorem qb1 {ops rest : List Oper} {e : Env} {s : St} {K : Exit → Env → St → Prop} {f : FuncId} {dst : Option Tmp} {args : Array Operand} {ats : Array TypeId} {ty : TypeId} {pos : String} {af : Array Edge}
 (hB : qg5 N (⟨dst,.call ⟨.value (.func f),args,ats⟩,ty,pos,af,none⟩ :: rest) = true) {ds : List D} {ret : D} (hk : oks true (vals e args.toList)) (hd : SV.toDs s (qm6 (vals e args.toList)) = some ds) (hr : ret.flat = true)
 (hf : DFn P Γ f ds ret) (h : qo0 C ops rest (qk9 dst (.d ret) e) s K) : Stop C ops (⟨dst,.call ⟨.value (.func f),args,ats⟩,ty,pos,af,none⟩ :: rest) e s K:=by
 intro β a w inv
 simp only [qg5,List.all_cons,Bool.and_eq_true,ve9] at hB
 obtain ⟨⟨hdst,ho⟩,hB'⟩:=hB
 have ha : args.toList.all qc8 = true:=by
  simp only [Op.operands,Call.operands,Array.toList_append,List.all_append,Bool.and_eq_true] at ho
  exact ho.2
 have ih:=qh3 (ops:=ops) hB' h
 refine wpList_plain rfl fun K' hK'=>?_
 unfold Oper.wp
 rw [qp0 hf.1]
 have hargs:=qz3 inv _ ds _ (qk5 inv args.toList ha hk) hd
 refine (hf.2 (fun _=>False) w _ inv.glob inv.big (fun b h=>h.elim) hargs).mono ?_
 rintro e w' ⟨v,rfl,hb,hv⟩
 exact hK' _ _ (ih β _ _ ((inv.grow hb).put dst hdst (.d (xi2 ret v hr hv))))
end
end Go.Sw
namespace Go.Sw
open Go.RowKit

section
variable {P : Program} {N : Nat} {Γ : Gl} {C : Cx P N Γ}

theorem qq9 (X : Nat → Bool) (i : Nat) : ∀ s : St,lk i (qc7 X s) = bif X i then none else (lk i s).map (Box.jk X)
 | []=>by cases X i <;> rfl
 | (j, b) :: s=>by
  have ih:=qq9 X i s
  unfold qc7
  by_cases hij : i = j
  · subst hij
    cases hX : X i
    · simp [lk]
    · simp only [cond_true,ih,hX]
  · cases hX : X j
    · simp only [cond_false,lk,qf5 hij,ih]
    · simp only [cond_true,lk,qf5 hij,ih,cond_false]
theorem vm4 (X : Nat → Bool) (s : St) : vf0 s (qc7 X s):=fun i bx h=>by
 rw [qq9] at h
 cases hX : X i
 · rw [hX,cond_false] at h
   cases hl : lk i s with
   | none=>rw [hl] at h; cases h
   | some b=>exact ⟨b,rfl⟩
 · rw [hX] at h; cases h

def qe6 : St → St → Prop
 | [],_=>True
 | (i,_) :: r,s'=>(lk i s').isSome = true ∧ qe6 r s'
theorem vj3 {s' : St} : ∀ {r : St},qe6 r s' → ∀ i bx,lk i r = some bx → lk i s' ≠ none
 | (j, b) :: r,h,i,bx,hl=>by
  unfold lk at hl
  by_cases hij : i = j
  · subst hij
    intro he
    have:=h.1
    rw [he] at this; cases this
  · rw [qf5 hij,cond_false] at hl
    exact vj3 h.2 i bx hl
theorem qd1.drop {β : Nat → Value} {e : Env} {s : St} {a : Act} {w : World} (inv : qd1 C β e s a w) (X : Nat → Bool) {s0 : St} (h0 : C.s0 = s0) (hk : qe6 s0 (qc7 X s)) : qd1 C β (jkE X e) (qc7 X s) a w:=by
 have hf:=vm4 X s
 have get : ∀ i bx,lk i (qc7 X s) = some bx → ∃ b,X i = false ∧ lk i s = some b ∧ bx = b.jk X:=fun i bx h=>by
  rw [qq9] at h
  cases hX : X i
  · rw [hX,cond_false] at h
    cases hl : lk i s with
    | none=>rw [hl] at h; cases h
    | some b=>rw [hl] at h; exact ⟨b,rfl,rfl,by simpa using h.symm⟩
  · rw [hX] at h; cases h
 have hx : Ext X C.F w β s w β (qc7 X s):=⟨fun _ _ _=>rfl,fun b _ h=>hf.mut h,fun i cs hX h=>⟨rfl,SV.jks X cs,by rw [qq9,hX,h]; rfl⟩,fun i k L hX h=>⟨rfl,L,by rw [qq9,hX,h]; rfl,Nat.le_refl _⟩,fun i M hX h=>⟨rfl,M,by rw [qq9,hX,h]; rfl⟩⟩
 refine inv.step hx ⟨fun i bx h=>?_,fun i j b1 b2 b h1 h2 h3 h4=>?_,fun i bx b h h2=>?_,inv.wr.low⟩ ⟨inv.since.os,inv.since.tape,inv.since.output,inv.since.size,inv.since.heap,fun i bx b h h2=>?_,fun i c1 c2 h h2=>?_,fun i bx h=>?_⟩ (Nat.le_refl _) (fun _ _=>rfl) (fun i bx b h h2=>?_)
 · obtain ⟨b,hX,hl,rfl⟩:=get i bx h
   have hb:=inv.wr.boxes i b hl
   cases b with
   | cells cs =>
    obtain ⟨bb,t,us,h1,h2,h3,h4⟩:=hb
    exact ⟨bb,t,us,h1,h2,Rp.keep hx h3,h4⟩
   | row k L =>
    obtain ⟨g0,hk,el,xs,g1,g2,g3⟩:=hb
    exact ⟨g0,hk,el,xs,g1,g2.keep hx.heap hx.mutb,g3⟩
   | mp M=>exact hb
 · obtain ⟨c1, -,g1, -⟩:=get i b1 h1
   obtain ⟨c2, -,g2, -⟩:=get j b2 h2
   exact inv.wr.inj i j c1 c2 b g1 g2 h3 h4
 · obtain ⟨c1, -,g1, -⟩:=get i bx h
   exact inv.wr.apart i c1 b g1 h2
 · obtain ⟨c, -,g1, -⟩:=get i bx h
   exact inv.since.boxes i c b g1 h2
 · obtain ⟨b, -,g1,g2⟩:=get i _ h2
   cases b with
   | cells cs=>exact inv.since.cells i c1 cs h g1
   | row=>cases g2
   | mp=>cases g2
 · rw [h0] at h; exact vj3 hk i bx h
 · obtain ⟨c1, -,g1, -⟩:=get i bx h
   exact inv.base i c1 b g1 h2

theorem vu7 : ∀ {X : List Nat} {i : Nat},i ∈ X → inX X i = true
 | j :: l,i,h=>by
  unfold inX
  by_cases hij : i = j
  · subst hij; simp
  · rw [qf5 hij,cond_false]
    exact vu7 ((List.mem_cons.1 h).resolve_left hij)
theorem qd1.off {β : Nat → Value} {e : Env} {s : St} {a : Act} {w : World} (inv : qd1 C β e s a w) (X : List Nat) {s0 : St} (h0 : C.s0 = s0) (hk : qe6 s0 (ym7 X s)) : qd1 C β (offE X e) (ym7 X s) a w ∧ vf0 s (ym7 X s) ∧ ∀ i ∈ X,lk i (ym7 X s) = none:=by
 cases X with
 | nil=>exact ⟨inv,fun i bx h=>⟨bx,h⟩,fun i h=>by cases h⟩
 | cons j l=>exact ⟨inv.drop _ h0 hk,vm4 _ _,fun i h=>by simp only [ym7]; rw [qq9,vu7 h]; rfl⟩

theorem qb4 {s0 : St} (h0 : C.s0 = s0) {ops rest : List Oper} {e : Env} {s : St} {K : Exit → Env → St → Prop} {f : FuncId} {dst : Option Tmp} {args : Array Operand} {ats : Array TypeId} {ty : TypeId} {pos : String} {af : Array Edge}
 (hB : qg5 N (⟨dst,.call ⟨.value (.func f),args,ats⟩,ty,pos,af,none⟩ :: rest) = true) {ds : List D} {ret : D} (hk : oks true (vals e args.toList)) (hd : SV.toDs s (qm6 (vals e args.toList)) = some ds)
 (hkp : qe6 s0 (ym7 (SV.ownss (qm6 (vals e args.toList))) s)) (hf : DFn P Γ f ds ret) (h : qo0 C ops rest (qk9 dst (.d ret) (offE (SV.ownss (qm6 (vals e args.toList))) e)) (ym7 (SV.ownss (qm6 (vals e args.toList))) s) K) : Stop C ops (⟨dst,.call ⟨.value (.func f),args,ats⟩,ty,pos,af,none⟩ :: rest) e s K:=by
 intro β a w inv
 simp only [qg5,List.all_cons,Bool.and_eq_true,ve9] at hB
 obtain ⟨⟨hdst,ho⟩,hB'⟩:=hB
 have ha : args.toList.all qc8 = true:=by
  simp only [Op.operands,Call.operands,Array.toList_append,List.all_append,Bool.and_eq_true] at ho
  exact ho.2
 have ih:=qh3 (ops:=ops) hB' h
 refine wpList_plain rfl fun K' hK'=>?_
 unfold Oper.wp
 rw [qp0 hf.1]
 obtain ⟨inv2,hfew,hoff⟩:=inv.off (SV.ownss (qm6 (vals e args.toList))) h0 hkp
 have hargs:=ve4 inv hfew _ ds _ (qk5 inv args.toList ha hk) hd hoff
 refine (hf.2 (Mut C.F β (ym7 (SV.ownss (qm6 (vals e args.toList))) s)) w _ inv.glob inv.big (fun b h=>⟨xm5 inv2 h,yh5 inv2 h⟩) hargs).mono ?_
 rintro e w' ⟨v,rfl,hb,hv⟩
 exact hK' _ _ (ih β _ _ ((inv2.grow hb).put dst hdst (.d hv)))

/-! ### What is let go -/
def yw7 (s : St) : List Nat → Prop
 | []=>True
 | i :: l=>lk i s = none ∧ yw7 s l
theorem vy1 {s : St} : ∀ {l : List Nat},yw7 s l → ∀ i ∈ l,lk i s = none
 | j :: l,h,i,hi=>by
  rcases List.mem_cons.1 hi with rfl | hi
  · exact h.1
  · exact vy1 h.2 i hi
mutual
def FZ (s s' : St) : SV → SV → Prop
 | x,.d z=>x.toD s = some z ∧ yw7 s' x.owns
 | .agg cs,.agg cs'=>FZs s s' cs cs'
 | .tup cs,.tup cs'=>FZs s s' cs cs'
 | .clo f cs,.clo f' cs'=>f = f' ∧ FZs s s' cs cs'
 | .nil,.nil=>True
 | .ref i o,.ref j o'=>i = j ∧ o = o' ∧ (lk i s').isSome = true
 | .own i,.own j=>i = j ∧ (lk i s').isSome = true
 | .eref i d o,.eref j d' o'=>i = j ∧ d = d' ∧ o = o' ∧ (lk i s').isSome = true
 | .sref i n,.sref j n'=>i = j ∧ n = n' ∧ (lk i s').isSome = true
 | .mp i,.mp j=>i = j ∧ (lk i s').isSome = true
 | .fptr x o,.fptr y o'=>x = y ∧ o = o'
 | .ref i o,.fptr y o'=>o = o' ∧ lk i s' = none ∧ (match lk i s with | some (.cells cs)=>SV.toDs s cs = some y.cells ∧ yw7 s' (SV.ownss cs) | _=>False)
 | _,.junk=>True
 | _,_=>False
def FZs (s s' : St) : List SV → List SV → Prop
 | [],[]=>True
 | x :: l,y :: l'=>FZ s s' x y ∧ FZs s s' l l'
 | _,_=>False
end
def BoxW (s s' : St) : Box → Box → Prop
 | .cells cs,.cells cs'=>FZs s s' cs cs'
 | .row k L,.row k' L'=>k = k' ∧ L = L'
 | .mp M,.mp M'=>M = M'
 | _,_=>False
def xx3 (s s' : St) : St → Prop
 | []=>True
 | (i,bx) :: r=>(match lk i s with | some b=>BoxW s s' b bx | none=>False) ∧ xx3 s s' r
def subE (e : Env) (s s' : St) : Env → Prop
 | []=>True
 | (t,x) :: r=>(match lk t e with | some y=>FZ s s' y x | none=>False) ∧ subE e s s' r
theorem ql2 {s s' : St} : ∀ {r : St},xx3 s s' r → ∀ i bx,lk i r = some bx → ∃ b,lk i s = some b ∧ BoxW s s' b bx
 | (j, b) :: r,h,i,bx,hl=>by
  unfold lk at hl
  by_cases hij : i = j
  · subst hij
    simp at hl; subst hl
    have h1:=h.1
    split at h1
    · rename_i b' hb; exact ⟨b',hb,h1⟩
    · exact h1.elim
  · rw [qf5 hij,cond_false] at hl
    exact ql2 h.2 i bx hl
theorem xz0 {e : Env} {s s' : St} : ∀ {r : Env},subE e s s' r → ∀ t x,lk t r = some x → ∃ y,lk t e = some y ∧ FZ s s' y x
 | (j, b) :: r,h,i,bx,hl=>by
  unfold lk at hl
  by_cases hij : i = j
  · subst hij
    simp at hl; subst hl
    have h1:=h.1
    split at h1
    · rename_i b' hb; exact ⟨b',hb,h1⟩
    · exact h1.elim
  · rw [qf5 hij,cond_false] at hl
    exact xz0 h.2 i bx hl

section
variable {β : Nat → Value} {e : Env} {s s' : St} {a : Act} {w : World}
theorem fz_d (inv : qd1 C β e s a w) (hs : xx3 s s' s') {x : SV} {z : D} {u : Value} (h : Rp w C.F β s (.s x u)) (hz : x.toD s = some z ∧ yw7 s' x.owns) : Rp w C.F β s' (.s (.d z) u) :=
 .d (vn2 inv (fun i bx hl=>let ⟨b,hb,_⟩:=ql2 hs i bx hl; ⟨b,hb⟩) x z u h hz.1 (fun i hi=>vy1 hz.2 i hi))
theorem xm1 {w : World} {M : Nat → Prop} {b : Nat} (hm : ¬ M b) : ∀ {ds : List D} {us : List Value} {o : Nat},RpD w M (.ds ds us) → (∀ j u,us[j]? = some u → w.cell? ⟨b,o + j,none⟩ = some u) → RpD w M (.cs ds b o)
 | [],_,o,.dsn,_=>.csn b o
 | x :: ds,u :: us,o,.dsc h ht,hc=>.csc hm (hc 0 u rfl) h (xm1 hm ht fun j v hj=>by
     have:=hc (j + 1) v (by simpa using hj)
     rw [show o + 1 + j = o + (j + 1) by omega]; exact this)
theorem fz_fptr (inv : qd1 C β e s a w) (hs : xx3 s s' s') {i o : Nat} {y : D} {u : Value} (h : Rp w C.F β s (.s (.ref i o) u)) (hn : lk i s' = none) (hz : match lk i s with | some (.cells cs)=>SV.toDs s cs = some y.cells ∧ yw7 s' (SV.ownss cs) | _=>False) : Rp w C.F β s' (.s (.fptr y o) u):=by
 have hf : vf0 s s':=fun i bx hl=>let ⟨b,hb,_⟩:=ql2 hs i bx hl; ⟨b,hb⟩
 cases h with
 | @ref _ _ b cs hl hb =>
  rw [hl] at hz
  obtain ⟨hz,ho⟩:=hz
  obtain ⟨bb,t,us,h1,h2,h3,h4⟩:=inv.wr.boxes i _ hl
  rw [hb] at h1
  obtain rfl : b = bb:=by simpa using h1
  have hM : ¬ Mut C.F β s' b:=fun hm=>by
   rcases hm with hm | ⟨j,bx,hj,hjb⟩
   · exact inv.wr.apart i _ b hl (by rw [hb]; rfl) hm
   · obtain ⟨c,hc, -⟩:=ql2 hs j bx hj
     have:=inv.wr.inj j i c _ b hc hl hjb (by rw [hb]; rfl)
     subst this
     rw [hn] at hj; cases hj
  have hds:=ve4 inv hf cs _ _ h3 hz (vy1 ho)
  have:=xm1 (b:=b) (o:=0) hM hds (fun j v hj=>by
   simp only [World.cell?,h2,Nat.zero_add]
   have hj' : us[j]? = some v:=by simpa using hj
   simp [hj'])
  have h5:=Rp.fptr (F:=C.F) (β := β) (s:=s') (off:=o) this
  rw [Nat.zero_add] at h5
  exact h5
mutual
theorem FZ.rp (inv : qd1 C β e s a w) (hs : xx3 s s' s') : ∀ (x y : SV) (u : Value),FZ s s' x y → Rp w C.F β s (.s x u) → Rp w C.F β s' (.s y u)
 | x,.d z,u,hz,h=>fz_d inv hs h (by unfold FZ at hz; exact hz)
 | .agg cs,.agg cs',u,hz,h=>by
  unfold FZ at hz
  cases h with | agg h=>exact .agg (FZs.rp inv hs cs cs' _ hz h)
 | .tup cs,.tup cs',u,hz,h=>by
  unfold FZ at hz
  cases h with | tup h=>exact .tup (FZs.rp inv hs cs cs' _ hz h)
 | .clo f cs,.clo f' cs',u,hz,h=>by
  unfold FZ at hz
  obtain ⟨rfl,hz⟩:=hz
  cases h with | clo h=>exact .clo (FZs.rp inv hs cs cs' _ hz h)
 | .nil,.nil,u,hz,h=>by cases h; exact .nil
 | .ref i o,.ref j o',u,hz,h=>by
  unfold FZ at hz
  obtain ⟨rfl,rfl,hi⟩:=hz
  cases h with
  | ref hl hb =>
   obtain ⟨bx,h1⟩:=Option.isSome_iff_exists.1 hi
   obtain ⟨b',h2,h3⟩:=ql2 hs i bx h1
   rw [hl] at h2
   cases h2
   cases bx with
   | cells cs'=>exact .ref h1 hb
   | row=>exact h3.elim
   | mp=>exact h3.elim
 | .sref i n,.sref j n',u,hz,h=>by
  unfold FZ at hz
  obtain ⟨rfl,rfl,hi⟩:=hz
  cases h with
  | sref hl hb =>
   obtain ⟨bx,h1⟩:=Option.isSome_iff_exists.1 hi
   obtain ⟨b',h2,h3⟩:=ql2 hs i bx h1
   rw [hl] at h2
   cases h2
   cases bx with
   | cells cs'=>exact .sref h1 hb
   | row=>exact h3.elim
   | mp=>exact h3.elim
 | .own i,.own j,u,hz,h=>by
  unfold FZ at hz
  obtain ⟨rfl,hi⟩:=hz
  cases h with
  | own hl =>
   obtain ⟨bx,h1⟩:=Option.isSome_iff_exists.1 hi
   obtain ⟨b',h2,h3⟩:=ql2 hs i bx h1
   rw [hl] at h2
   cases h2
   cases bx with
   | cells cs'=>exact h3.elim
   | row=>exact .own h1
   | mp=>exact h3.elim
 | .eref i d o,.eref j d' o',u,hz,h=>by
  unfold FZ at hz
  obtain ⟨rfl,rfl,rfl,hi⟩:=hz
  cases h with
  | eref hl hd hb =>
   obtain ⟨bx,h1⟩:=Option.isSome_iff_exists.1 hi
   obtain ⟨b',h2,h3⟩:=ql2 hs i bx h1
   rw [hl] at h2
   cases h2
   cases bx with
   | cells cs'=>exact h3.elim
   | row k' L'=>obtain ⟨rfl,rfl⟩:=h3; exact .eref h1 hd hb
   | mp=>exact h3.elim
 | .mp i,.mp j,u,hz,h=>by
  unfold FZ at hz
  obtain ⟨rfl,hi⟩:=hz
  cases h with
  | mp hl =>
   obtain ⟨bx,h1⟩:=Option.isSome_iff_exists.1 hi
   obtain ⟨b',h2,h3⟩:=ql2 hs i bx h1
   rw [hl] at h2
   cases h2
   cases bx with
   | cells cs'=>exact h3.elim
   | row=>exact h3.elim
   | mp=>exact .mp h1
 | .fptr x o,.fptr y o',u,hz,h=>by
  unfold FZ at hz
  obtain ⟨rfl,rfl⟩:=hz
  cases h with
  | fptr h=>exact .fptr (h.keep (fun _ _ _=>rfl) (fun b _ hm=>vf0.mut (fun i bx hl=>let ⟨b,hb,_⟩:=ql2 hs i bx hl; ⟨b,hb⟩) hm))
 | .ref i o,.fptr y o',u,hz,h=>by
  unfold FZ at hz
  obtain ⟨rfl,hn,hz⟩:=hz
  exact fz_fptr inv hs h hn hz
 | _,.junk,u,hz,h=>.junk
 | .agg _,.tup _,_,hz,_ | .agg _,.clo _ _,_,hz,_ | .agg _,.nil,_,hz,_ | .agg _,.ref _ _,_,hz,_ | .agg _,.own _,_,hz,_ | .agg _,.eref _ _ _,_,hz,_ | .agg _,.fptr _ _,_,hz,_ | .agg _,.mp _,_,hz,_ | .agg _,.grd _ _,_,hz,_ | .agg _,.sref _ _,_,hz,_=>by unfold FZ at hz; exact hz.elim
 | .tup _,.agg _,_,hz,_ | .tup _,.clo _ _,_,hz,_ | .tup _,.nil,_,hz,_ | .tup _,.ref _ _,_,hz,_ | .tup _,.own _,_,hz,_ | .tup _,.eref _ _ _,_,hz,_ | .tup _,.fptr _ _,_,hz,_ | .tup _,.mp _,_,hz,_ | .tup _,.grd _ _,_,hz,_ | .tup _,.sref _ _,_,hz,_=>by unfold FZ at hz; exact hz.elim
 | .clo _ _,.agg _,_,hz,_ | .clo _ _,.tup _,_,hz,_ | .clo _ _,.nil,_,hz,_ | .clo _ _,.ref _ _,_,hz,_ | .clo _ _,.own _,_,hz,_ | .clo _ _,.eref _ _ _,_,hz,_ | .clo _ _,.fptr _ _,_,hz,_ | .clo _ _,.mp _,_,hz,_ | .clo _ _,.grd _ _,_,hz,_ | .clo _ _,.sref _ _,_,hz,_=>by unfold FZ at hz; exact hz.elim
 | .nil,.agg _,_,hz,_ | .nil,.tup _,_,hz,_ | .nil,.clo _ _,_,hz,_ | .nil,.ref _ _,_,hz,_ | .nil,.own _,_,hz,_ | .nil,.eref _ _ _,_,hz,_ | .nil,.fptr _ _,_,hz,_ | .nil,.mp _,_,hz,_ | .nil,.grd _ _,_,hz,_ | .nil,.sref _ _,_,hz,_=>by unfold FZ at hz; exact hz.elim
 | .ref _ _,.agg _,_,hz,_ | .ref _ _,.tup _,_,hz,_ | .ref _ _,.clo _ _,_,hz,_ | .ref _ _,.nil,_,hz,_ | .ref _ _,.own _,_,hz,_ | .ref _ _,.eref _ _ _,_,hz,_ | .ref _ _,.mp _,_,hz,_ | .ref _ _,.grd _ _,_,hz,_ | .ref _ _,.sref _ _,_,hz,_=>by unfold FZ at hz; exact hz.elim
 | .own _,.agg _,_,hz,_ | .own _,.tup _,_,hz,_ | .own _,.clo _ _,_,hz,_ | .own _,.nil,_,hz,_ | .own _,.ref _ _,_,hz,_ | .own _,.eref _ _ _,_,hz,_ | .own _,.fptr _ _,_,hz,_ | .own _,.mp _,_,hz,_ | .own _,.grd _ _,_,hz,_ | .own _,.sref _ _,_,hz,_=>by unfold FZ at hz; exact hz.elim
 | .eref _ _ _,.agg _,_,hz,_ | .eref _ _ _,.tup _,_,hz,_ | .eref _ _ _,.clo _ _,_,hz,_ | .eref _ _ _,.nil,_,hz,_ | .eref _ _ _,.ref _ _,_,hz,_ | .eref _ _ _,.own _,_,hz,_ | .eref _ _ _,.fptr _ _,_,hz,_ | .eref _ _ _,.mp _,_,hz,_ | .eref _ _ _,.grd _ _,_,hz,_ | .eref _ _ _,.sref _ _,_,hz,_=>by unfold FZ at hz; exact hz.elim
 | .fptr _ _,.agg _,_,hz,_ | .fptr _ _,.tup _,_,hz,_ | .fptr _ _,.clo _ _,_,hz,_ | .fptr _ _,.nil,_,hz,_ | .fptr _ _,.ref _ _,_,hz,_ | .fptr _ _,.own _,_,hz,_ | .fptr _ _,.eref _ _ _,_,hz,_ | .fptr _ _,.mp _,_,hz,_ | .fptr _ _,.grd _ _,_,hz,_ | .fptr _ _,.sref _ _,_,hz,_=>by unfold FZ at hz; exact hz.elim
 | .mp _,.agg _,_,hz,_ | .mp _,.tup _,_,hz,_ | .mp _,.clo _ _,_,hz,_ | .mp _,.nil,_,hz,_ | .mp _,.ref _ _,_,hz,_ | .mp _,.own _,_,hz,_ | .mp _,.eref _ _ _,_,hz,_ | .mp _,.fptr _ _,_,hz,_ | .mp _,.grd _ _,_,hz,_ | .mp _,.sref _ _,_,hz,_=>by unfold FZ at hz; exact hz.elim
 | .grd _ _,.agg _,_,hz,_ | .grd _ _,.tup _,_,hz,_ | .grd _ _,.clo _ _,_,hz,_ | .grd _ _,.nil,_,hz,_ | .grd _ _,.ref _ _,_,hz,_ | .grd _ _,.own _,_,hz,_ | .grd _ _,.eref _ _ _,_,hz,_ | .grd _ _,.fptr _ _,_,hz,_ | .grd _ _,.mp _,_,hz,_ | .grd _ _,.grd _ _,_,hz,_ | .grd _ _,.sref _ _,_,hz,_=>by unfold FZ at hz; exact hz.elim
 | .junk,.agg _,_,hz,_ | .junk,.tup _,_,hz,_ | .junk,.clo _ _,_,hz,_ | .junk,.nil,_,hz,_ | .junk,.ref _ _,_,hz,_ | .junk,.own _,_,hz,_ | .junk,.eref _ _ _,_,hz,_ | .junk,.fptr _ _,_,hz,_ | .junk,.mp _,_,hz,_ | .junk,.grd _ _,_,hz,_ | .junk,.sref _ _,_,hz,_=>by unfold FZ at hz; exact hz.elim
 | .d _,.agg _,_,hz,_ | .d _,.tup _,_,hz,_ | .d _,.clo _ _,_,hz,_ | .d _,.nil,_,hz,_ | .d _,.ref _ _,_,hz,_ | .d _,.own _,_,hz,_ | .d _,.eref _ _ _,_,hz,_ | .d _,.fptr _ _,_,hz,_ | .d _,.mp _,_,hz,_ | .d _,.grd _ _,_,hz,_ | .d _,.sref _ _,_,hz,_=>by unfold FZ at hz; exact hz.elim
 | .sref _ _,.agg _,_,hz,_ | .sref _ _,.tup _,_,hz,_ | .sref _ _,.clo _ _,_,hz,_ | .sref _ _,.nil,_,hz,_ | .sref _ _,.ref _ _,_,hz,_ | .sref _ _,.own _,_,hz,_ | .sref _ _,.eref _ _ _,_,hz,_ | .sref _ _,.fptr _ _,_,hz,_ | .sref _ _,.mp _,_,hz,_ | .sref _ _,.grd _ _,_,hz,_=>by unfold FZ at hz; exact hz.elim
theorem FZs.rp (inv : qd1 C β e s a w) (hs : xx3 s s' s') : ∀ (l l' : List SV) (us : List Value),FZs s s' l l' → Rp w C.F β s (.ss l us) → Rp w C.F β s' (.ss l' us)
 | [],[],us,hz,h=>by cases h; exact .ssn
 | x :: l,y :: l',us,hz,h=>by
  cases h with
  | ssc hx hl=>exact .ssc (FZ.rp inv hs x y _ hz.1 hx) (FZs.rp inv hs l l' _ hz.2 hl)
 | [],_ :: _,_,hz,_=>by exact hz.elim
 | _ :: _,[],_,hz,_=>by exact hz.elim
end

theorem yx1 {s0 : St} (h0 : C.s0 = s0) (hk : qe6 s0 s') (hS : xx3 s s' s') {e' : Env} (hE : subE e s s' e') (inv : qd1 C β e s a w) : qd1 C β e' s' a w:=by
 have hf : vf0 s s':=fun i bx hl=>let ⟨b,hb,_⟩:=ql2 hS i bx hl; ⟨b,hb⟩
 refine ⟨⟨fun i bx h=>?_,fun i j b1 b2 b h1 h2 h3 h4=>?_,fun i bx b h h2=>?_,inv.wr.low⟩,fun i bx b h h2=>?_,fun t x h=>?_,inv.size,inv.defers,inv.glob,inv.big,⟨inv.since.os,inv.since.tape,inv.since.output,inv.since.size,inv.since.heap,fun i bx b h h2=>?_,fun i c1 c2 h h2=>?_,fun i bx h=>?_⟩⟩
 · obtain ⟨b,hl,hw⟩:=ql2 hS i bx h
   have hb:=inv.wr.boxes i b hl
   cases b with
   | cells cs =>
    cases bx with
    | cells cs' =>
     obtain ⟨bb,t,us,h1,h2,h3,h4⟩:=hb
     exact ⟨bb,t,us,h1,h2,FZs.rp inv hS cs cs' _ hw h3,h4⟩
    | row=>exact hw.elim
    | mp=>exact hw.elim
   | row k L =>
    cases bx with
    | cells cs'=>exact hw.elim
    | row k' L' =>
     obtain ⟨rfl,rfl⟩:=hw
     obtain ⟨g0,hk,el,xs,g1,g2,g3⟩:=hb
     exact ⟨g0,hk,el,xs,g1,g2.keep (fun _ _ _=>rfl) (fun b _ h=>hf.mut h),g3⟩
    | mp=>exact hw.elim
   | mp M =>
    cases bx with
    | cells cs'=>exact hw.elim
    | row=>exact hw.elim
    | mp M'=>obtain rfl:=hw; exact hb
 · obtain ⟨c1,g1⟩:=hf i b1 h1
   obtain ⟨c2,g2⟩:=hf j b2 h2
   exact inv.wr.inj i j c1 c2 b g1 g2 h3 h4
 · obtain ⟨c1,g1⟩:=hf i bx h
   exact inv.wr.apart i c1 b g1 h2
 · obtain ⟨c1,g1⟩:=hf i bx h
   exact inv.base i c1 b g1 h2
 · obtain ⟨y,hy,hz⟩:=xz0 hE t x h
   obtain ⟨h1,h2⟩:=inv.env t y hy
   exact ⟨h1,FZ.rp inv hS y x _ hz h2⟩
 · obtain ⟨c,g1⟩:=hf i bx h
   exact inv.since.boxes i c b g1 h2
 · obtain ⟨b,hl,hw⟩:=ql2 hS i _ h2
   cases b with
   | cells cs=>exact inv.since.cells i c1 cs h hl
   | row=>exact hw.elim
   | mp=>exact hw.elim
 · rw [h0] at h; exact vj3 hk i bx h
theorem qa3 {s0 : St} (h0 : C.s0 = s0) (hk : qe6 s0 s') (hS : xx3 s s' s') {e' : Env} (hE : subE e s s' e') : Sub C e s e' s':=fun β a w inv=>⟨β,yx1 h0 hk hS hE inv⟩
end
end
end Go.Sw
namespace Go.Sw
open Go.RowKit
open _root_.Bool renaming and_eq_true → za, or_eq_true → zh, false_eq_true → zn
open _root_.Nat renaming le_refl → zb, blt → ze, eq_of_beq_eq_true → zm, lt_or_ge → zo

section
variable {P : Program} {N : Nat} {Γ : Gl} {C : Cx P N Γ}

abbrev Ans:=List (Nat × D)
def vc5 (ops : List Oper) (o : Oper) : List Tmp:=o.looksAt ops.toArray
def rst (ts : List Tmp) (e : Env) : Env :=
 match ts with
 | []=>[]
 | t :: r=>match lk t e with | some x=>(t,x) :: rst r e | none=>rst r e
theorem xn7 : ∀ {ts : List Tmp} {e : Env} {t : Nat} {x : SV},lk t (rst ts e) = some x → t ∈ ts ∧ lk t e = some x
 | [],e,t,x,h=>by cases h
 | u :: r,e,t,x,h=>by
  unfold rst at h
  cases hu : lk u e with
  | none=>rw [hu] at h; obtain ⟨h1,h2⟩:=xn7 h; exact ⟨by simp [h1],h2⟩
  | some y =>
   rw [hu] at h
   simp only [lk] at h
   by_cases htu : t = u
   · subst htu
     simp at h
     subst h
     exact ⟨by simp,hu⟩
   · rw [qf5 htu,cond_false] at h
     obtain ⟨h1,h2⟩:=xn7 h
     exact ⟨by simp [h1],h2⟩
def qp2 (P : Program) (Γ : Gl) (g : Bool) (ret : D) (op : Op) (e : Env) (s : St) : Option (Prop × SV) :=
 match op with
 | .call c=>match c.callee with
  | .value (.func f)=>match SV.toDs s (qm6 (vals e c.args.toList)) with
   | some ds=>some (oks g (vals e c.args.toList) ∧ (ret.flat = true ∨ SV.ownss (qm6 (vals e c.args.toList)) = []) ∧ (g = true → DFn P Γ f ds ret),.d ret)
   | none=>none
  | _=>none
 | .load t x=>match x with
  | .global k=>some ((g = true → GD P Γ k t ret),.d ret)
  | _=>none
 | _=>none
def vw7 (P : Program) (Γ : Gl) (ans : Ans) (i : Nat) (g : Bool) (o : Oper) (e : Env) (s : St) : Option (Prop × SV) :=
 match lk i ans with
 | some ret=>qp2 P Γ g ret o.op e s
 | none=>bif qd4 o.op then (qb8 P g o e s).map fun r=>(r.1,r.2.1) else none
def vcA (P : Program) (Γ : Gl) (ans : Ans) (ops : List Oper) : Nat → List Oper → Env → St → (Exit → Env → St → Prop) → Prop
 | _,[],e,s,K=>K .normal e s
 | i, o :: rest,e,s,K=>match o.guard with
  | none=>match vw7 P Γ ans i true o (rst (vc5 ops o) e) s with
   | some (p,x)=>p ∧ vcA P Γ ans ops (i + 1) rest (qk9 o.dst x e) s K
   | none=>False
  | some (j,want)=>match xg3 (rst (vc5 ops o) e) ops j want with
   | some g=>match vw7 P Γ ans i g o (rst (vc5 ops o) e) s with
    | some (p,x)=>p ∧ vcA P Γ ans ops (i + 1) rest (qk9 o.dst (.grd g x) e) s K
    | none=>False
   | none=>False

theorem qz5 {ans : Ans} {i : Nat} {o : Oper} {e : Env} {s : St} {p : Prop} {x : SV} (ho : o.op.operands.toList.all qc8 = true) (h : vw7 P Γ ans i true o e s = some (p,x)) (hp : p) {β : Nat → Value} {a : Act} {w : World} (inv : qd1 C β e s a w)
 (K : Act → World → Prop) (Q : Exit → Act → World → Prop) (hK : ∀ v w',Below w.heap.size w w' → Rp w' C.F β s (.s x v) → K (a.put o.dst v) w') : o.wp P a w K Q:=by
 unfold vw7 at h
 split at h
 · rename_i ret hr
   obtain ⟨dst,op,ty,pos,af,gd⟩:=o
   cases op with
   | call c =>
    obtain ⟨cl,args,ats⟩:=c
    simp only [qp2] at h
    cases cl with
    | value y =>
     cases y with
     | func f =>
      simp only at h
      split at h
      · rename_i ds hds
        simp only [Option.some.injEq,Prod.mk.injEq] at h
        obtain ⟨rfl,rfl⟩:=h
        obtain ⟨h1,h2,h3⟩:=hp
        have ha : args.toList.all qc8 = true:=by
         simp only [Op.operands,Call.operands,Array.toList_append,List.all_append,za] at ho
         exact ho.2
        have hf:=h3 trivial
        unfold Oper.wp
        rw [qp0 hf.1]
        rcases h2 with h2 | h2
        · have hargs:=qz3 inv _ ds _ (qk5 inv args.toList ha h1) hds
          refine (hf.2 (fun _=>False) w _ inv.glob inv.big (fun b h=>h.elim) hargs).mono ?_
          rintro e w' ⟨v,rfl,hb,hv⟩
          exact hK v w' hb (.d (xi2 ret v h2 hv))
        · have hargs:=ve4 inv (s':=s) (fun i bx h=>⟨bx,h⟩) _ ds _ (qk5 inv args.toList ha h1) hds (by rw [h2]; intro i h; cases h)
          refine (hf.2 (Mut C.F β s) w _ inv.glob inv.big (fun b h=>⟨xm5 inv h,yh5 inv h⟩) hargs).mono ?_
          rintro e w' ⟨v,rfl,hb,hv⟩
          exact hK v w' hb (.d hv)
      · cases h
     | _=>cases h
    | _=>cases h
   | load t x =>
    simp only [qp2] at h
    cases x with
    | global k =>
     simp only [Option.some.injEq,Prod.mk.injEq] at h
     obtain ⟨rfl,rfl⟩:=h
     obtain ⟨u,h1,h2⟩:=hp trivial w inv.glob
     unfold Oper.wp
     rw [yv3 h1]
     exact hK u w (Below.refl _ _) (.d (h2.keep (fun _ _ _=>rfl) (fun b _ hm=>xm5 inv hm)))
    | _=>cases h
   | _=>cases h
 · cases hpu : qd4 o.op with
   | false=>rw [hpu] at h; cases h
   | true =>
    rw [hpu,cond_true] at h
    cases hs : qb8 P true o e s with
    | none=>rw [hs] at h; cases h
    | some r =>
     rw [hs] at h
     obtain ⟨p',x',e',s'⟩:=r
     simp only [Option.map_some,Option.some.injEq,Prod.mk.injEq] at h
     obtain ⟨rfl,rfl⟩:=h
     have hsame : s' = s:=xv2 hpu hs
     subst hsame
     refine vb7 ho hs hp β a w inv K Q fun β' v w' inv' hpp hr=>?_
     obtain ⟨rfl,rfl⟩:=hpp hpu
     exact hK v w' (Below.refl _ _) hr

def xi7 (P : Program) (Γ : Gl) (ans : Ans) (ops : List Oper) (i : Nat) (o : Oper) (e : Env) (s : St) (X : SV) : Prop :=
 match o.guard with
 | none => ∃ p,vw7 P Γ ans i true o (rst (vc5 ops o) e) s = some (p,X) ∧ p
 | some (j,want) => ∃ g p x,xg3 (rst (vc5 ops o) e) ops j want = some g ∧ vw7 P Γ ans i g o (rst (vc5 ops o) e) s = some (p,x) ∧ p ∧ X = .grd g x
def vb3 (ops : List Oper) (Xs : Nat → SV) (e : Env) : Nat → Env
 | 0=>e
 | n + 1=>match ops[n]? with | some o=>qk9 o.dst (Xs n) (vb3 ops Xs e n) | none=>vb3 ops Xs e n
theorem ye9 {ans : Ans} {ops : List Oper} {s : St} {K : Exit → Env → St → Prop} (e0 : Env) : ∀ (l : List Oper) (i : Nat) (Xs : Nat → SV),(∀ j,l[j]? = ops[i + j]?) → vcA P Γ ans ops i l (vb3 ops Xs e0 i) s K →
 ∃ Ys : Nat → SV,(∀ j,j < i → Ys j = Xs j) ∧ (∀ j o,i ≤ j → ops[j]? = some o → xi7 P Γ ans ops j o (vb3 ops Ys e0 j) s (Ys j)) ∧ K .normal (vb3 ops Ys e0 ops.length) s
 | [], i, Xs,hl,h=>by
  have hlen : ∀ j,i ≤ j → ops[j]? = none:=fun j hj=>by
   have:=hl (j - i)
   rw [show i + (j - i) = j by omega] at this
   simpa using this.symm
  have henv : ∀ n,i ≤ n → vb3 ops Xs e0 n = vb3 ops Xs e0 i:=fun n hn=>by
   induction n with
   | zero=>rw [show i = 0 by omega]
   | succ n ih =>
    by_cases hi : i = n + 1
    · rw [hi]
    · simp only [vb3,hlen n (by omega)]; exact ih (by omega)
  refine ⟨Xs,fun _ _=>rfl,(fun j o hj ho=>by rw [hlen j hj] at ho; cases ho),?_⟩
  by_cases hn : i ≤ ops.length
  · rw [henv _ hn]; exact h
  · have h2 : ∀ n,ops.length ≤ n → vb3 ops Xs e0 n = vb3 ops Xs e0 ops.length:=fun n hn=>by
     induction n with
     | zero=>rw [show ops.length = 0 by omega]
     | succ n ih =>
      by_cases hi : ops.length = n + 1
      · rw [hi]
      · simp only [vb3,List.getElem?_eq_none (show ops.length ≤ n by omega)]; exact ih (by omega)
    rw [← h2 i (by omega)]; exact h
 | o :: rest,i,Xs,hl,h=>by
  have ho : ops[i]? = some o:=by simpa using (hl 0).symm
  have hl' : ∀ j,rest[j]? = ops[i + 1 + j]? := fun j=>by have:=hl (j + 1); simpa [Nat.add_assoc,Nat.add_comm 1 j] using this
  -- the value that this one yields
  have step : ∀ X,xi7 P Γ ans ops i o (vb3 ops Xs e0 i) s X → vcA P Γ ans ops (i + 1) rest (qk9 o.dst X (vb3 ops Xs e0 i)) s K → (∃ Ys : Nat → SV,(∀ j,j < i → Ys j = Xs j) ∧ (∀ j o,i ≤ j → ops[j]? = some o → xi7 P Γ ans ops j o (vb3 ops Ys e0 j) s (Ys j)) ∧ K .normal (vb3 ops Ys e0 ops.length) s):=fun X hX hrest=>by
   let Zs : Nat → SV:=fun j=>if j = i then X else Xs j
   have hz : ∀ n,n ≤ i → vb3 ops Zs e0 n = vb3 ops Xs e0 n:=fun n=>by
    induction n with
    | zero=>intro _; rfl
    | succ n ih =>
     intro hn
     have hni : n ≠ i:=by omega
     simp only [vb3,ih (by omega),Zs,if_neg hni]
   have hz1 : vb3 ops Zs e0 (i + 1) = qk9 o.dst X (vb3 ops Xs e0 i):=by
    simp only [vb3,ho,hz i (zb _),Zs,if_true]
   obtain ⟨Ys,h1,h2,h3⟩:=ye9 e0 rest (i + 1) Zs hl' (by rw [hz1]; exact hrest)
   have hy : ∀ n,n ≤ i → vb3 ops Ys e0 n = vb3 ops Xs e0 n:=fun n=>by
    induction n with
    | zero=>intro _; rfl
    | succ n ih =>
     intro hn
     have hni : n ≠ i:=by omega
     simp only [vb3,ih (by omega),h1 n (by omega),Zs,if_neg hni]
   refine ⟨Ys,fun j hj=>?_,fun j o' hj ho'=>?_,h3⟩
   · rw [h1 j (by omega)]; simp only [Zs,if_neg (show j ≠ i by omega)]
   · by_cases hji : j = i
     · subst hji
       rw [ho] at ho'
       cases ho'
       rw [hy j (zb _),h1 j (by omega)]
       simp only [Zs,if_true]
       exact hX
     · exact h2 j o' (by omega) ho'
  unfold vcA at h
  split at h
  · rename_i hg
    split at h
    · rename_i p x hs
      exact step x (by unfold xi7; rw [hg]; exact ⟨p,hs,h.1⟩) h.2
    · exact h.elim
  · rename_i j want hg
    split at h
    · rename_i g hv
      split at h
      · rename_i p x hs
        exact step (.grd g x) (by unfold xi7; rw [hg]; exact ⟨g,p,x,hv,hs,h.1,rfl⟩) h.2
      · exact h.elim
    · exact h.elim

def reach (ops : List Oper) : Nat → Nat → Nat → Bool
 | 0,_,_=>false
 | n + 1,j,i=>match ops[j]? with
  | some o=>o.after.toList.any fun e=>Region.binds .any e && (Nat.beq e.on i || reach ops n e.on i)
  | none=>false
def drawB (ops : List Oper) : Bool :=
 (List.range ops.length).all fun i=>match ops[i]? with
  | some o => (o.after.toList.all fun e => !Region.binds .any e || ze e.on i) &&
   (List.range ops.length).all fun j=>match ops[j]? with
    | some oj=>match oj.dst with
     | some t=>(!(vc5 ops o).contains t || (ze j i && reach ops ops.length i j) || (ze i j && reach ops ops.length j i)) &&
      (!(o.dst == some t) || !ze i j || reach ops ops.length j i)
     | none=>true
    | none=>true
  | none=>true
theorem qc9 {a b : Nat} : ze a b = true ↔ a < b:=by
 simp [Nat.blt_eq]
theorem vq2 {ops : List Oper} (h : drawB ops = true) {i : Nat} {o : Oper} (ho : ops[i]? = some o) :
 (∀ e ∈ o.after,Region.binds .any e = true → e.on < i) ∧ ∀ j oj t,ops[j]? = some oj → oj.dst = some t →
  (t ∈ vc5 ops o → (j < i ∧ reach ops ops.length i j = true) ∨ (i < j ∧ reach ops ops.length j i = true)) ∧ (o.dst = some t → i < j → reach ops ops.length j i = true):=by
 have hi:=(List.getElem?_eq_some_iff.1 ho).1
 have h1:=List.all_eq_true.1 h i (List.mem_range.2 hi)
 rw [ho] at h1
 simp only [za] at h1
 refine ⟨fun e he hb=>?_,fun j oj t hj ht=>?_⟩
 · have:=List.all_eq_true.1 h1.1 e (by simpa using he)
   simp only [hb,Bool.not_true,Bool.false_or] at this
   exact qc9.1 this
 · have hj':=(List.getElem?_eq_some_iff.1 hj).1
   have h2:=List.all_eq_true.1 h1.2 j (List.mem_range.2 hj')
   rw [hj] at h2
   simp only [ht,za,zh,Bool.not_eq_true'] at h2
   refine ⟨fun hm=>?_,fun hd hlt=>?_⟩
   · rcases h2.1 with (h3 | h3) | h3
     · rw [List.contains_iff_mem.2 hm] at h3; cases h3
     · exact .inl ⟨qc9.1 h3.1,h3.2⟩
     · exact .inr ⟨qc9.1 h3.1,h3.2⟩
   · rcases h2.2 with (h3 | h3) | h3
     · simp [hd] at h3
     · have:=qc9.2 hlt; rw [this] at h3; cases h3
     · exact h3

def look (ops : List Oper) (Xs : Nat → SV) (D : Nat → Bool) (e0 : Env) : Nat → Nat → Option SV
 | 0,t=>lk t e0
 | n + 1,t=>match ops[n]? with
  | some o=>if o.dst = some t ∧ D n = true then some (Xs n) else look ops Xs D e0 n t
  | none=>look ops Xs D e0 n t
theorem ql0 {dst : Option Tmp} {x : SV} {e : Env} {t : Nat} : lk t (qk9 dst x e) = if dst = some t then some x else lk t e:=by
 cases dst with
 | none=>simp [qk9]
 | some d =>
  simp only [qk9]
  by_cases h : d = t
  · subst h; simp [qb3]
  · rw [qb0 _ (Ne.symm h),if_neg (by simpa using h)]
theorem vx5 (ops : List Oper) (Xs : Nat → SV) (e0 : Env) (t : Nat) : ∀ n,lk t (vb3 ops Xs e0 n) = look ops Xs (fun _=>true) e0 n t
 | 0=>rfl
 | n + 1=>by
  unfold vb3 look
  cases ops[n]? with
  | none=>exact vx5 ops Xs e0 t n
  | some o=>simp only [ql0,and_true,vx5 ops Xs e0 t n]
theorem look_eq {ops : List Oper} {Xs : Nat → SV} {D : Nat → Bool} {e0 : Env} {t i : Nat} (h : ∀ j oj,ops[j]? = some oj → oj.dst = some t → (j < i ∧ D j = true) ∨ (i ≤ j ∧ D j = false)) : ∀ n,i ≤ n → look ops Xs D e0 n t = look ops Xs (fun _=>true) e0 i t:=by
 have low : ∀ n,n ≤ i → look ops Xs D e0 n t = look ops Xs (fun _=>true) e0 n t:=by
  intro n
  induction n with
  | zero=>intro _; rfl
  | succ n ih =>
   intro hn
   unfold look
   cases ho : ops[n]? with
   | none=>exact ih (by omega)
   | some o =>
    simp only [ih (by omega)]
    by_cases hd : o.dst = some t
    · rcases h n o ho hd with h1 | h1
      · simp [hd,h1.2]
      · omega
    · simp [hd]
 intro n
 induction n with
 | zero => intro hn; obtain rfl : i = 0:=by omega
           exact low 0 (zb _)
 | succ n ih =>
  intro hn
  by_cases hni : i = n + 1
  · rw [hni]; rw [hni] at low; exact low (n + 1) (zb _)
  · have hin : i ≤ n:=by omega
    rw [← ih hin]
    conv=>lhs; unfold look
    cases ho : ops[n]? with
    | none=>rfl
    | some o =>
     by_cases hd : o.dst = some t
     · rcases h n o ho hd with h1 | h1
       · omega
       · simp [h1.2]
     · simp [hd]
theorem xm7 {ops : List Oper} {Xs : Nat → SV} {D D' : Nat → Bool} {e0 : Env} {i : Nat} {o : Oper} (ho : ops[i]? = some o) (hD' : ∀ j,D' j = if j = i then true else D j) {t : Nat} : ∀ n,
 (o.dst ≠ some t → look ops Xs D' e0 n t = look ops Xs D e0 n t) ∧ (o.dst = some t → (∀ j oj,i < j → ops[j]? = some oj → oj.dst = some t → D j = false) → i < n → look ops Xs D' e0 n t = some (Xs i))
 | 0=>⟨fun _=>rfl,fun _ _ h=>by omega⟩
 | n + 1 => by
  obtain ⟨i1,i2⟩:=xm7 ho hD' (t:=t) n
  refine ⟨fun hd=>?_,fun hd hj hn=>?_⟩
  · unfold look
    cases hon : ops[n]? with
    | none=>exact i1 hd
    | some on =>
     by_cases hni : n = i
     · subst hni
       rw [ho] at hon; cases hon
       simp [hd,i1 hd]
     · simp only [hD' n,if_neg hni,i1 hd]
  · unfold look
    by_cases hni : n = i
    · subst hni
      simp [ho,hd,hD' n]
    · cases hon : ops[n]? with
      | none=>exact i2 hd hj (by omega)
      | some on =>
       simp only [hD' n,if_neg hni]
       by_cases hdn : on.dst = some t
       · rw [if_neg (by simp [hj n on (by omega) hon hdn])]
         exact i2 hd hj (by omega)
       · rw [if_neg (by simp [hdn])]
         exact i2 hd hj (by omega)

def Closed (ops : List Oper) (listed : Array Bool) : Prop := ∀ j o,ops[j]? = some o → listed.getD j false = true → ∀ e ∈ o.after,Region.binds .any e = true → listed.getD e.on false = true
theorem qh6 {ops : List Oper} {listed : Array Bool} (hc : Closed ops listed) : ∀ n j i,listed.getD j false = true → reach ops n j i = true → listed.getD i false = true
 | 0,j,i,_,h=>by simp [reach] at h
 | n + 1,j,i,hj,h=>by
  unfold reach at h
  split at h
  · rename_i o ho
    obtain ⟨e,he,h2⟩:=List.any_eq_true.1 h
    simp only [za,zh] at h2
    have hl:=hc j o ho hj e (by simpa using he) h2.1
    rcases h2.2 with h3 | h3
    · rwa [zm h3] at hl
    · exact qh6 hc n _ i hl h3
  · cases h
theorem ql7 {ops : List Oper} {listed : Array Bool} (hc : Closed ops listed) {i : Nat} {o : Oper} (ho : ops[i]? = some o) (hall : ∀ e ∈ o.after,Region.binds .any e = true → listed.getD e.on false = true) {n j : Nat} (h : reach ops n i j = true) : listed.getD j false = true:=by
 cases n with
 | zero=>simp [reach] at h
 | succ n =>
  unfold reach at h
  rw [ho] at h
  obtain ⟨e,he,h2⟩:=List.any_eq_true.1 h
  simp only [za,zh] at h2
  have hl:=hall e (by simpa using he) h2.1
  rcases h2.2 with h3 | h3
  · rwa [zm h3] at hl
  · exact qh6 hc n _ j hl h3

theorem grow_rp {β : Nat → Value} {s : St} {w w' : World} {F : Nat → Prop} (hb : Below w.heap.size w w') {x : SV} {u : Value} (h : Rp w F β s (.s x u)) : Rp w' F β s (.s x u) :=
 Rp.keep0 ⟨fun b hlt _=>hb.block b hlt,fun b _ h=>h,fun i cs _ h=>⟨rfl,cs,h⟩,fun i k L _ h=>⟨rfl,L,h,zb _⟩,fun i M _ h=>⟨rfl,M,h⟩⟩ h
theorem qd1.withEnv {β : Nat → Value} {e e' : Env} {s : St} {a a' : Act} {w : World} (inv : qd1 C β e s a w) (hs : a'.tmps.size = N) (hd : a'.defers = C.ds) (h : ∀ t x,lk t e' = some x → t < N ∧ Rp w C.F β s (.s x (a'.tmps.getD t undef))) : qd1 C β e' s a' w :=
 ⟨inv.wr,inv.base,h,hs,hd,inv.glob,inv.big,inv.since⟩

theorem yo0 {ans : Ans} {ops : List Oper} {e0 : Env} {s : St} {K : Exit → Env → St → Prop} {Ys : Nat → SV} (hB : qg5 N ops = true) (hD : drawB ops = true)
 (hstep : ∀ j o,ops[j]? = some o → xi7 P Γ ans ops j o (vb3 ops Ys e0 j) s (Ys j)) (hK : K .normal (vb3 ops Ys e0 ops.length) s) (β : Nat → Value) :
 ∀ (fuel : Nat) (S : List Nat) (listed : Array Bool) (a : Act) (w : World),listed.size = ops.length → Closed ops listed → (∀ i,i < ops.length → listed.getD i false = false → i ∈ S) → S.length ≤ fuel →
   qd1 C β [] s a w → (∀ t x,look ops Ys (fun i=>listed.getD i false) e0 ops.length t = some x → t < N ∧ Rp w C.F β s (.s x (a.tmps.getD t undef))) →
   wpAny P .any ops.toArray (fun ex a w => ∃ β e s,qd1 C β e s a w ∧ K ex e s) fuel listed a w:=by
 have done : ∀ (listed : Array Bool) (a : Act) (w : World),(∀ i,i < ops.length → listed.getD i false = true) → qd1 C β [] s a w →
  (∀ t x,look ops Ys (fun i=>listed.getD i false) e0 ops.length t = some x → t < N ∧ Rp w C.F β s (.s x (a.tmps.getD t undef))) → ∃ β e s,qd1 C β e s a w ∧ K .normal e s:=by
  intro listed a w hall inv hl
  refine ⟨β,_,s,inv.withEnv inv.size inv.defers (fun t x h=>?_),hK⟩
  rw [vx5] at h
  refine hl t x ?_
  rw [look_eq (i:=ops.length) (fun j oj hj _=>.inl ⟨(List.getElem?_eq_some_iff.1 hj).1,hall j (List.getElem?_eq_some_iff.1 hj).1⟩) ops.length (zb _)]
  exact h
 have nr : ∀ (listed : Array Bool),listed.size = ops.length → Closed ops listed → Region.ready .any ops.toArray listed = [] → ∀ i,i < ops.length → listed.getD i false = true:=by
  intro listed hsz hc hr i
  induction i using Nat.strongRecOn with
  | _ i ih =>
   intro hi
   cases hli : listed.getD i false with
   | true=>rfl
   | false =>
    exfalso
    have ho : ops[i]? = some ops[i]:=by simp [hi]
    have hm : i ∈ Region.ready .any ops.toArray listed:=by
     refine mem_ready.2 ⟨?_,ops[i],by simp [hi],fun e he hb=>?_⟩
     · have : i < listed.size:=by omega
       simp [this] at hli ⊢; exact hli
     · have:=(vq2 hD ho).1 e he hb
       exact ih e.on this (by omega)
    rw [hr] at hm; cases hm
 intro fuel
 induction fuel with
 | zero =>
  intro S listed a w hsz hc hS hSl inv hl
  have hS0 : S = []:=List.eq_nil_of_length_eq_zero (by omega)
  subst hS0
  have hall : ∀ i,i < ops.length → listed.getD i false = true:=fun i hi=>by
   cases h : listed.getD i false with
   | true=>rfl
   | false=>exact absurd (hS i hi h) (by simp)
  refine ⟨?_,done listed a w hall inv hl⟩
  cases hr : Region.ready .any ops.toArray listed with
  | nil=>rfl
  | cons j r =>
   have hm : j ∈ Region.ready .any ops.toArray listed:=by rw [hr]; simp
   obtain ⟨h1,o,h2, -⟩:=mem_ready.1 hm
   have hj : j < ops.length:=by
    have:=(Array.getElem?_eq_some_iff.1 h2).1
    simpa using this
   have:=hall j hj
   have hjs : j < listed.size:=by omega
   simp [hjs] at h1 this
   rw [h1] at this; cases this
 | succ fuel ih =>
  intro S listed a w hsz hc hS hSl inv hl
  refine ⟨fun hr=>done listed a w (nr listed hsz hc hr) inv hl,fun i hi=>?_⟩
  obtain ⟨h1,o,h2,hall⟩:=mem_ready.1 hi
  have ho : ops[i]? = some o:=by simpa using h2
  have hilt : i < ops.length:=(List.getElem?_eq_some_iff.1 ho).1
  have his : i < listed.size:=by omega
  have hnot : listed.getD i false = false:=by simp [his] at h1 ⊢; exact h1
  have hiS:=hS i hilt hnot
  have hok : ve9 N o = true:=List.all_eq_true.1 hB o (List.mem_of_getElem? ho)
  simp only [ve9,za] at hok
  obtain ⟨sp1,sp2⟩:=vq2 hD ho
  -- what the operation finds
  have invr : qd1 C β (rst (vc5 ops o) (vb3 ops Ys e0 i)) s a w:=inv.withEnv inv.size inv.defers fun t x h=>by
   obtain ⟨ht,hx⟩:=xn7 h
   rw [vx5] at hx
   refine hl t x ?_
   rw [look_eq (i:=i) (fun j oj hj hd=>?_) ops.length (by omega)]
   · exact hx
   · rcases (sp2 j oj t hj hd).1 ht with ⟨h3,h4⟩ | ⟨h3,h4⟩
     · exact .inl ⟨h3,ql7 hc ho hall h4⟩
     · refine .inr ⟨by omega,?_⟩
       cases hlj : listed.getD j false with
       | false=>rfl
       | true=>have:=qh6 hc _ j i hlj h4; rw [hnot] at this; cases this
  have hsz' : (listed.setIfInBounds i true).size = ops.length:=by simpa using hsz
  have hD' : ∀ j,(listed.setIfInBounds i true).getD j false = if j = i then true else listed.getD j false:=fun j=>by
   by_cases hj : j = i
   · subst hj; simp [his]
   · rw [if_neg hj,getD_set_ne false (Ne.symm hj)]
  have hc' : Closed ops (listed.setIfInBounds i true):=fun j oj hj hlj e he hb=>by
   rw [hD'] at hlj ⊢
   by_cases hji : j = i
   · subst hji
     rw [ho] at hj; cases hj
     split
     · rfl
     · exact hall e he hb
   · rw [if_neg hji] at hlj
     split
     · rfl
     · exact hc j oj hj hlj e he hb
  have hS' : ∀ j,j < ops.length → (listed.setIfInBounds i true).getD j false = false → j ∈ S.erase i:=fun j hj hlj=>by
   rw [hD'] at hlj
   by_cases hji : j = i
   · rw [if_pos hji] at hlj; cases hlj
   · rw [if_neg hji] at hlj
     exact (List.mem_erase_of_ne hji).2 (hS j hj hlj)
  have hSl' : (S.erase i).length ≤ fuel:=by
   have:=List.length_erase_of_mem hiS
   omega
  have next : ∀ v w',Below w.heap.size w w' → Rp w' C.F β s (.s (Ys i) v) → wpAny P .any ops.toArray (fun ex a w => ∃ β e s,qd1 C β e s a w ∧ K ex e s) fuel (listed.setIfInBounds i true) (a.put o.dst v) w':=by
   intro v w' hb hr
   have inv1:=(inv.grow hb).put o.dst hok.1 hr
   refine ih (S.erase i) _ _ _ hsz' hc' hS' hSl' (inv1.withEnv inv1.size inv1.defers (fun t x h=>by cases h)) fun t x hx=>?_
   obtain ⟨q1,q2⟩:=xm7 (Xs:=Ys) (e0:=e0) (D:=fun i=>listed.getD i false) (D':=fun j=>(listed.setIfInBounds i true).getD j false) ho hD' (t:=t) ops.length
   by_cases hd : o.dst = some t
   · rw [q2 hd (fun j oj hij hj hdj=>?_) hilt] at hx
     · cases hx
       have:=inv1.env t (Ys i) (by rw [ql0,if_pos hd])
       exact this
     · have h4:=(sp2 j oj t hj hdj).2 hd hij
       cases hlj : listed.getD j false with
       | false=>rfl
       | true=>have:=qh6 hc _ j i hlj h4; rw [hnot] at this; cases this
   · rw [q1 hd] at hx
     obtain ⟨h5,h6⟩:=hl t x hx
     refine ⟨h5,?_⟩
     have he : (a.put o.dst v).tmps.getD t undef = a.tmps.getD t undef:=by
      cases hod : o.dst with
      | none=>rfl
      | some d =>
       have hdt : d ≠ t:=fun h=>hd (by rw [hod,h])
       simp only [Act.put,qr4,if_neg (fun h : d = t ∧ _=>hdt h.1)]
     rw [he]
     exact grow_rp hb h6
  have hst:=hstep i o ho
  unfold xi7 at hst
  unfold wpOp
  rw [h2]
  simp only
  split at hst
  · rename_i hg
    obtain ⟨p,hs,hp⟩:=hst
    rw [if_pos (by simp [Region.wanted,hg])]
    exact .inl (qz5 hok.2 hs hp invr _ _ next)
  · rename_i j want hg
    obtain ⟨g,p,x,hv,hs,hp,hY⟩:=hst
    have hw:=qx6 invr hg hv
    rw [hw]
    cases g with
    | true =>
     simp only [if_true]
     exact .inl (qz5 hok.2 hs hp invr _ _ (fun v w' hb hr=>next v w' hb (by rw [hY]; exact .grdT hr)))
    | false =>
     simp only [zn,if_false]
     exact next undef w (Below.refl _ _) (by rw [hY]; exact .grdF)

theorem qi1 {K : Exit → Env → St → Prop} {e : Env} {s : St} {id : Nat} {l : List Oper} (hm : P.follows .mixedOrders = true) (hB : qg5 N l = true) (hD : drawB l = true) (ans : Ans)
 (h : ∀ K' : Exit → Env → St → Prop,(∀ e s,K .normal e s → K' .normal e s) → vcA P Γ ans l 0 l e s K') : Swp C (.region id l.toArray true) K e s:=by
 intro β a w inv
 have hv:=h (fun ex e s=>match ex with | .normal=>K .normal e s | _=>False) (fun e s h=>h)
 obtain ⟨Ys, -,h2,h3⟩:=ye9 (P:=P) (Γ := Γ) (ops:=l) e l 0 (fun _=>.junk) (fun j=>by simp) hv
 have inv1 : qd1 C β e s a { w with drawn:=w.drawn + 1 }:=inv.grow ((Below.refl w.heap.size w).drew)
 refine wp_mono (wp_region_any hm (yo0 (C:=C) (K:=fun ex e s=>match ex with | .normal=>K .normal e s | _=>False) hB hD (fun j o ho=>h2 j o (Nat.zero_le _) ho) h3 β l.toArray.size (List.range l.length) (Array.replicate l.toArray.size false) a _ (by simp) (fun j o _ hl=>?_) (fun i hi _=>List.mem_range.2 hi) (by simp) (inv1.withEnv inv1.size inv1.defers (fun t x h=>by cases h)) (fun t x hx=>?_))) ?_
 · exfalso
   rcases zo j l.toArray.size with h | h
   · simp at h; simp [h] at hl
   · simp at h; simp [h] at hl
 · refine inv1.env t x ?_
   have : ∀ n,look l Ys (fun i=>(Array.replicate l.toArray.size false).getD i false) e n t = lk t e:=fun n=>by
    induction n with
    | zero=>rfl
    | succ n ih =>
     unfold look
     cases l[n]? with
     | none=>exact ih
     | some o =>
      have hf : (Array.replicate l.toArray.size false).getD n false = false:=by
       rcases zo n l.toArray.size with h | h
       · simp at h; simp [h]
       · simp at h; simp [h]
      simp only [hf,zn,and_false,if_false]
      exact ih
   rw [this] at hx
   exact hx
 · rintro ex a w ⟨β,e,s,g1,g2⟩
   cases ex with
   | normal=>exact ⟨β,e,s,g1,g2⟩
   | _=>exact g2.elim

theorem yj5 {ans : Ans} {ops : List Oper} {s : St} {K : Exit → Env → St → Prop} : ∀ {l : List Oper} {i : Nat} {e : Env},qg5 N l = true → vcA P Γ ans ops i l e s K → Stop C ops l e s K
 | [],i,e,_,h=>fun β a w inv=>⟨β,e,s,inv,h⟩
 | o :: rest,i,e,hB,h=>by
  simp only [qg5,List.all_cons,za,ve9] at hB
  obtain ⟨⟨hd,ho⟩,hB'⟩:=hB
  have rs : ∀ β a w,qd1 C β e s a w → qd1 C β (rst (vc5 ops o) e) s a w:=fun β a w inv=>inv.withEnv inv.size inv.defers fun t x h=>inv.env t x (xn7 h).2
  unfold vcA at h
  split at h
  · rename_i hg
    split at h
    · rename_i p x hs
      have ih:=yj5 (ops:=ops) hB' h.2
      intro β a w inv
      exact wpList_plain hg fun K' hK'=>qz5 ho hs h.1 (rs β a w inv) K' _ fun v w' hb hr=>hK' _ _ (ih β _ _ ((inv.grow hb).put o.dst hd hr))
    · exact h.elim
  · rename_i j want hg
    split at h
    · rename_i g hv
      split at h
      · rename_i p x hs
        have ih:=yj5 (ops:=ops) hB' h.2
        intro β a w inv
        have hw:=qx6 (rs β a w inv) hg hv
        cases g with
        | true =>
         refine wpList_step fun K' hK'=>?_
         rw [if_pos hw]
         exact qz5 ho hs h.1 (rs β a w inv) K' _ fun v w' hb hr=>hK' _ _ (ih β _ _ ((inv.grow hb).put o.dst hd (.grdT hr)))
        | false=>exact wpList_skip hw (ih β _ _ (inv.put o.dst hd .grdF))
      · exact h.elim
    · exact h.elim
theorem xk3 {K : Exit → Env → St → Prop} {e : Env} {s : St} {id : Nat} {l : List Oper} (hB : qg5 N l = true) (ans : Ans)
 (h : ∀ K' : Exit → Env → St → Prop,(∀ e s,K .normal e s → K' .normal e s) → vcA P Γ ans l 0 l e s K') : Swp C (.region id l.toArray false) K e s :=
 fun β a w inv=>wp_mono (wp_region_lit (yj5 hB (h (fun ex e s=>match ex with | .normal=>K .normal e s | _=>False) (fun e s h=>h)) β a w inv)) fun ex a w ⟨β,e,s,h1,h2⟩=>by
  cases ex with
  | normal=>exact ⟨β,e,s,h1,h2⟩
  | _=>exact h2.elim
end
end Go.Sw
namespace Go.Sw
open Go.RowKit

section
variable {P : Program} {N : Nat} {Γ : Gl} {C : Cx P N Γ}

def qj1 : Nat → List D → Env
 | _,[]=>[]
 | i,x :: l=>(i,.d x) :: qj1 (i + 1) l
theorem yb8 : ∀ {l : List D} {i t : Nat} {x : SV},lk t (qj1 i l) = some x → ∃ j d,t = i + j ∧ l[j]? = some d ∧ x = .d d
 | y :: l,i,t,x,h=>by
  unfold qj1 lk at h
  by_cases hti : t = i
  · subst hti
    simp at h; subst h
    exact ⟨0,y,by omega,rfl,rfl⟩
  · rw [qf5 hti,cond_false] at h
    obtain ⟨j,d,h1,h2,h3⟩:=yb8 h
    exact ⟨j + 1,d,by omega,by simpa using h2,h3⟩

def qa2 (P : Program) (e : Env) (s : St) : ResultVar → Option (Prop × SV)
 | .tmp t=>some (True,val e (.tmp t))
 | .cell ad t=>match val e (.tmp ad) with
  | .ref i off=>match lk i s with
   | some (.cells cs)=>qy6 P t (cs.drop off)
   | _=>none
  | _=>none
def qd5 (P : Program) (e : Env) (s : St) : List ResultVar → Option (Prop × List SV)
 | []=>some (True,[])
 | r :: l=>match qa2 P e s r,qd5 P e s l with
  | some (p,x),some (q,xs)=>some (p ∧ q,x :: xs)
  | _,_=>none
def qd6 : List SV → SV
 | [x]=>x
 | l=>.tup l
def qf7 (P : Program) (rs : List ResultVar) (ret : D) : Exit → Env → St → Prop
 | .normal,e,s | .ret,e,s=>match qd5 P e s rs with
  | some (p,vs)=>p ∧ (qd6 vs).toD s = some ret
  | none=>False
 | _,_,_=>False

def resF (tmps : Array Value) : ResultVar → Sem Value
 | .tmp t=>pure (tmps.getD t undef)
 | .cell a t=>do loadVar t (← asAddr (tmps.getD a undef))
theorem xw8 {β : Nat → Value} {e : Env} {s : St} {a : Act} {w : World} (inv : qd1 C β e s a w) {r : ResultVar} {p : Prop} {x : SV} (h : qa2 P e s r = some (p,x)) (hp : p) : ∃ u,(resF a.tmps r).run P w = .ok u w ∧ Rp w C.F β s (.s x u):=by
 cases r with
 | tmp t =>
  simp only [qa2,Option.some.injEq,Prod.mk.injEq] at h
  obtain ⟨-,rfl⟩:=h
  exact ⟨_,rfl,qb9 inv (.tmp t) rfl⟩
 | cell ad t =>
  simp only [qa2] at h
  split at h
  · rename_i i off hv
    split at h
    · rename_i cs hl
      have hq:=qb9 inv (.tmp ad) rfl
      rw [hv] at hq
      obtain ⟨b,hu,hb⟩:=yd1 hq
      obtain ⟨t',us,h1,h2,h3,h4⟩:=vn1 inv hl hb
      obtain ⟨v,h5,h6⟩:=vj1 h hp (h2.ss_drop off) b off (fun j u hj=>h4 _ u (by rw [List.getElem?_drop] at hj; simpa using hj))
      simp only [Act.eval] at hu
      exact ⟨v,by simp [resF,hu,asAddr,h5],h6⟩
    · cases h
  · cases h
theorem xs6 {β : Nat → Value} {e : Env} {s : St} {a : Act} {w : World} (inv : qd1 C β e s a w) : ∀ {rs : List ResultVar} {p : Prop} {vs : List SV},qd5 P e s rs = some (p,vs) → p → ∃ us,(rs.mapM (resF a.tmps)).run P w = .ok us w ∧ Rp w C.F β s (.ss vs us)
 | [],p,vs,h,hp=>by
  simp only [qd5,Option.some.injEq,Prod.mk.injEq] at h
  obtain ⟨-,rfl⟩:=h
  exact ⟨[],rfl,.ssn⟩
 | r :: rs,p,vs,h,hp=>by
  simp only [qd5] at h
  split at h
  · rename_i p1 x1 q1 xs h1 h2
    simp only [Option.some.injEq,Prod.mk.injEq] at h
    obtain ⟨rfl,rfl⟩:=h
    obtain ⟨u,g1,g2⟩:=xw8 inv h1 hp.1
    obtain ⟨us,g3,g4⟩:=xs6 inv h2 hp.2
    exact ⟨u :: us,by simp [g1,g3],.ssc g2 g4⟩
  · cases h
theorem vl0 {β : Nat → Value} {e : Env} {s : St} {a : Act} {w : World} (inv : qd1 C β e s a w) {fn : Func} {rs : List ResultVar} (hrs : fn.results = rs.toArray) {p : Prop} {vs : List SV} (h : qd5 P e s rs = some (p,vs)) (hp : p) :
 ∃ u,(results fn a.tmps).run P w = .ok u w ∧ Rp w C.F β s (.s (qd6 vs) u):=by
 obtain ⟨us,h1,h2⟩:=xs6 inv h hp
 have he : results fn a.tmps = (do let vs ← fn.results.mapM (resF a.tmps); pure (if h : vs.size = 1 then vs[0] else .tuple vs)):=by
  unfold results
  congr 1
 rw [he,hrs,List.mapM_toArray]
 simp only [Sem.run_bind,Sem.run_map,h1,Result.andThen_ok,Sem.run_pure]
 cases vs with
 | nil =>
  cases h2
  exact ⟨_,rfl,by simpa [qd6] using Rp.tup (w:=w) (F:=C.F) (β := β) (s:=s) .ssn⟩
 | cons x l =>
  cases l with
  | nil =>
   cases h2 with
   | ssc hx hl=>cases hl; exact ⟨_,rfl,by simpa [qd6] using hx⟩
  | cons y l =>
   have hlen:=h2.ss_len
   exact ⟨.tuple us.toArray,by rw [dif_neg (by simp [hlen])],.tup h2⟩

theorem qa4 {f : FuncId} {fn : Func} {c : Code} (hf : P.funcs[f]? = some fn) (hb : fn.body = some c) (hname : (fn.name == "runtime.NumGoroutine") = false) (hN : fn.ntmps = N) {rs : List ResultVar} (hrs : fn.results = rs.toArray) {args : List D} {ret : D}
 (hlen : args.length ≤ N) (h : ∀ C : Cx P N Γ,C.s0 = [] → Swp C c (qf7 P rs ret) (qj1 0 args) []) : DFn P Γ f args ret:=by
 refine ⟨by simp [xx5,hf,hb,hname],fun F w us hG hNG hF hargs=>?_⟩
 have hul:=hargs.ds_len
 let C : Cx P N Γ := ⟨F,fun _=>undef,[],w,[],fun b hb=>(hF b hb).1⟩
 have inv : qd1 C (fun _=>undef) (qj1 0 args) [] { tmps:=us.toArray ++ Array.replicate (fn.ntmps - us.toArray.size) undef,defers:=[] } w:=by
  refine ⟨⟨fun i bx h=>(by cases h),fun i j b1 b2 b h=>(by cases h),fun i bx b h=>(by cases h),fun b hb=>(hF b hb).2⟩,fun i bx b h=>(by cases h),fun t x hx=>?_,by simp [hul,hN]; omega,rfl,hG,hNG,⟨rfl,rfl,rfl,Nat.le_refl _,fun _ _ _=>rfl,fun i bx b h=>(by cases h),fun i c1 c2 h=>(by cases h),fun i bx h=>(by cases h)⟩⟩
  obtain ⟨j,d,h1,h2,rfl⟩:=yb8 hx
  have hj : j < args.length:=(List.getElem?_eq_some_iff.1 h2).1
  obtain ⟨u,h3,h4⟩:=RpD.ds_get j hargs h2
  obtain rfl : t = j:=by omega
  refine ⟨by omega,.d ?_⟩
  have hM : Mut C.F (fun _=>undef) ([] : St) = F:=by
   funext b
   simp only [Mut,eq_iff_iff]
   exact ⟨fun h=>h.resolve_right (fun ⟨i,bx,h,_⟩=>by cases h),.inl⟩
  rw [hM]
  have : (us.toArray ++ Array.replicate (fn.ntmps - us.toArray.size) undef).getD t undef = u:=by
   have ht : t < us.toArray.size:=by simp [hul]; exact hj
   rw [Array.getD_eq_getD_getElem?,Array.getElem?_append_left ht]
   simp [h3]
  rw [this]
  exact h4
 refine calls_of_wp hf hb (wp_mono (h C rfl _ _ _ inv) ?_)
 rintro ex a w' ⟨β,e,s,inv',hk⟩
 have key : (match qd5 P e s rs with | some (p,vs)=>p ∧ (qd6 vs).toD s = some ret | none=>False) → a.defers = [] ∧ ∃ v,(results fn a.tmps).run P w' = .ok v w' ∧ ∃ u,Ending.returned v = .returned u ∧ Below w.heap.size w w' ∧ RpD w' F (.d ret u):=by
  intro hk
  split at hk
  · rename_i p vs hr
    obtain ⟨u,h1,h2⟩:=vl0 inv' hrs hr hk.1
    refine ⟨inv'.defers,u,h1,u,rfl,⟨inv'.since.os,inv'.since.tape,inv'.since.output,inv'.since.size,fun b hb=>inv'.since.heap b hb (fun i bx h=>by cases h)⟩,?_⟩
    have:=vn2 inv' (s':=[]) (fun i bx h=>by cases h) _ ret u h2 hk.2 (fun i _=>rfl)
    exact this.keep (fun _ _ _=>rfl) (fun b _ h=>.inl h)
  · exact hk.elim
 cases ex with
 | normal=>exact key hk
 | ret=>exact key hk
 | _=>exact hk.elim
end
end Go.Sw
namespace Go.Sw
open Go.RowKit

theorem nbeq (a b : Nat) : Nat.beq a b = (a == b):=by
 by_cases h : a = b
 · subst h; simp
 · rw [qf5 h]; simp [h]
theorem nble (a b : Nat) : Nat.ble a b = decide (a ≤ b):=by
 by_cases h : a ≤ b
 · rw [Nat.ble_eq_true_of_le h]; simp [h]
 · have : Nat.ble a b = false:=by
    cases hb : Nat.ble a b
    · rfl
    · exact absurd (Nat.le_of_ble_eq_true hb) h
   simp [this,h]
section
variable {P : Program} {N : Nat} {Γ : Gl} {C : Cx P N Γ} {K : Exit → Env → St → Prop} {e : Env} {s : St} {b : Code}
def gcB (l : List Oper) : Bool:=l.all fun o=>match o.guard,o.op with | some _,.call c=>(match c.callee with | .builtin _=>true | _=>false) | _,_=>true
theorem qr3 {id : Nat} {l : List Oper} (hB : qg5 N l = true) (hG : gcB l = true) (h : ∀ K' : Exit → Env → St → Prop,(∀ e s,K .normal e s → K' .normal e s) → qo0 C l l e s K') : Swp C (.region id l.toArray false) K e s:=qg2 hB h
theorem qo9 (h : Swp C b K e s) : ym9 C b K .normal e s:=h
theorem xo6 {i : Nat} (h : K (.exit i) e s) : ym9 C b K (.exit i) e s:=h
theorem xr0 (h : K .ret e s) : ym9 C b K .ret e s:=h
theorem xr8 {id : Nat} (h : K .normal e s) : xu4 id K .normal e s:=h
theorem xp5 {id : Nat} (h : K .ret e s) : xu4 id K .ret e s:=h
theorem vt9 {id : Nat} (h : K .normal e s) : xu4 id K (.exit id) e s:=by simpa [xu4] using h
theorem vx4 {id i : Nat} (hi : Nat.beq i id = false) (h : K (.exit i) e s) : xu4 id K (.exit i) e s:=by
 have : i ≠ id:=fun he=>by subst he; simp at hi
 simpa [xu4,this] using h
theorem vw1 {α : Type} {E : α → Env} {S : α → St} {I : α → Prop} {μ : α → Nat} {x : α} {i : Nat} (h : K (.exit i) e s) : yk6 C E S I μ x K (.exit i) e s:=h
theorem vu3 {α : Type} {E : α → Env} {S : α → St} {I : α → Prop} {μ : α → Nat} {x : α} (h : K .ret e s) : yk6 C E S I μ x K .ret e s:=h
end
end Go.Sw
namespace Go.Sw
open Go.RowKit
class Ctl (G : Prop) (H : outParam Prop) : Prop where
 go : H → G
class NE (i j : Nat) : Prop where
 h : Nat.beq i j = false
instance {j : Nat} : NE 0 (j + 1):=⟨rfl⟩
instance {i : Nat} : NE (i + 1) 0:=⟨rfl⟩
instance {i j : Nat} [x : NE i j] : NE (i + 1) (j + 1):=⟨x.h⟩
theorem zz1 {G H : Prop} [c : Ctl G H] (h : H) : G:=c.go h
section
variable {P : Program} {N : Nat} {Γ : Gl} {C : Cx P N Γ} {K : Exit → Env → St → Prop} {e : Env} {s : St}
instance {x y : Code} : Ctl (Swp C (.seq x y) K e s) (Swp C x (ym9 C y K) e s):=⟨ql8⟩
instance {id : Nat} {c : Code} : Ctl (Swp C (.block id c) K e s) (Swp C c (xu4 id K) e s):=⟨qz4⟩
instance : Ctl (Swp C .skip K e s) (K .normal e s):=⟨qr8⟩
instance : Ctl (Swp C .ret K e s) (K .ret e s):=⟨vw8⟩
instance {id : Nat} : Ctl (Swp C (.exit id) K e s) (K (.exit id) e s):=⟨vh7⟩
instance {l : Nat} : Ctl (Swp C (.label l) K e s) (K .normal e s):=⟨qz2⟩
instance {b : Code} : Ctl (ym9 C b K .normal e s) (Swp C b K e s):=⟨qo9⟩
instance {b : Code} {i : Nat} : Ctl (ym9 C b K (.exit i) e s) (K (.exit i) e s):=⟨xo6⟩
instance {b : Code} : Ctl (ym9 C b K .ret e s) (K .ret e s):=⟨xr0⟩
instance {id : Nat} : Ctl (xu4 id K .normal e s) (K .normal e s):=⟨xr8⟩
instance {id : Nat} : Ctl (xu4 id K .ret e s) (K .ret e s):=⟨xp5⟩
instance {id : Nat} : Ctl (xu4 id K (.exit id) e s) (K .normal e s):=⟨vt9⟩
instance {id i : Nat} [x : NE i id] : Ctl (xu4 id K (.exit i) e s) (K (.exit i) e s):=⟨vx4 x.h⟩
instance {α : Type} {E : α → Env} {S : α → St} {I : α → Prop} {μ : α → Nat} {x : α} {i : Nat} : Ctl (yk6 C E S I μ x K (.exit i) e s) (K (.exit i) e s):=⟨vw1⟩
instance {α : Type} {E : α → Env} {S : α → St} {I : α → Prop} {μ : α → Nat} {x : α} : Ctl (yk6 C E S I μ x K .ret e s) (K .ret e s):=⟨vu3⟩
theorem zz2 {id : Nat} {l : List Oper} (hB : (qg5 N l && gcB l) = true) (h : ∀ K' : Exit → Env → St → Prop,(∀ e s,K .normal e s → K' .normal e s) → qo0 C l l e s K') : Swp C (.region id l.toArray false) K e s:=by
 rw [Bool.and_eq_true] at hB
 exact qr3 hB.1 hB.2 h
theorem zz3 {n : Nat} {t : Bool} {x y : Code} (hv : val e (.tmp n) = .d (.v (.bool t))) (h1 : t = true → Swp C x K e s) (h2 : t = false → Swp C y K e s) : Swp C (.cond (.tmp n) x y) K e s:=qn6 rfl ⟨t,hv,h1,h2⟩
end
end Go.Sw
namespace Go.Sw
open Go.RowKit
open _root_.Nat renaming lt_of_lt_of_le → za, le_refl → ze, le_trans → zf

section
variable {P : Program} {N : Nat} {Γ : Gl} {C : Cx P N Γ}

def SFn (P : Program) (Γ : Gl) (f : FuncId) (args : List SV) (s : St) (ret : SV) (s' : St) : Prop :=
 xx5 P f = true ∧ ∀ (F : Nat → Prop) (β : Nat → Value) (w : World) (us : List Value), Γ.G w → Γ.NG ≤ w.heap.size → WR F β s w → (hl : ∀ b,F b → Γ.NG ≤ b) → (∀ i bx b,lk i s = some bx → blk (β i) = some b → Γ.NG ≤ b) → Rp w F β s (.ss args us) →
  Calls P f us.toArray w fun e w' => ∃ v β',e = .returned v ∧ WR F β' s' w' ∧ Rp w' F β' s' (.s ret v) ∧ Since (⟨F, β,s,w,[],hl⟩ : Cx P 0 Γ) β' s' w' ∧ Γ.G w' ∧ ∀ i bx b,lk i s' = some bx → blk (β' i) = some b → Γ.NG ≤ b

def GFn (ok : Ending → Value → Prop) (P : Program) (Γ : Gl) (f : FuncId) (args : List SV) (s : St) (ret : SV) (s' : St) : Prop :=
 xx5 P f = true ∧ ∀ (F : Nat → Prop) (β : Nat → Value) (w : World) (us : List Value), Γ.G w → Γ.NG ≤ w.heap.size → WR F β s w → (hl : ∀ b,F b → Γ.NG ≤ b) → (∀ i bx b,lk i s = some bx → blk (β i) = some b → Γ.NG ≤ b) → Rp w F β s (.ss args us) →
  Calls P f us.toArray w fun e w' => ∃ v β',ok e v ∧ WR F β' s' w' ∧ Rp w' F β' s' (.s ret v) ∧ Since (⟨F, β,s,w,[],hl⟩ : Cx P 0 Γ) β' s' w' ∧ Γ.G w' ∧ ∀ i bx b,lk i s' = some bx → blk (β' i) = some b → Γ.NG ≤ b

def vg9 : Nat → List SV → Env
 | _,[]=>[]
 | i,x :: l=>(i,x) :: vg9 (i + 1) l
theorem xg5 : ∀ {l : List SV} {i t : Nat} {x : SV},lk t (vg9 i l) = some x → ∃ j,t = i + j ∧ l[j]? = some x
 | y :: l,i,t,x,h=>by
  unfold vg9 lk at h
  by_cases hti : t = i
  · subst hti
    simp at h; subst h
    exact ⟨0,by omega,rfl⟩
  · rw [qf5 hti,cond_false] at h
    obtain ⟨j,h1,h2⟩:=xg5 h
    exact ⟨j + 1,by omega,by simpa using h2⟩
def qf8 (C : Cx P N Γ) (rs : List ResultVar) (ret : SV) (s' : St) : Exit → Env → St → Prop
 | .normal,e,s | .ret,e,s=>match qd5 P e s rs with
  | some (p,vs)=>p ∧ qe6 C.s0 s' ∧ xx3 s s' s' ∧ FZ s s' (qd6 vs) ret
  | none=>False
 | _,_,_=>False

theorem qe0 {f : FuncId} {fn : Func} {c : Code} (hf : P.funcs[f]? = some fn) (hb : fn.body = some c) (hname : (fn.name == "runtime.NumGoroutine") = false) (hN : fn.ntmps = N) {rs : List ResultVar} (hrs : fn.results = rs.toArray) {args : List SV} {ret : SV} {s s' : St}
 (hlen : args.length ≤ N) (h : ∀ C : Cx P N Γ,C.s0 = s → Swp C c (qf8 C rs ret s') (vg9 0 args) s) : SFn P Γ f args s ret s':=by
 refine ⟨by simp [xx5,hf,hb,hname],fun F β w us hG hNG hW hl hbase hargs=>?_⟩
 have hul:=hargs.ss_len
 let C : Cx P N Γ := ⟨F, β,s,w,[],hl⟩
 have inv : qd1 C β (vg9 0 args) s { tmps:=us.toArray ++ Array.replicate (fn.ntmps - us.toArray.size) undef,defers:=[] } w:=by
  refine ⟨hW,hbase,fun t x hx=>?_,by simp [hul,hN]; omega,rfl,hG,hNG,⟨rfl,rfl,rfl,ze _,fun _ _ _=>rfl,fun i bx b h h2=>.inr ⟨i,bx,h,h2⟩,fun i c1 c2 h h2=>rfl,fun i bx h=>by rw [h]; simp⟩⟩
  obtain ⟨j,h1,h2⟩:=xg5 hx
  have hj : j < args.length:=(List.getElem?_eq_some_iff.1 h2).1
  obtain ⟨u,h3,h4⟩:=Rp.ss_get j hargs h2
  obtain rfl : t = j:=by omega
  refine ⟨by omega,?_⟩
  have : (us.toArray ++ Array.replicate (fn.ntmps - us.toArray.size) undef).getD t undef = u:=by
   have ht : t < us.toArray.size:=by simp [hul]; exact hj
   rw [Array.getD_eq_getD_getElem?,Array.getElem?_append_left ht]
   simp [h3]
  rw [this]
  exact h4
 refine calls_of_wp hf hb (wp_mono (h C rfl _ _ _ inv) ?_)
 rintro ex a w' ⟨β1,e,s1,inv',hk⟩
 have key : (match qd5 P e s1 rs with | some (p,vs)=>p ∧ qe6 C.s0 s' ∧ xx3 s1 s' s' ∧ FZ s1 s' (qd6 vs) ret | none=>False) → a.defers = [] ∧ ∃ v,(results fn a.tmps).run P w' = .ok v w' ∧
  ∃ u β',Ending.returned v = .returned u ∧ WR F β' s' w' ∧ Rp w' F β' s' (.s ret u) ∧ Since (⟨F, β,s,w,[],hl⟩ : Cx P 0 Γ) β' s' w' ∧ Γ.G w' ∧ ∀ i bx b,lk i s' = some bx → blk (β' i) = some b → Γ.NG ≤ b:=by
  intro hk
  split at hk
  · rename_i p vs hr
    obtain ⟨u,h1,h2⟩:=vl0 inv' hrs hr hk.1
    obtain ⟨-,k1,k2,k3⟩:=hk
    refine ⟨inv'.defers,u,h1,u,?_⟩
    have hrp:=FZ.rp inv' k2 (qd6 vs) ret u k3 h2
    have i2:=yx1 (e':=[]) rfl k1 k2 trivial inv'
    exact ⟨β1,rfl,i2.wr,hrp,⟨i2.since.os,i2.since.tape,i2.since.output,i2.since.size,i2.since.heap,i2.since.boxes,i2.since.cells,i2.since.keep⟩,i2.glob,i2.base⟩
  · exact hk.elim
 cases ex with
 | normal=>exact key hk
 | ret=>exact key hk
 | _=>exact hk.elim

mutual
def hin (s : St) : SV → Prop
 | .ref i _=>(lk i s).isSome = true
 | .own i=>(lk i s).isSome = true
 | .eref i _ _=>(lk i s).isSome = true
 | .sref i _=>(lk i s).isSome = true
 | .mp i=>(lk i s).isSome = true
 | .agg cs=>hins s cs
 | .tup cs=>hins s cs
 | .clo _ cs=>hins s cs
 | .grd g x=>g = true → hin s x
 | .d _=>True
 | .nil=>True
 | .fptr _ _=>True
 | .junk=>True
def hins (s : St) : List SV → Prop
 | []=>True
 | x :: l=>hin s x ∧ hins s l
end
theorem Rp.map {w : World} {F1 F2 : Nat → Prop} {β1 β2 : Nat → Value} {s1 s2 : St} (hm : ∀ b,Mut F2 β2 s2 b → Mut F1 β1 s1 b) (hh : ∀ i bx,lk i s1 = some bx → (lk i s2).isSome = true → lk i s2 = some bx ∧ β2 i = β1 i) :
 ∀ {t : Tg2},Rp w F1 β1 s1 t → (match t with | .s x u=>Sw.hin s2 x | .ss l us=>hins s2 l) → Rp w F2 β2 s2 t:=by
 intro t h
 induction h with
 | d h=>intro _; exact .d (h.keep (fun _ _ _=>rfl) (fun b _ h=>hm b h))
 | nil=>intro _; exact .nil
 | agg _ ih=>intro k; simp only [Sw.hin] at k; exact .agg (ih k)
 | tup _ ih=>intro k; simp only [Sw.hin] at k; exact .tup (ih k)
 | ref hl hb =>
  intro k
  simp only [Sw.hin] at k
  obtain ⟨h1,h2⟩:=hh _ _ hl k
  exact .ref h1 (h2.trans hb)
 | sref hl hb =>
  intro k
  simp only [Sw.hin] at k
  obtain ⟨h1,h2⟩:=hh _ _ hl k
  exact .sref h1 (h2.trans hb)
 | fptr h=>intro _; exact .fptr (h.keep (fun _ _ _=>rfl) (fun b _ h=>hm b h))
 | own hl =>
  intro k
  simp only [Sw.hin] at k
  obtain ⟨h1,h2⟩:=hh _ _ hl k
  rw [← h2]
  exact .own h1
 | eref hl hi hb =>
  intro k
  simp only [Sw.hin] at k
  obtain ⟨h1,h2⟩:=hh _ _ hl k
  exact .eref h1 hi (h2.trans hb)
 | mp hl =>
  intro k
  simp only [Sw.hin] at k
  obtain ⟨h1,h2⟩:=hh _ _ hl k
  rw [← h2]
  exact .mp h1
 | clo _ ih=>intro k; simp only [Sw.hin] at k; exact .clo (ih k)
 | grdF=>intro _; exact .grdF
 | grdT _ ih=>intro k; simp only [Sw.hin] at k; exact .grdT (ih (k trivial))
 | junk=>intro _; exact .junk
 | ssn=>intro _; exact .ssn
 | ssc _ _ i1 i2=>intro k; exact .ssc (i1 k.1) (i2 k.2)
theorem Rp.mapAll {w : World} {F1 F2 : Nat → Prop} {β1 β2 : Nat → Value} {s1 s2 : St} (hm : ∀ b,Mut F2 β2 s2 b → Mut F1 β1 s1 b) (hh : ∀ i bx,lk i s1 = some bx → lk i s2 = some bx ∧ β2 i = β1 i) :
 ∀ {t : Tg2},Rp w F1 β1 s1 t → Rp w F2 β2 s2 t:=by
 intro t h
 induction h with
 | d h=>exact .d (h.keep (fun _ _ _=>rfl) (fun b _ h=>hm b h))
 | nil=>exact .nil
 | agg _ ih=>exact .agg ih
 | tup _ ih=>exact .tup ih
 | ref hl hb=>obtain ⟨h1,h2⟩:=hh _ _ hl; exact .ref h1 (h2.trans hb)
 | sref hl hb=>obtain ⟨h1,h2⟩:=hh _ _ hl; exact .sref h1 (h2.trans hb)
 | fptr h=>exact .fptr (h.keep (fun _ _ _=>rfl) (fun b _ h=>hm b h))
 | own hl=>obtain ⟨h1,h2⟩:=hh _ _ hl; rw [← h2]; exact .own h1
 | eref hl hi hb=>obtain ⟨h1,h2⟩:=hh _ _ hl; exact .eref h1 hi (h2.trans hb)
 | mp hl=>obtain ⟨h1,h2⟩:=hh _ _ hl; rw [← h2]; exact .mp h1
 | clo _ ih=>exact .clo ih
 | grdF=>exact .grdF
 | grdT _ ih=>exact .grdT ih
 | junk=>exact .junk
 | ssn=>exact .ssn
 | ssc _ _ i1 i2=>exact .ssc i1 i2

def mrg : St → St → St
 | [],sc=>sc
 | (i,b) :: r,sc=>put i b (mrg r sc)
theorem xr6 (i : Nat) (sc : St) : ∀ s' : St,lk i (mrg s' sc) = match lk i s' with | some b=>some b | none=>lk i sc
 | []=>rfl
 | (j,b) :: r=>by
  unfold mrg
  by_cases hij : i = j
  · subst hij; rw [qb3]; simp [lk]
  · rw [qb0 _ hij,xr6 i sc r]; simp only [lk,qf5 hij,cond_false]
def rowsOf : St → List Nat
 | []=>[]
 | (i,.row _ _) :: s=>i :: rowsOf s
 | (i,.mp _) :: s=>i :: rowsOf s
 | (_,.cells _) :: s=>rowsOf s
theorem vr2 : ∀ {s : St} {i k : Nat} {L : List D},lk i s = some (.row k L) → i ∈ rowsOf s
 | (j, b) :: s,i,k,L,h=>by
  unfold lk at h
  by_cases hij : i = j
  · subst hij
    simp at h; subst h
    simp [rowsOf]
  · rw [qf5 hij,cond_false] at h
    have:=vr2 h
    cases b <;> simp [rowsOf,this]
theorem vr1 : ∀ {s : St} {i : Nat} {M : List (Value × Value)},lk i s = some (.mp M) → i ∈ rowsOf s
 | (j, b) :: s,i,M,h=>by
  unfold lk at h
  by_cases hij : i = j
  · subst hij
    simp at h; subst h
    simp [rowsOf]
  · rw [qf5 hij,cond_false] at h
    have:=vr1 h
    cases b <;> simp [rowsOf,this]
def vw5 (sc : St) : St → Prop
 | []=>True
 | (i,.cells cs) :: r=>(match lk i sc with | some (.cells cs')=>cs' = cs | _=>False) ∧ vw5 sc r
 | (i,.row k L) :: r=>(match lk i sc with | some (.row k' L')=>k' = k ∧ L' = L | _=>False) ∧ vw5 sc r
 | (i,.mp M) :: r=>(match lk i sc with | some (.mp M')=>M' = M | _=>False) ∧ vw5 sc r
theorem yh4 {sc : St} : ∀ {r : St},vw5 sc r → ∀ i bx,lk i r = some bx → lk i sc = some bx
 | (j, b) :: r,h,i,bx,hl=>by
  unfold lk at hl
  by_cases hij : i = j
  · subst hij
    simp at hl; subst hl
    cases b with
    | cells cs =>
     have h1:=h.1
     split at h1
     · rename_i cs' hl; subst h1; exact hl
     · exact h1.elim
    | row k L =>
     have h1:=h.1
     split at h1
     · rename_i k' L' hl; obtain ⟨rfl,rfl⟩:=h1; exact hl
     · exact h1.elim
    | mp M =>
     have h1:=h.1
     split at h1
     · rename_i M' hl; subst h1; exact hl
     · exact h1.elim
  · rw [qf5 hij,cond_false] at hl
    cases b <;> exact yh4 h.2 i bx hl
def newS (sc : St) : St → Prop
 | []=>True
 | (i,_) :: r=>(lk i sc).isNone = true ∧ newS sc r
theorem yh9 {sc : St} : ∀ {r : St},newS sc r → ∀ i b,lk i r = some b → lk i sc = none
 | (j, c) :: r,h,i,b,hl=>by
  unfold lk at hl
  by_cases hij : i = j
  · subst hij; exact Option.isNone_iff_eq_none.1 h.1
  · rw [qf5 hij,cond_false] at hl
    exact yh9 h.2 i b hl
def qn9 (sc : St) : St → St → Prop
 | [],r'=>newS sc r'
 | (i,.cells _) :: r,(j,.cells _) :: r'=>i = j ∧ qn9 sc r r'
 | (i,.row _ _) :: r,(j,.row _ _) :: r'=>i = j ∧ qn9 sc r r'
 | (i,.mp _) :: r,(j,.mp _) :: r'=>i = j ∧ qn9 sc r r'
 | _,_=>False
theorem qo8 {sc : St} : ∀ {s s' : St},qn9 sc s s' → ∀ i,(lk i s = none ∧ lk i s' = none) ∨ (∃ c c',lk i s = some (.cells c) ∧ lk i s' = some (.cells c')) ∨ (∃ k L k' L',lk i s = some (.row k L) ∧ lk i s' = some (.row k' L')) ∨ (∃ M M',lk i s = some (.mp M) ∧ lk i s' = some (.mp M')) ∨ (lk i s = none ∧ (∃ b,lk i s' = some b) ∧ lk i sc = none)
 | [],s',h,i=>by
  cases hl : lk i s' with
  | none=>exact .inl ⟨rfl,rfl⟩
  | some b=>exact .inr (.inr (.inr (.inr ⟨rfl,⟨b,rfl⟩,yh9 h i b hl⟩)))
 | (j,.cells c) :: r,(j',.cells c') :: r',h,i=>by
  obtain ⟨rfl,h⟩:=h
  by_cases hij : i = j
  · subst hij; exact .inr (.inl ⟨c,c',qb7 _ _ _,qb7 _ _ _⟩)
  · rw [qb6 hij,qb6 hij]; exact qo8 h i
 | (j,.row k L) :: r,(j',.row k' L') :: r',h,i=>by
  obtain ⟨rfl,h⟩:=h
  by_cases hij : i = j
  · subst hij; exact .inr (.inr (.inl ⟨k,L,k',L',qb7 _ _ _,qb7 _ _ _⟩))
  · rw [qb6 hij,qb6 hij]; exact qo8 h i
 | (j,.mp M) :: r,(j',.mp M') :: r',h,i=>by
  obtain ⟨rfl,h⟩:=h
  by_cases hij : i = j
  · subst hij; exact .inr (.inr (.inr (.inl ⟨M,M',qb7 _ _ _,qb7 _ _ _⟩)))
  · rw [qb6 hij,qb6 hij]; exact qo8 h i
def xb6 (sc s : St) (x y : SV) : Prop :=
 match y with
 | .d z=>x.toD sc = some z ∧ x.owns = []
 | _=>x = y ∧ hin s x
def xa4 (sc s : St) : List SV → List SV → Prop
 | [],[]=>True
 | x :: l,y :: l'=>xb6 sc s x y ∧ xa4 sc s l l'
 | _,_=>False
def vy7 (s : St) : St → Prop
 | []=>True
 | (_,.cells cs) :: r=>hins s cs ∧ vy7 s r
 | (_,.row _ _) :: r=>vy7 s r
 | (_,.mp _) :: r=>vy7 s r
theorem vx2 {s : St} : ∀ {r : St},vy7 s r → ∀ i cs,lk i r = some (.cells cs) → hins s cs
 | (j, b) :: r,h,i,cs,hl=>by
  unfold lk at hl
  by_cases hij : i = j
  · subst hij
    simp at hl; subst hl
    exact h.1
  · rw [qf5 hij,cond_false] at hl
    cases b with
    | cells c=>exact vx2 (r:=r) h.2 i cs hl
    | row=>exact vx2 (r:=r) h i cs hl
    | mp=>exact vx2 (r:=r) h i cs hl

theorem yr2 {ok : Ending → Value → Prop} {β : Nat → Value} {e : Env} {sc s s' : St} {a : Act} {w : World} (inv : qd1 C β e sc a w) (hsub : vw5 sc s) (hcl : vy7 s s) (hsame : qn9 sc s s') {f : FuncId} {xs args : List SV} {us : List Value} {ret : SV} (hargs : Rp w C.F β sc (.ss xs us)) (ha : xa4 sc s xs args) (hf : GFn ok P Γ f args s ret s') :
 Calls P f us.toArray w fun en w' => ∃ v β',ok en v ∧ qd1 C β' (jkE (inX (rowsOf s)) e) (mrg s' (jkS (inX (rowsOf s)) sc)) a w' ∧ Rp w' C.F β' (mrg s' (jkS (inX (rowsOf s)) sc)) (.s ret v):=by
 have hs:=yh4 hsub
 let F' : Nat → Prop:=fun b=>Mut C.F β sc b ∧ ¬ ∃ i bx,lk i s = some bx ∧ blk (β i) = some b
 have hm1 : ∀ b,Mut F' β s b → Mut C.F β sc b:=fun b h=>by
  rcases h with h | ⟨i,bx,h1,h2⟩
  · exact h.1
  · exact .inr ⟨i,bx,hs i bx h1,h2⟩
 have hm2 : ∀ b,Mut C.F β sc b → Mut F' β s b:=fun b h=>by
  by_cases hb : ∃ i bx,lk i s = some bx ∧ blk (β i) = some b
  · exact .inr hb
  · exact .inl ⟨h,hb⟩
 have into : ∀ {t : Tg2},Rp w C.F β sc t → (match t with | .s x u=>hin s x | .ss l us=>hins s l) → Rp w F' β s t:=fun h k=>Rp.map hm1 (fun i bx hl hi=>by
  obtain ⟨b2,h2⟩:=Option.isSome_iff_exists.1 hi
  have:=hs i b2 h2
  rw [hl] at this; cases this
  exact ⟨h2,rfl⟩) h k
 have hW : WR F' β s w:=by
  refine ⟨fun i bx h=>?_,fun i j b1 b2 b h1 h2=>inv.wr.inj i j b1 b2 b (hs i b1 h1) (hs j b2 h2),fun i bx b h h2 hF=>hF.2 ⟨i,bx,h,h2⟩,fun b h=>yh5 inv h.1⟩
  have hb:=inv.wr.boxes i bx (hs i bx h)
  cases bx with
  | cells cs =>
   obtain ⟨bb,t,us',h1,h2,h3,h4⟩:=hb
   exact ⟨bb,t,us',h1,h2,into h3 (vx2 hcl i cs h),h4⟩
  | row k L =>
   obtain ⟨g0,hk,el,xs',g1,g2,g3⟩:=hb
   exact ⟨g0,hk,el,xs',g1,g2.keep (fun _ _ _=>rfl) (fun b _ h=>hm1 b h),g3⟩
  | mp M=>exact hb
 have hargs' : Rp w F' β s (.ss args us):=by
  have : ∀ (xs args : List SV) (us : List Value),Rp w C.F β sc (.ss xs us) → xa4 sc s xs args → Rp w F' β s (.ss args us):=by
   intro xs
   induction xs with
   | nil=>intro args us h k; cases args with
    | nil=>cases h; exact .ssn
    | cons=>exact k.elim
   | cons x l ih=>intro args us h k; cases args with
    | nil=>exact k.elim
    | cons y l' =>
     cases h with
     | ssc hx hl =>
      refine .ssc ?_ (ih l' _ hl k.2)
      have k1:=k.1
      unfold xb6 at k1
      split at k1
      · rename_i z
        exact .d ((vn2 inv (s':=sc) (fun i bx h=>⟨bx,h⟩) x z _ hx k1.1 (by rw [k1.2]; intro i h; cases h)).keep (fun _ _ _=>rfl) (fun b _ h=>hm1 b h))
      · obtain ⟨rfl,k2⟩:=k1
        exact into hx k2
  exact this xs args us hargs ha
 refine (hf.2 F' β w us inv.glob inv.big hW (fun b hb=>xm5 inv hb.1) (fun i bx b h h2=>inv.base i bx b (hs i bx h) h2) hargs').mono ?_
 rintro en w' ⟨v, β1,hok,hW',hret,hsince,hG',hbase'⟩
 -- the new ghost
 let β2 : Nat → Value:=fun i=>match lk i s' with | some _ => β1 i | none => β i
 let X:=inX (rowsOf s)
 let sn:=mrg s' (jkS X sc)
 have hin' : ∀ i bx,lk i s' = some bx → β2 i = β1 i ∧ lk i sn = some bx:=fun i bx h=>⟨by simp only [β2,h],by simp only [sn,xr6,h]⟩
 have hout' : ∀ i,lk i s' = none → β2 i = β i ∧ lk i sn = (lk i sc).map (Box.jk X) ∧ lk i s = none:=fun i h=>⟨by simp only [β2,h],by simp only [sn,xr6,h,qj0],by
  rcases qo8 hsame i with h1 | ⟨c,c',h1,h2⟩ | ⟨k,L,k',L',h1,h2⟩ | ⟨M,M',h1,h2⟩ | ⟨h1,⟨gb,h2⟩,h3⟩
  · exact h1.1
  · rw [h] at h2; cases h2
  · rw [h] at h2; cases h2
  · rw [h] at h2; cases h2
  · exact h1⟩
 have hsz:=hsince.size
 have hblk : ∀ b,b < w.heap.size → (∀ i bx,lk i s = some bx → blk (β i) ≠ some b) → w'.heap[b]? = w.heap[b]? := hsince.heap
 have hFF : ∀ b,C.F b → F' b:=fun b h=>⟨.inl h,fun ⟨i,bx,h1,h2⟩=>inv.wr.apart i bx b (hs i bx h1) h2 h⟩
 have hmo : ∀ b,Mut C.F β2 sn b → Mut F' β1 s' b:=fun b h=>by
  rcases h with h | ⟨i,bx,h1,h2⟩
  · exact .inl (hFF b h)
  · cases hi : lk i s' with
    | some b2 =>
     obtain ⟨e1,e2⟩:=hin' i b2 hi
     rw [e1] at h2
     exact .inr ⟨i,b2,hi,h2⟩
    | none =>
     obtain ⟨e1,e2,e3⟩:=hout' i hi
     rw [e2] at h1
     rw [e1] at h2
     cases hc : lk i sc with
     | none=>rw [hc] at h1; cases h1
     | some bc =>
      refine .inl ⟨.inr ⟨i,bc,hc,h2⟩,fun ⟨j,bj,k1,k2⟩=>?_⟩
      have:=inv.wr.inj i j bc bj b hc (hs j bj k1) h2 k2
      subst this
      rw [e3] at k1; cases k1
 have outof : ∀ {t : Tg2},Rp w' F' β1 s' t → Rp w' C.F β2 sn t:=fun {t} h=>Rp.mapAll hmo (fun i bx hl=>⟨(hin' i bx hl).2,(hin' i bx hl).1⟩) h
 have hlt : ∀ i bx b,lk i sc = some bx → blk (β i) = some b → b < w.heap.size:=fun i bx b h h2=>(inv.wr.boxes i bx h).blk_lt h2
 have old : ∀ i,lk i s' = none → ∀ bx b,lk i sc = some bx → blk (β i) = some b → w'.heap[b]? = w.heap[b]? := fun i hi bx b hl hb=>hblk b (hlt i bx b hl hb) (fun j bj k1 k2=>by
  have:=inv.wr.inj i j bx bj b hl (hs j bj k1) hb k2
  subst this
  rw [(hout' i hi).2.2] at k1; cases k1)
 have hx : Ext X C.F w β sc w' β2 sn:=by
  refine ⟨fun b hb hm=>hblk b hb (fun i bx h1 h2=>hm (.inr ⟨i,bx,hs i bx h1,h2⟩)),fun b hb hm=>?_,fun i cs hX h=>?_,fun i k L hX h=>?_,fun i M hX h=>?_⟩
  · rcases hmo b hm with h | ⟨i,bx,h1,h2⟩
    · exact h.1
    · rcases hsince.boxes i bx b h1 h2 with h3 | ⟨j,bj,k1,k2⟩
      · exact absurd hb (Nat.not_lt.2 h3)
      · exact .inr ⟨j,bj,hs j bj k1,k2⟩
  · rcases qo8 hsame i with ⟨h1,h2⟩ | ⟨c,c',h1,h2⟩ | ⟨k,L,k',L',h1,h2⟩ | ⟨M,M',h1,h2⟩ | ⟨h1, -,h3⟩
    · obtain ⟨e1,e2, -⟩:=hout' i h2
      exact ⟨e1,SV.jks X cs,by rw [e2,h]; rfl⟩
    · obtain ⟨e1,e2⟩:=hin' i _ h2
      exact ⟨e1.trans (hsince.cells i c c' h1 h2),c',e2⟩
    · have:=hs i _ h1
      rw [h] at this; cases this
    · have:=hs i _ h1
      rw [h] at this; cases this
    · rw [h3] at h; cases h
  · rcases qo8 hsame i with ⟨h1,h2⟩ | ⟨c,c',h1,h2⟩ | ⟨k1,L1,k',L',h1,h2⟩ | ⟨M,M',h1,h2⟩ | ⟨h1, -,h3⟩
    · obtain ⟨e1,e2, -⟩:=hout' i h2
      exact ⟨e1,L,by rw [e2,h]; rfl,ze _⟩
    · have:=hs i _ h1
      rw [h] at this; cases this
    · have:=vu7 (vr2 h1)
      simp only [X] at hX
      rw [this] at hX; cases hX
    · have:=hs i _ h1
      rw [h] at this; cases this
    · rw [h3] at h; cases h
  · rcases qo8 hsame i with ⟨h1,h2⟩ | ⟨c,c',h1,h2⟩ | ⟨k1,L1,k',L',h1,h2⟩ | ⟨M1,M',h1,h2⟩ | ⟨h1, -,h3⟩
    · obtain ⟨e1,e2, -⟩:=hout' i h2
      exact ⟨e1,M,by rw [e2,h]; rfl⟩
    · have:=hs i _ h1
      rw [h] at this; cases this
    · have:=hs i _ h1
      rw [h] at this; cases this
    · have:=vu7 (vr1 h1)
      simp only [X] at hX
      rw [this] at hX; cases hX
    · rw [h3] at h; cases h
 refine ⟨v, β2,hok,inv.step hx ⟨fun i bx h=>?_,fun i j b1 b2 b h1 h2 h3 h4=>?_,fun i bx b h h2 hF=>?_,fun b h=>za (inv.wr.low b h) hsz⟩ ⟨hsince.os.trans inv.since.os,hsince.tape.trans inv.since.tape,hsince.output.trans inv.since.output,zf inv.since.size hsz,fun b hb h=>?_,fun i bx b h h2=>?_,fun i c1 c2 h h2=>?_,fun i bx h=>?_⟩ hsz (fun b hb=>hblk b (za hb inv.big) (fun i bx h1 h2=>by have:=inv.base i bx b (hs i bx h1) h2; omega)) (fun i bx b h h2=>?_),outof hret⟩
 · cases hi : lk i s' with
   | some b2 =>
    obtain ⟨e1,e2⟩:=hin' i b2 hi
    rw [e2] at h
    cases h
    have hb:=hW'.boxes i bx hi
    cases bx with
    | cells cs =>
     obtain ⟨bb,t,us',h1,h2,h3,h4⟩:=hb
     exact ⟨bb,t,us',e1.trans h1,h2,outof h3,h4⟩
    | row k L =>
     obtain ⟨g0,hk,el,xs',g1,g2,g3⟩:=hb
     exact ⟨g0,hk,el,xs',by rw [e1]; exact g1,g2.keep (fun _ _ _=>rfl) (fun b _ h=>hmo b h),g3⟩
    | mp M =>
     obtain ⟨bb,h1,h2⟩:=hb
     exact ⟨bb,e1.trans h1,h2⟩
   | none =>
    obtain ⟨e1,e2,e3⟩:=hout' i hi
    rw [e2] at h
    cases hc : lk i sc with
    | none=>rw [hc] at h; cases h
    | some bc =>
     rw [hc] at h
     simp only [Option.map_some,Option.some.injEq] at h
     subst h
     have hb:=inv.wr.boxes i bc hc
     cases bc with
     | cells cs =>
      obtain ⟨bb,t,us',h1,h2,h3,h4⟩:=hb
      exact ⟨bb,t,us',e1.trans h1,by rw [old i hi _ bb hc (by rw [h1]; rfl)]; exact h2,Rp.keep hx h3,h4⟩
     | row k L =>
      obtain ⟨g0,hk,el,xs',g1,g2,g3⟩:=hb
      refine ⟨g0,hk,el,xs',?_,g2.keep hx.heap hx.mutb,g3⟩
      rw [e1]
      refine ⟨g1.1,?_⟩
      rcases g1.2 with h | ⟨gg,cap,cur,e5,e6,e7,e8⟩
      · exact .inl h
      · exact .inr ⟨gg,cap,cur,e5,e6,by rw [old i hi _ gg hc (by rw [e5]; rfl)]; exact e7,e8⟩
     | mp M =>
      obtain ⟨bb,h1,h2⟩:=hb
      exact ⟨bb,e1.trans h1,by rw [old i hi _ bb hc (by rw [h1]; rfl)]; exact h2⟩
 · -- two boxes of one block are one
   have side : ∀ i bx b,lk i sn = some bx → blk (β2 i) = some b → (∃ b2,lk i s' = some b2 ∧ blk (β1 i) = some b) ∨ (lk i s' = none ∧ ∃ bc,lk i sc = some bc ∧ blk (β i) = some b):=fun i bx b h h2=>by
    cases hi : lk i s' with
    | some b2 =>
     obtain ⟨e1,e2⟩:=hin' i b2 hi
     exact .inl ⟨b2,rfl,by rw [← e1]; exact h2⟩
    | none =>
     obtain ⟨e1,e2,e3⟩:=hout' i hi
     rw [e2] at h
     cases hc : lk i sc with
     | none=>rw [hc] at h; cases h
     | some bc=>exact .inr ⟨rfl,bc,rfl,by rw [← e1]; exact h2⟩
   have mixed : ∀ i j bi bj,lk i s' = some bi → blk (β1 i) = some b → lk j s' = none → lk j sc = some bj → blk (β j) = some b → False:=fun i j bi bj g1 g2 g3 g4 g5=>by
    rcases hsince.boxes i bi b g1 g2 with h3 | ⟨k,bk,k1,k2⟩
    · have:=hlt j bj b g4 g5
      have h3' : w.heap.size ≤ b:=h3
      omega
    · have:=inv.wr.inj k j bk bj b (hs k bk k1) g4 k2 g5
      subst this
      rw [(hout' k g3).2.2] at k1; cases k1
   rcases side i b1 b h1 h3 with ⟨c1,g1,g2⟩ | ⟨g1,c1,g2,g3⟩
   · rcases side j b2 b h2 h4 with ⟨c2,k1,k2⟩ | ⟨k1,c2,k2,k3⟩
     · exact hW'.inj i j c1 c2 b g1 k1 g2 k2
     · exact (mixed i j c1 c2 g1 g2 k1 k2 k3).elim
   · rcases side j b2 b h2 h4 with ⟨c2,k1,k2⟩ | ⟨k1,c2,k2,k3⟩
     · exact (mixed j i c2 c1 k1 k2 g1 g2 g3).elim
     · exact inv.wr.inj i j c1 c2 b g2 k2 g3 k3
 · cases hi : lk i s' with
   | some b2 =>
    obtain ⟨e1,e2⟩:=hin' i b2 hi
    rw [e1] at h2
    exact hW'.apart i b2 b hi h2 (hFF b hF)
   | none =>
    obtain ⟨e1,e2,e3⟩:=hout' i hi
    rw [e2] at h
    rw [e1] at h2
    cases hc : lk i sc with
    | none=>rw [hc] at h; cases h
    | some bc=>exact inv.wr.apart i bc b hc h2 hF
 · rw [hblk b (za hb inv.since.size) (fun i bx h1 h2=>?_)]
   · exact inv.since.heap b hb h
   · rcases inv.since.boxes i bx b (hs i bx h1) h2 with h3 | ⟨j,bj,k1,k2⟩
     · omega
     · exact h j bj k1 k2
 · cases hi : lk i s' with
   | some b2 =>
    obtain ⟨e1,e2⟩:=hin' i b2 hi
    rw [e1] at h2
    rcases hsince.boxes i b2 b hi h2 with h3 | ⟨j,bj,k1,k2⟩
    · exact .inl (zf inv.since.size h3)
    · exact inv.since.boxes j bj b (hs j bj k1) k2
   | none =>
    obtain ⟨e1,e2,e3⟩:=hout' i hi
    rw [e2] at h
    rw [e1] at h2
    cases hc : lk i sc with
    | none=>rw [hc] at h; cases h
    | some bc=>exact inv.since.boxes i bc b hc h2
 · rcases qo8 hsame i with ⟨g1,g2⟩ | ⟨c,c',g1,g2⟩ | ⟨k,L,k',L',g1,g2⟩ | ⟨M,M',g1,g2⟩ | ⟨g1, -,g3⟩
   · obtain ⟨e1,e2, -⟩:=hout' i g2
     change lk i sn = _ at h2
     rw [e2] at h2
     cases hc : lk i sc with
     | none=>rw [hc] at h2; cases h2
     | some bc =>
      rw [hc] at h2
      cases bc with
      | cells cs=>exact e1.trans (inv.since.cells i c1 cs h hc)
      | row=>cases h2
      | mp=>cases h2
   · obtain ⟨e1,e2⟩:=hin' i _ g2
     exact (e1.trans (hsince.cells i c c' g1 g2)).trans (inv.since.cells i c1 c h (hs i _ g1))
   · obtain ⟨e1,e2⟩:=hin' i _ g2
     change lk i sn = _ at h2
     rw [e2] at h2; cases h2
   · obtain ⟨e1,e2⟩:=hin' i _ g2
     change lk i sn = _ at h2
     rw [e2] at h2; cases h2
   · exact absurd g3 (inv.since.keep i _ h)
 · cases hi : lk i s' with
   | some b2=>obtain ⟨e1,e2⟩:=hin' i b2 hi; change lk i sn ≠ none; rw [e2]; simp
   | none =>
    obtain ⟨e1,e2,e3⟩:=hout' i hi
    have:=inv.since.keep i bx h
    change lk i sn ≠ none
    rw [e2]
    cases hc : lk i sc with
    | none=>exact absurd hc this
    | some bc=>simp
 · cases hi : lk i s' with
   | some b2 =>
    obtain ⟨e1,e2⟩:=hin' i b2 hi
    rw [e1] at h2
    exact hbase' i b2 b hi h2
   | none =>
    obtain ⟨e1,e2,e3⟩:=hout' i hi
    change lk i sn = _ at h
    rw [e2] at h
    rw [e1] at h2
    cases hc : lk i sc with
    | none=>rw [hc] at h; cases h
    | some bc=>exact inv.base i bc b hc h2
theorem qp1 {β : Nat → Value} {e : Env} {sc s s' : St} {a : Act} {w : World} (inv : qd1 C β e sc a w) (hsub : vw5 sc s) (hcl : vy7 s s) (hsame : qn9 sc s s') {f : FuncId} {xs args : List SV} {us : List Value} {ret : SV} (hargs : Rp w C.F β sc (.ss xs us)) (ha : xa4 sc s xs args) (hf : SFn P Γ f args s ret s') :
 Calls P f us.toArray w fun en w' => ∃ v β',en = .returned v ∧ qd1 C β' (jkE (inX (rowsOf s)) e) (mrg s' (jkS (inX (rowsOf s)) sc)) a w' ∧ Rp w' C.F β' (mrg s' (jkS (inX (rowsOf s)) sc)) (.s ret v) :=
 yr2 (ok:=fun e v=>e = .returned v) inv hsub hcl hsame hargs ha hf

theorem xw0 {ops rest : List Oper} {e : Env} {sc : St} {K : Exit → Env → St → Prop} {f : FuncId} {dst : Option Tmp} {args : Array Operand} {ats : Array TypeId} {ty : TypeId} {pos : String} {af : Array Edge}
 (hB : qg5 N (⟨dst,.call ⟨.value (.func f),args,ats⟩,ty,pos,af,none⟩ :: rest) = true) {as : List SV} {s s' : St} {ret : SV} (hk : oks true (vals e args.toList)) (ha : xa4 sc s (qm6 (vals e args.toList)) as) (hsub : vw5 sc s) (hcl : vy7 s s) (hsame : qn9 sc s s')
 (hf : SFn P Γ f as s ret s') (h : qo0 C ops rest (qk9 dst ret (jkE (inX (rowsOf s)) e)) (mrg s' (jkS (inX (rowsOf s)) sc)) K) : Stop C ops (⟨dst,.call ⟨.value (.func f),args,ats⟩,ty,pos,af,none⟩ :: rest) e sc K:=by
 intro β a w inv
 simp only [qg5,List.all_cons,Bool.and_eq_true,ve9] at hB
 obtain ⟨⟨hdst,ho⟩,hB'⟩:=hB
 have hao : args.toList.all qc8 = true:=by
  simp only [Op.operands,Call.operands,Array.toList_append,List.all_append,Bool.and_eq_true] at ho
  exact ho.2
 have ih:=qh3 (ops:=ops) hB' h
 refine wpList_plain rfl fun K' hK'=>?_
 unfold Oper.wp
 rw [qp0 hf.1]
 refine (qp1 inv hsub hcl hsame (qk5 inv args.toList hao hk) ha hf).mono ?_
 rintro en w' ⟨v, β',rfl,inv',hr⟩
 exact hK' _ _ (ih β' _ _ (inv'.put dst hdst hr))
end
end Go.Sw
namespace Go.Sw
open Go.RowKit

mutual
def SV.ren (σ : Nat → Nat) : SV → SV
 | .agg cs=>.agg (SV.rens σ cs)
 | .tup vs=>.tup (SV.rens σ vs)
 | .ref i o=>.ref (σ i) o
 | .own i=>.own (σ i)
 | .eref i j o=>.eref (σ i) j o
 | .sref i n=>.sref (σ i) n
 | .mp i=>.mp (σ i)
 | .clo f cs=>.clo f (SV.rens σ cs)
 | .grd g x=>.grd g (SV.ren σ x)
 | .d x=>.d x
 | .nil=>.nil
 | .fptr x o=>.fptr x o
 | .junk=>.junk
def SV.rens (σ : Nat → Nat) : List SV → List SV
 | []=>[]
 | x :: l=>SV.ren σ x :: SV.rens σ l
end
def Box.ren (σ : Nat → Nat) : Box → Box
 | .cells cs=>.cells (SV.rens σ cs)
 | .row k L=>.row k L
 | .mp M=>.mp M
def vi9 (σ : Nat → Nat) : St → St
 | []=>[]
 | (i,b) :: s=>(σ i,b.ren σ) :: vi9 σ s
section
variable {σ : Nat → Nat}
theorem qi3 (hσ : ∀ i j, σ i = σ j → i = j) (i : Nat) : ∀ s : St,lk (σ i) (vi9 σ s) = (lk i s).map (Box.ren σ)
 | []=>rfl
 | (j, b) :: s=>by
  unfold vi9 lk
  by_cases h : i = j
  · subst h; simp
  · rw [qf5 h,qf5 (fun h'=>h (hσ _ _ h'))]
    exact qi3 hσ i s
theorem vq7 {j : Nat} {bx : Box} : ∀ {s : St},lk j (vi9 σ s) = some bx → ∃ (i : Nat) (b : Box),j = σ i ∧ bx = b.ren σ ∧ ∃ b',lk i s = some b'
 | (i, b) :: s,h=>by
  unfold vi9 lk at h
  by_cases hj : j = σ i
  · subst hj
    simp at h
    exact ⟨i,b,rfl,h.symm,b,by simp [lk]⟩
  · rw [qf5 hj] at h
    obtain ⟨i',b',h1,h2,b2,h3⟩:=vq7 (s:=s) h
    refine ⟨i',b',h1,h2,?_⟩
    by_cases hi : i' = i
    · subst hi; exact ⟨b,by simp [lk]⟩
    · exact ⟨b2,by simp [lk,qf5 hi,h3]⟩
theorem qh1 (hσ : ∀ i j, σ i = σ j → i = j) {j : Nat} {bx : Box} {s : St} (h : lk j (vi9 σ s) = some bx) : ∃ i b,j = σ i ∧ lk i s = some b ∧ bx = b.ren σ := by
 obtain ⟨i,b,rfl, -,b',h3⟩:=vq7 h
 rw [qi3 hσ,h3] at h
 exact ⟨i,b',rfl,h3,by simpa using h.symm⟩
theorem vd8 (hσ : ∀ i j, σ i = σ j → i = j) {F : Nat → Prop} {β : Nat → Value} {s : St} : Mut F β (vi9 σ s) = Mut F (fun i => β (σ i)) s:=by
 funext b
 apply propext
 constructor
 · rintro (h | ⟨j,bx,h1,h2⟩)
   · exact .inl h
   · obtain ⟨i,b',rfl,h3,h4⟩:=qh1 hσ h1
     exact .inr ⟨i,b',h3,h2⟩
 · rintro (h | ⟨i,bx,h1,h2⟩)
   · exact .inl h
   · exact .inr ⟨σ i,bx.ren σ,by rw [qi3 hσ,h1]; rfl,h2⟩
def Tg2.ren (σ : Nat → Nat) : Tg2 → Tg2
 | .s x u=>.s (x.ren σ) u
 | .ss l us=>.ss (SV.rens σ l) us
theorem Rp.ren (hσ : ∀ i j, σ i = σ j → i = j) {w : World} {F : Nat → Prop} {β : Nat → Value} {s : St} {t : Tg2} (h : Rp w F (fun i => β (σ i)) s t) : Rp w F β (vi9 σ s) (t.ren σ):=by
 induction h with
 | d h=>exact .d (by rw [vd8 hσ]; exact h)
 | nil=>exact .nil
 | agg _ ih=>exact .agg ih
 | tup _ ih=>exact .tup ih
 | ref hl hb=>exact .ref (by rw [qi3 hσ,hl]; rfl) hb
 | sref hl hb=>exact .sref (by rw [qi3 hσ,hl]; rfl) hb
 | fptr h=>exact .fptr (by rw [vd8 hσ]; exact h)
 | own hl=>exact .own (by rw [qi3 hσ,hl]; rfl)
 | eref hl hi hb=>exact .eref (by rw [qi3 hσ,hl]; rfl) hi hb
 | mp hl=>exact .mp (by rw [qi3 hσ,hl]; rfl)
 | clo _ ih=>exact .clo ih
 | grdF=>exact .grdF
 | grdT _ ih=>exact .grdT ih
 | junk=>exact .junk
 | ssn=>exact .ssn
 | ssc _ _ i1 i2=>exact .ssc i1 i2
theorem vd4 {b : Box} {cs : List SV} (h : b.ren σ = .cells cs) : ∃ cs',b = .cells cs':=by
 cases b with
 | cells cs'=>exact ⟨_,rfl⟩
 | row k L=>cases h
 | mp M=>cases h
theorem ren_mp {b : Box} {M : List (Value × Value)} (h : b.ren σ = .mp M) : b = .mp M:=by
 cases b with
 | cells cs'=>cases h
 | row k' L'=>cases h
 | mp M=>exact h
theorem yk7 {b : Box} {k : Nat} {L : List D} (h : b.ren σ = .row k L) : b = .row k L:=by
 cases b with
 | cells cs'=>cases h
 | row k' L'=>exact h
 | mp M=>cases h
mutual
theorem Rp.unren (hσ : ∀ i j, σ i = σ j → i = j) {w : World} {F : Nat → Prop} {β : Nat → Value} {s : St} : ∀ (x : SV) (u : Value),Rp w F β (vi9 σ s) (.s (x.ren σ) u) → Rp w F (fun i => β (σ i)) s (.s x u)
 | .d x,u,h=>by
  simp only [SV.ren] at h
  cases h with | d h=>exact .d (by rw [← vd8 hσ]; exact h)
 | .nil,u,h=>by
  simp only [SV.ren] at h
  cases h with | nil=>exact .nil
 | .agg cs,u,h=>by
  simp only [SV.ren] at h
  cases h with | agg h=>exact .agg (Rp.unrens hσ cs _ h)
 | .tup cs,u,h=>by
  simp only [SV.ren] at h
  cases h with | tup h=>exact .tup (Rp.unrens hσ cs _ h)
 | .ref i o,u,h=>by
  simp only [SV.ren] at h
  cases h with
  | ref hl hb =>
   rw [qi3 hσ] at hl
   cases hi : lk i s with
   | none=>rw [hi] at hl; cases hl
   | some b =>
    rw [hi] at hl
    obtain ⟨cs',rfl⟩:=vd4 (Option.some.inj hl)
    exact .ref hi hb
 | .sref i n,u,h=>by
  simp only [SV.ren] at h
  cases h with
  | sref hl hb =>
   rw [qi3 hσ] at hl
   cases hi : lk i s with
   | none=>rw [hi] at hl; cases hl
   | some b =>
    rw [hi] at hl
    obtain ⟨cs',rfl⟩:=vd4 (Option.some.inj hl)
    exact .sref hi hb
 | .fptr x o,u,h=>by
  simp only [SV.ren] at h
  cases h with | fptr h=>exact .fptr (by rw [← vd8 hσ]; exact h)
 | .own i,u,h=>by
  simp only [SV.ren] at h
  cases h with
  | own hl =>
   rw [qi3 hσ] at hl
   cases hi : lk i s with
   | none=>rw [hi] at hl; cases hl
   | some b =>
    rw [hi] at hl
    have:=yk7 (Option.some.inj hl)
    subst this
    exact Rp.own (β := fun i => β (σ i)) hi
 | .eref i j o,u,h=>by
  simp only [SV.ren] at h
  cases h with
  | eref hl hlt hb =>
   rw [qi3 hσ] at hl
   cases hi : lk i s with
   | none=>rw [hi] at hl; cases hl
   | some b =>
    rw [hi] at hl
    have:=yk7 (Option.some.inj hl)
    subst this
    exact .eref hi hlt hb
 | .mp i,u,h=>by
  simp only [SV.ren] at h
  cases h with
  | mp hl =>
   rw [qi3 hσ] at hl
   cases hi : lk i s with
   | none=>rw [hi] at hl; cases hl
   | some b =>
    rw [hi] at hl
    have:=ren_mp (Option.some.inj hl)
    subst this
    exact Rp.mp (β := fun i => β (σ i)) hi
 | .clo f cs,u,h=>by
  simp only [SV.ren] at h
  cases h with | clo h=>exact .clo (Rp.unrens hσ cs _ h)
 | .grd g x,u,h=>by
  simp only [SV.ren] at h
  cases h with
  | grdF=>exact .grdF
  | grdT h=>exact .grdT (Rp.unren hσ x u h)
 | .junk,u,h=>.junk
theorem Rp.unrens (hσ : ∀ i j, σ i = σ j → i = j) {w : World} {F : Nat → Prop} {β : Nat → Value} {s : St} : ∀ (l : List SV) (us : List Value),Rp w F β (vi9 σ s) (.ss (SV.rens σ l) us) → Rp w F (fun i => β (σ i)) s (.ss l us)
 | [],us,h=>by
  simp only [SV.rens] at h
  cases h with | ssn=>exact .ssn
 | x :: l,us,h=>by
  simp only [SV.rens] at h
  cases h with | ssc h ht=>exact .ssc (Rp.unren hσ x _ h) (Rp.unrens hσ l _ ht)
end
theorem vz0.ren (hσ : ∀ i j, σ i = σ j → i = j) {w : World} {F : Nat → Prop} {β : Nat → Value} {s : St} {i : Nat} {bx : Box} (h : vz0 w F (fun i => β (σ i)) s i bx) : vz0 w F β (vi9 σ s) (σ i) (bx.ren σ):=by
 cases bx with
 | cells cs =>
  obtain ⟨b,t,us,h1,h2,h3,h4⟩:=h
  exact ⟨b,t,us,h1,h2,Rp.ren hσ h3,h4⟩
 | row k L =>
  obtain ⟨h1,h2,e,xs,h3,h4,h5⟩:=h
  exact ⟨h1,h2,e,xs,h3,by rw [vd8 hσ]; exact h4,h5⟩
 | mp M=>exact h
theorem vz0.unren (hσ : ∀ i j, σ i = σ j → i = j) {w : World} {F : Nat → Prop} {β : Nat → Value} {s : St} {i : Nat} {bx : Box} (h : vz0 w F β (vi9 σ s) (σ i) (bx.ren σ)) : vz0 w F (fun i => β (σ i)) s i bx:=by
 cases bx with
 | cells cs =>
  obtain ⟨b,t,us,h1,h2,h3,h4⟩:=h
  exact ⟨b,t,us,h1,h2,Rp.unrens hσ _ _ h3,h4⟩
 | row k L =>
  obtain ⟨h1,h2,e,xs,h3,h4,h5⟩:=h
  exact ⟨h1,h2,e,xs,h3,by rw [← vd8 hσ]; exact h4,h5⟩
 | mp M=>exact h
theorem WR.ren (hσ : ∀ i j, σ i = σ j → i = j) {w : World} {F : Nat → Prop} {β : Nat → Value} {s : St} (h : WR F (fun i => β (σ i)) s w) : WR F β (vi9 σ s) w where
 boxes i bx hl:=by
  obtain ⟨i',b',rfl,h3,rfl⟩:=qh1 hσ hl
  exact vz0.ren hσ (h.boxes i' b' h3)
 inj i j bx by' b hl hl' hb hb':=by
  obtain ⟨i',b1,rfl,h3,rfl⟩:=qh1 hσ hl
  obtain ⟨j',b2,rfl,h4,rfl⟩:=qh1 hσ hl'
  rw [h.inj i' j' b1 b2 b h3 h4 hb hb']
 apart i bx b hl hb:=by
  obtain ⟨i',b1,rfl,h3,rfl⟩:=qh1 hσ hl
  exact h.apart i' b1 b h3 hb
 low:=h.low
theorem WR.unren (hσ : ∀ i j, σ i = σ j → i = j) {w : World} {F : Nat → Prop} {β : Nat → Value} {s : St} (h : WR F β (vi9 σ s) w) : WR F (fun i => β (σ i)) s w where
 boxes i bx hl:=vz0.unren hσ (h.boxes (σ i) (bx.ren σ) (by rw [qi3 hσ,hl]; rfl))
 inj i j bx by' b hl hl' hb hb':=hσ _ _ (h.inj (σ i) (σ j) (bx.ren σ) (by'.ren σ) b (by rw [qi3 hσ,hl]; rfl) (by rw [qi3 hσ,hl']; rfl) hb hb')
 apart i bx b hl hb:=h.apart (σ i) (bx.ren σ) b (by rw [qi3 hσ,hl]; rfl) hb
 low:=h.low
open Classical in
theorem GFn.ren {ok : Ending → Value → Prop} (hσ : ∀ i j, σ i = σ j → i = j) {P : Program} {Γ : Gl} {f : FuncId} {args : List SV} {s s' : St} {ret : SV} (h : GFn ok P Γ f args s ret s') : GFn ok P Γ f (SV.rens σ args) (vi9 σ s) (ret.ren σ) (vi9 σ s'):=by
 refine ⟨h.1,fun F β w us hG hNG hW hl hbase hargs=>?_⟩
 refine (h.2 F (fun i => β (σ i)) w us hG hNG (WR.unren hσ hW) hl (fun i bx b hl hb=>hbase (σ i) (bx.ren σ) b (by rw [qi3 hσ,hl]; rfl) hb) (Rp.unrens hσ _ _ hargs)).mono ?_
 rintro e w' ⟨v, β',hok,h1,h2,h3,h4,h5⟩
 let β2 : Nat → Value:=fun j=>if hj : ∃ i, σ i = j then β' hj.choose else β j
 have hβ : (fun i => β2 (σ i)) = β':=by
  funext i
  have hj : ∃ i', σ i' = σ i:=⟨i,rfl⟩
  simp only [β2,dif_pos hj]
  rw [hσ _ _ hj.choose_spec]
 have hβi : ∀ i, β2 (σ i) = β' i:=fun i=>congrFun hβ i
 refine ⟨v, β2,hok,WR.ren hσ (by rw [hβ]; exact h1),Rp.ren hσ (t:=.s ret v) (by rw [hβ]; exact h2),?_,h4,?_⟩
 · refine ⟨h3.os,h3.tape,h3.output,h3.size,fun b hb hn=>?_,fun i bx b hl hb=>?_,fun i cs cs' hl hl'=>?_,fun i bx hl=>?_⟩
   · refine h3.heap b hb fun i bx hl=>?_
     exact hn (σ i) (bx.ren σ) (by rw [qi3 hσ,show lk i s = _ from hl]; rfl)
   · obtain ⟨i',b1,rfl,h6,rfl⟩:=qh1 hσ hl
     rw [hβi] at hb
     rcases h3.boxes i' b1 b h6 hb with h7 | ⟨j,by',h7,h8⟩
     · exact .inl h7
     · exact .inr ⟨σ j,by'.ren σ,by rw [qi3 hσ,show lk j s = _ from h7]; rfl,h8⟩
   · obtain ⟨i',b1,rfl,h6,h7⟩:=qh1 hσ (s:=s) hl
     obtain ⟨c1,rfl⟩:=vd4 h7.symm
     rw [qi3 hσ] at hl'
     cases h8 : lk i' s' with
     | none=>rw [h8] at hl'; cases hl'
     | some b2 =>
      rw [h8] at hl'
      obtain ⟨c2,rfl⟩:=vd4 (Option.some.inj hl')
      rw [hβi]
      exact h3.cells i' c1 c2 h6 h8
   · obtain ⟨i',b1,rfl,h6,rfl⟩:=qh1 hσ (s:=s) hl
     have:=h3.keep i' b1 h6
     rw [qi3 hσ]
     cases h8 : lk i' s' with
     | none=>exact absurd h8 this
     | some b2=>simp
 · intro i bx b hl hb
   obtain ⟨i',b1,rfl,h6,rfl⟩:=qh1 hσ hl
   rw [hβi] at hb
   exact h5 i' b1 b h6 hb
theorem SFn.ren (hσ : ∀ i j, σ i = σ j → i = j) {P : Program} {Γ : Gl} {f : FuncId} {args : List SV} {s s' : St} {ret : SV} (h : SFn P Γ f args s ret s') : SFn P Γ f (SV.rens σ args) (vi9 σ s) (ret.ren σ) (vi9 σ s'):=GFn.ren (ok:=fun e v=>e = .returned v) hσ h
end
theorem SFn.up {P : Program} {Γ : Gl} {f : FuncId} {args : List SV} {s s' : St} {ret : SV} (k : Nat) (h : SFn P Γ f args s ret s') : SFn P Γ f (SV.rens (· + k) args) (vi9 (· + k) s) (ret.ren (· + k)) (vi9 (· + k) s'):=SFn.ren (fun i j h=>by simpa using h) h
end Go.Sw
namespace Go.Sw
open Go.RowKit
section
variable {P : Program} {N : Nat} {Γ : Gl} {C : Cx P N Γ}
theorem va3 {f : FuncId} {x : Operand} {dst : Option Tmp} {args : Array Operand} {ats : Array TypeId} {ty : TypeId} {pos : String} {af : Array Edge} {gd : Option (Nat × Bool)} (hf : xx5 P f = true) (a : Act) (w : World) {us : List Value} (hx : a.eval x = .func (.func f) #[] us.toArray) :
 (execOp a.eval ⟨dst,.call ⟨.value x,args,ats⟩,ty,pos,af,gd⟩).run P w = .ok (.enter f (args.toList.map a.eval ++ us).toArray) w:=by
 unfold xx5 at hf
 split at hf
 · rename_i fn hfn
   simp only [Bool.and_eq_true,Bool.not_eq_true'] at hf
   have h2 : fn.body.isNone = false:=by cases h : fn.body <;> simp_all
   have hm : args.map a.eval = (args.toList.map a.eval).toArray:=by apply Array.ext'; simp
   simp only [execOp,resolve,hx,Deferred.ofValue,Sem.run_bind,Sem.run_pure,Result.andThen_ok,invoke,callFunc,run_program,hfn,hf.1,h2]
   simp [hm]
 · cases hf
end
end Go.Sw
