/- A symbolic walk: lists of operations, code, loops. -/
import Derived.Test.YtlnmkdbcdcknjaaDoorSwA
import Derived.Scope
set_option linter.unusedVariables false
set_option linter.unusedSimpArgs false
namespace Go.Sw
open Go.RowKit

section
variable {P : Program} {N : Nat} {Γ : Gl} {C : Cx P N Γ}

theorem stepN_ok {o : Oper} {e e' : Env} {s s' : St} {x : SV} {p : Prop} {nm : Nat} (hn : lk nm s = none) (ho : o.op.operands.toList.all opdOK = true) (h : stepO P true o e s nm = some (p,x,e',s')) (hp : p) : OpOK C o e s x e' s':=by
 obtain ⟨dst,op,ty,pos,af,gd⟩:=o
 cases op with
 | move y=>exact ok_move y (by simpa [Op.operands] using ho) h hp
 | assign y=>exact ok_assign y (by simpa [Op.operands] using ho) h hp
 | pick c a b =>
  simp [Op.operands] at ho
  exact ok_pick c a b ho.1 ho.2.1 ho.2.2 h hp
 | alloc t=>exact ok_alloc t h hp hn
 | box t y=>exact ok_box t y (by simpa [Op.operands] using ho) h hp hn
 | load t y=>exact ok_load t y (by simpa [Op.operands] using ho) h hp
 | store t y z =>
  simp [Op.operands] at ho
  exact ok_store t y z ho.1 ho.2 h hp
 | nilCheck y=>exact ok_nilCheck y (by simpa [Op.operands] using ho) h hp
 | binOp op t y z t2 =>
  simp [Op.operands] at ho
  exact ok_binOp op t t2 y z ho.1 ho.2 h hp
 | fieldAddr t y f=>exact ok_fieldAddr t y f (by simpa [Op.operands] using ho) h hp
 | indexAddr t y z =>
  simp [Op.operands] at ho
  exact ok_indexAddr t y z ho.1 ho.2 h hp
 | extract y i=>exact ok_extract y i (by simpa [Op.operands] using ho) h hp
 | makeFunc fn first caps =>
  simp only [Op.operands,Array.toList_append,List.all_append,Bool.and_eq_true] at ho
  exact ok_makeFunc fn first caps ho.2 h hp
 | call c=>exact ok_call c (by
  obtain ⟨cl,args,ats⟩:=c
  cases cl <;> simp_all [Op.operands,Call.operands]) h hp hn
 | unOp op t y=>exact ok_unOp op t y (by simpa [Op.operands] using ho) h hp
 | convert a b y=>exact ok_convert a b y (by simpa [Op.operands] using ho) h hp
 | index t y z =>
  simp [Op.operands] at ho
  exact ok_index t y z ho.1 ho.2 h hp
 | slice t y lo hi mx =>
  simp only [Op.operands,Array.toList_append,List.all_append,Bool.and_eq_true] at ho
  exact ok_slice t y lo hi mx (by simpa using ho.1.1.1) (by cases lo <;> simp_all [Option.toArray]) (by cases hi <;> simp_all [Option.toArray]) h hp
 | build t parts=>exact ok_build t parts (by simpa [Op.operands] using ho) h hp
 | buildSlice t len parts=>exact ok_bsl t len parts (by simpa [Op.operands] using ho) h hp hn
 | makeMap t r =>
  cases r with
  | none=>exact ok_makeMap t h hp hn
  | some r=>cases h
 | lookup t y z ok =>
  simp [Op.operands] at ho
  exact ok_lookup t y z ok ho.1 ho.2 h hp
 | mapUpdate t y z u =>
  simp [Op.operands] at ho
  exact ok_upd _ t y z u (.inl rfl) ho.1 ho.2.1 ho.2.2 h hp
 | insert t y z u =>
  simp [Op.operands] at ho
  exact ok_upd _ t y z u (.inr rfl) ho.1 ho.2.1 ho.2.2 h hp
 | mapEntry t y z =>
  simp [Op.operands] at ho
  exact ok_mapEntry t y z ho.1 ho.2 h hp
 | entryStore t y z u =>
  simp [Op.operands] at ho
  exact ok_entryStore t y z u ho.1 ho.2.1 ho.2.2 h hp
 | _=>cases h
theorem stepO_ok {o : Oper} {e e' : Env} {s s' : St} {x : SV} {p : Prop} (ho : o.op.operands.toList.all opdOK = true) (h : stepO P true o e s = some (p,x,e',s')) (hp : p) : OpOK C o e s x e' s':=stepN_ok (lk_nx s) ho h hp

theorem stepO_idle {o : Oper} {e e' : Env} {s s' : St} {x : SV} {p : Prop} (h : stepO P false o e s = some (p,x,e',s')) (hp : p) : e' = e ∧ s' = s:=by
 obtain ⟨dst,op,ty,pos,af,gd⟩:=o
 unfold stepO at h
 simp only at h
 (repeat' split at h)
 all_goals (try unfold mkF at h)
 all_goals (try unfold slO at h)
 all_goals (try unfold callO bltO at h)
 all_goals (try unfold buildO at h)
 all_goals (try unfold bslO at h)
 all_goals ((repeat' split at h))
 all_goals (try unfold lenO at h)
 all_goals (try unfold appO at h)
 all_goals ((repeat' split at h))
 all_goals first
  | (cases h; done)
  | (obtain ⟨r,h1,h2⟩:=map_some4 h; simp only [Prod.mk.injEq] at h2; obtain ⟨rfl,rfl,rfl,rfl⟩:=h2; first | exact ⟨rfl,rfl⟩ | (have:=hp.1; simp at this))
  | (obtain ⟨rfl,rfl,rfl,rfl⟩:=some4 h; first | exact ⟨rfl,rfl⟩ | (simp at hp; done) | (have:=hp.1; simp at this))

theorem stepO_pure {g : Bool} {o : Oper} {e e' : Env} {s s' : St} {x : SV} {p : Prop} (hpu : pureOp o.op = true) (h : stepO P g o e s = some (p,x,e',s')) : s' = s:=by
 obtain ⟨dst,op,ty,pos,af,gd⟩:=o
 cases op
 all_goals first | exact Bool.noConfusion (show false = true from hpu) | skip
 all_goals unfold stepO at h
 all_goals simp only at h
 all_goals (try unfold mkF at h)
 all_goals (try unfold buildO at h)
 all_goals (try unfold slO at h)
 case call c =>
  obtain ⟨cl,args,ats⟩:=c
  unfold callO at h
  simp only at h
  split at h
  · rename_i b
    cases b <;> first | exact Bool.noConfusion (show false = true from hpu) | skip
    unfold bltO lenO at h
    simp only at h
    (repeat' split at h)
    all_goals first
     | (cases h; done)
     | (obtain ⟨r,h1,h2⟩:=map_some4 h; simp only [Prod.mk.injEq] at h2; exact h2.2.2.2.symm)
     | exact (some4 h).2.2.2.symm
  · cases h
 all_goals (repeat' split at h)
 all_goals first
  | (cases h; done)
  | (obtain ⟨r,h1,h2⟩:=map_some4 h; simp only [Prod.mk.injEq] at h2; exact h2.2.2.2.symm)
  | exact (some4 h).2.2.2.symm
def putO (dst : Option Tmp) (x : SV) (e : Env) : Env:=match dst with | some d=>put d x e | none=>e
theorem getD_set (l : Array Value) (d t : Nat) (v : Value) : (l.setIfInBounds d v).getD t undef = if d = t ∧ d < l.size then v else l.getD t undef:=by
 simp only [Array.getD_eq_getD_getElem?,Array.getElem?_setIfInBounds]
 by_cases h : d = t
 · subst h
   by_cases h2 : d < l.size
   · simp [h2]
   · simp [h2]
 · simp [h]
theorem InvB.put {β : Nat → Value} {e : Env} {s : St} {a : Act} {w : World} (inv : InvB C β e s a w) (dst : Option Tmp) (hd : dst.all (fun d=>decide (d < N)) = true) {x : SV} {v : Value} (h : Rp w C.F β s (.s x v)) : InvB C β (putO dst x e) s (a.put dst v) w:=by
 cases dst with
 | none=>exact inv
 | some d =>
  simp at hd
  refine ⟨inv.wr,inv.base,fun t y ht=>?_,by simp [Act.put,inv.size],inv.defers,inv.glob,inv.big,inv.since⟩
  simp only [putO] at ht
  simp only [Act.put,getD_set]
  by_cases hdt : d = t
  · subst hdt
    rw [lk_put_same] at ht
    cases ht
    refine ⟨hd,?_⟩
    rw [if_pos ⟨rfl,by rw [inv.size]; exact hd⟩]
    exact h
  · rw [lk_put_ne _ (Ne.symm hdt)] at ht
    rw [if_neg (fun h=>hdt h.1)]
    exact inv.env t y ht

def gVal (e : Env) (ops : List Oper) (j : Nat) (want : Bool) : Option Bool :=
 match ops[j]? with
 | some oj=>match oj.dst with
  | some t=>match lk t e with
   | some (.d (.v (.bool b)))=>some (bif want then b else !b)
   | some (.grd h (.d (.v (.bool b))))=>some (h && (bif want then b else !b))
   | _=>none
  | none=>none
 | none=>none
theorem gVal_ok {β : Nat → Value} {e : Env} {s : St} {a : Act} {w : World} (inv : InvB C β e s a w) {o : Oper} {ops : List Oper} {j : Nat} {want g : Bool} (ho : o.guard = some (j,want)) (h : gVal e ops j want = some g) :
 Region.wanted o (yielded ops.toArray a.tmps) = g:=by
 unfold gVal at h
 split at h
 · rename_i oj hj
   split at h
   · rename_i t ht
     have hget : ∀ x,lk t e = some x → a.tmps[t]? = some (a.tmps.getD t undef) ∧ Rp w C.F β s (.s x (a.tmps.getD t undef)):=fun x hx=>by
      obtain ⟨h1,h2⟩:=inv.env t x hx
      exact ⟨by have : t < a.tmps.size:=by rw [inv.size]; exact h1
                simp [this],h2⟩
     have hy : yielded ops.toArray a.tmps j = match a.tmps[t]? with | some (.bool b)=>some b | _=>none:=by
      simp [yielded,hj,ht]
      cases a.tmps[t]? <;> rfl
     simp only [Region.wanted,ho,hy]
     split at h
     · rename_i b hl
       obtain ⟨h1,h2⟩:=hget _ hl
       simp at h; subst h
       rw [rp_bool h2] at h1
       rw [h1]
       cases want <;> cases b <;> rfl
     · rename_i q b hl
       obtain ⟨h1,h2⟩:=hget _ hl
       simp at h; subst h
       generalize hv : a.tmps.getD t undef = v at h1 h2
       cases h2 with
       | grdF=>rw [h1]; cases want <;> rfl
       | grdT h3 =>
        rw [h1,rp_bool h3]
        cases want <;> cases b <;> rfl
     · cases h
   · cases h
 · cases h

def Stop (C : Cx P N Γ) (ops : List Oper) (l : List Oper) (e : Env) (s : St) (K : Exit → Env → St → Prop) : Prop :=
 ∀ β a w,InvB C β e s a w → wpList P ops.toArray (fun ex a w => ∃ β e s,InvB C β e s a w ∧ K ex e s) l a w

def vcOps (C : Cx P N Γ) (ops : List Oper) : List Oper → Env → St → (Exit → Env → St → Prop) → Prop
 | [],e,s,K=>K .normal e s
 | o :: rest,e,s,K =>
  match o.guard with
  | none=>match stepO P true o e s with
   | some (p,x,e',s')=>p ∧ vcOps C ops rest (putO o.dst x e') s' K
   | none=>Stop C ops (o :: rest) e s K
  | some (j,want)=>match gVal e ops j want with
   | some g=>match stepO P g o e s with
    | some (p,x,e',s')=>p ∧ vcOps C ops rest (putO o.dst (.grd g x) e') s' K
    | none=>Stop C ops (o :: rest) e s K
   | none=>Stop C ops (o :: rest) e s K
def opOK (N : Nat) (o : Oper) : Bool:=o.dst.all (fun d=>decide (d < N)) && o.op.operands.toList.all opdOK
def regOK (N : Nat) (l : List Oper) : Bool:=l.all (opOK N)

theorem vcOps_ok {ops : List Oper} : ∀ {l : List Oper} {e : Env} {s : St} {K : Exit → Env → St → Prop},regOK N l = true → vcOps C ops l e s K → Stop C ops l e s K
 | [],e,s,K,_,h=>fun β a w inv=>⟨β,e,s,inv,h⟩
 | o :: rest,e,s,K,hB,h=>by
  simp only [regOK,List.all_cons,Bool.and_eq_true,opOK] at hB
  obtain ⟨⟨hd,ho⟩,hB'⟩:=hB
  unfold vcOps at h
  split at h
  · rename_i hg
    split at h
    · rename_i p x e' s' hs
      obtain ⟨hp,h⟩:=h
      have ih:=vcOps_ok (ops:=ops) hB' h
      intro β a w inv
      refine wpList_plain hg fun K' hK'=>stepO_ok ho hs hp β a w inv K' _ fun β' v w' inv' _ hr=>hK' _ _ (ih β' _ _ (inv'.put o.dst hd hr))
    · exact h
  · rename_i j want hg
    split at h
    · rename_i g hv
      split at h
      · rename_i p x e' s' hs
        obtain ⟨hp,h⟩:=h
        have ih:=vcOps_ok (ops:=ops) hB' h
        intro β a w inv
        have hw:=gVal_ok inv hg hv
        cases g with
        | true =>
         refine wpList_step fun K' hK'=>?_
         rw [if_pos hw]
         exact stepO_ok ho hs hp β a w inv K' _ fun β' v w' inv' _ hr=>hK' _ _ (ih β' _ _ (inv'.put o.dst hd (.grdT hr)))
        | false =>
         obtain ⟨rfl,rfl⟩:=stepO_idle hs hp
         exact wpList_skip hw (ih β _ _ (inv.put o.dst hd .grdF))
      · exact h
    · exact h

/-! ### Code -/
def Swp (C : Cx P N Γ) (c : Code) (K : Exit → Env → St → Prop) (e : Env) (s : St) : Prop :=
 ∀ β a w,InvB C β e s a w → c.wp P (fun ex a w => ∃ β e s,InvB C β e s a w ∧ K ex e s) a w

variable {K : Exit → Env → St → Prop} {e : Env} {s : St}
theorem swp_region {id : Nat} {l : List Oper} (hB : regOK N l = true) (h : ∀ K' : Exit → Env → St → Prop,(∀ e s,K .normal e s → K' .normal e s) → vcOps C l l e s K') : Swp C (.region id l.toArray false) K e s :=
 fun β a w inv=>wp_mono (wp_region_lit (vcOps_ok hB (h (fun ex e s=>match ex with | .normal=>K .normal e s | _=>False) (fun e s h=>h)) β a w inv)) fun ex a w ⟨β,e,s,h1,h2⟩=>by
  cases ex with
  | normal=>exact ⟨β,e,s,h1,h2⟩
  | _=>exact h2.elim
def Kseq (C : Cx P N Γ) (b : Code) (K : Exit → Env → St → Prop) : Exit → Env → St → Prop
 | .normal,e,s=>Swp C b K e s
 | x,e,s=>K x e s
theorem swp_seq {x y : Code} (h : Swp C x (Kseq C y K) e s) : Swp C (.seq x y) K e s:=fun β a w inv=>wp_seq (wp_mono (h β a w inv) fun ex a w ⟨β,e,s,h1,h2⟩=>by
 cases ex with
 | normal=>exact h2 β a w h1
 | _=>exact ⟨β,e,s,h1,h2⟩)
theorem swp_skip (h : K .normal e s) : Swp C .skip K e s:=fun β a w inv=>wp_skip ⟨β,e,s,inv,h⟩
theorem swp_label {l : Nat} (h : K .normal e s) : Swp C (.label l) K e s:=fun β a w inv=>wp_label ⟨β,e,s,inv,h⟩
theorem swp_exit {id : Nat} (h : K (.exit id) e s) : Swp C (.exit id) K e s:=fun β a w inv=>wp_exit ⟨β,e,s,inv,h⟩
theorem swp_ret (h : K .ret e s) : Swp C .ret K e s:=fun β a w inv=>wp_ret ⟨β,e,s,inv,h⟩
def Kblk (id : Nat) (K : Exit → Env → St → Prop) : Exit → Env → St → Prop
 | .exit i,e,s=>if i = id then K .normal e s else K (.exit i) e s
 | x,e,s=>K x e s
theorem swp_block {id : Nat} {c : Code} (h : Swp C c (Kblk id K) e s) : Swp C (.block id c) K e s:=fun β a w inv=>wp_block (wp_mono (h β a w inv) fun ex a w ⟨β,e,s,h1,h2⟩=>by
 cases ex with
 | exit i =>
  simp only [Exit.inBlock]
  simp only [Kblk] at h2
  split
  · rename_i hi; rw [if_pos hi] at h2; exact ⟨β,e,s,h1,h2⟩
  · rename_i hi; rw [if_neg hi] at h2; exact ⟨β,e,s,h1,h2⟩
 | _=>exact ⟨β,e,s,h1,h2⟩)
theorem swp_cond {c : Operand} {x y : Code} (hk : opdOK c = true) (h : ∃ t,val e c = .d (.v (.bool t)) ∧ (t = true → Swp C x K e s) ∧ (t = false → Swp C y K e s)) : Swp C (.cond c x y) K e s:=fun β a w inv=>by
 obtain ⟨t,hc,h1,h2⟩:=h
 have hv:=rp_bool (hc ▸ val_rp inv c hk)
 exact wp_cond_split hv (fun ht=>h1 ht β a w inv) (fun ht=>h2 ht β a w inv)

def Sub (C : Cx P N Γ) (e : Env) (s : St) (e' : Env) (s' : St) : Prop := ∀ β a w,InvB C β e s a w → ∃ β',InvB C β' e' s' a w
def Kloop (C : Cx P N Γ) {α : Type} (E : α → Env) (S : α → St) (I : α → Prop) (μ : α → Nat) (x : α) (K : Exit → Env → St → Prop) : Exit → Env → St → Prop
 | .normal,e,s => ∃ y,I y ∧ μ y < μ x ∧ Sub C e s (E y) (S y)
 | ex,e,s=>K ex e s
theorem swp_loop {body : Code} {α : Type} (E : α → Env) (S : α → St) (I : α → Prop) (μ : α → Nat) (x0 : α) (h0 : I x0) (hs : Sub C e s (E x0) (S x0))
 (round : ∀ x,I x → Swp C body (Kloop C E S I μ x K) (E x) (S x)) : Swp C (.loop body) K e s:=by
 intro β a w inv
 obtain ⟨β0,inv0⟩:=hs β a w inv
 intro b k cs
 have key : ∀ n x β a w, μ x = n → I x → InvB C β (E x) (S x) a w →
  ∃ ex a' w',(∃ β e s,InvB C β e s a' w' ∧ K ex e s) ∧ Arrives P (lone (b.at a (.code body :: .inLoop body :: k)) cs w) b k cs ex a' w':=by
  intro n
  induction n using Nat.strongRecOn with
  | _ n ih =>
   intro x β a w hn hI inv
   obtain ⟨ex,a1,w1,⟨β1,e1,s1,i1,k1⟩,harr⟩:=round x hI β a w inv b (.inLoop body :: k) cs
   cases ex with
   | normal =>
    obtain ⟨y,hy,hlt,hsub⟩:=k1
    obtain ⟨β2,i2⟩:=hsub _ _ _ i1
    obtain ⟨ex2,a2,w2,hq2,harr2⟩:=ih (μ y) (hn ▸ hlt) y β2 a1 w1 rfl hy i2
    exact ⟨ex2,a2,w2,hq2,.of_steps (Steps.trans harr (.one step_inLoop)) harr2⟩
   | exit id=>exact ⟨_,a1,w1,⟨β1,e1,s1,i1,k1⟩,.pass (x:=.inLoop body) rfl (fun _ _=>.inl (by simp)) harr⟩
   | goto l=>exact ⟨_,a1,w1,⟨β1,e1,s1,i1,k1⟩,.pass (x:=.inLoop body) rfl (fun _ _=>.inl (by simp)) harr⟩
   | ret=>exact ⟨_,a1,w1,⟨β1,e1,s1,i1,k1⟩,.pass (x:=.inLoop body) rfl (fun _ _=>.inl (by simp)) harr⟩
   | panic ch=>exact ⟨_,a1,w1,⟨β1,e1,s1,i1,k1⟩,.pass (x:=.inLoop body) rfl (fun _ _=>.inl (by simp)) harr⟩
   | outgrown=>exact ⟨_,a1,w1,⟨β1,e1,s1,i1,k1⟩,.pass (x:=.inLoop body) rfl (fun _ _=>.inl (by simp)) harr⟩
 obtain ⟨ex,a',w',hq,harr⟩:=key _ x0 β0 a w rfl h0 inv0
 exact ⟨ex,a',w',hq,.of_steps (.one step_loop) harr⟩
end
end Go.Sw
namespace Go.Sw
open Go.RowKit

section
variable {P : Program} {N : Nat} {Γ : Gl} {C : Cx P N Γ}

/-! ### Functions of plain data -/
def entB (P : Program) (f : FuncId) : Bool := match P.funcs[f]? with | some fn => !(fn.name == "runtime.NumGoroutine") && fn.body.isSome | none => false
def DFn (P : Program) (Γ : Gl) (f : FuncId) (args : List D) (ret : D) : Prop :=
 entB P f = true ∧ ∀ (F : Nat → Prop) (w : World) (us : List Value), Γ.G w → Γ.NG ≤ w.heap.size → (∀ b,F b → Γ.NG ≤ b ∧ b < w.heap.size) → RpD w F (.ds args us) →
  Calls P f us.toArray w fun e w' => ∃ v,e = .returned v ∧ Below w.heap.size w w' ∧ RpD w' F (.d ret v)

def GD (P : Program) (Γ : Gl) (k : Nat) (t : TypeId) (d : D) : Prop := ∀ w, Γ.G w → ∃ u,(Instr.loadAt t (.pointer (some ⟨k,0,none⟩))).run P w = .ok u w ∧ RpD w (fun b => Γ.NG ≤ b) (.d d u)
theorem run_glob {k : Nat} {t : TypeId} {dst : Option Tmp} {ty : TypeId} {pos : String} {af : Array Edge} {gd : Option (Nat × Bool)} {a : Act} {w : World} {u : Value} (h : (Instr.loadAt t (.pointer (some ⟨k,0,none⟩))).run P w = .ok u w) :
 (execOp a.eval ⟨dst,.load t (.global k),ty,pos,af,gd⟩).run P w = .ok (.value u) w:=by
 simp only [execOp,Act.eval,Sem.run_bind,h]
 rfl
theorem run_call {f : FuncId} {dst : Option Tmp} {args : Array Operand} {ats : Array TypeId} {ty : TypeId} {pos : String} {af : Array Edge} {gd : Option (Nat × Bool)} (hf : entB P f = true) (a : Act) (w : World) :
 (execOp a.eval ⟨dst,.call ⟨.value (.func f),args,ats⟩,ty,pos,af,gd⟩).run P w = .ok (.enter f (args.toList.map a.eval).toArray) w:=by
 unfold entB at hf
 split at hf
 · rename_i fn hfn
   simp only [Bool.and_eq_true,Bool.not_eq_true'] at hf
   have h2 : fn.body.isNone = false:=by cases h : fn.body <;> simp_all
   have hm : args.map a.eval = (args.toList.map a.eval).toArray:=by apply Array.ext'; simp
   simp only [execOp,resolve,Act.eval,Deferred.ofValue,Sem.run_bind,Sem.run_pure,Result.andThen_ok,invoke,callFunc,run_program,hfn,hf.1,h2]
   simp [hm]
 · cases hf

theorem mut_lt {β : Nat → Value} {e : Env} {s : St} {a : Act} {w : World} (inv : InvB C β e s a w) {b : Nat} (h : Mut C.F β s b) : b < w.heap.size:=by
 rcases h with h | ⟨i,bx,h1,h2⟩
 · exact inv.wr.low b h
 · exact (inv.wr.boxes i bx h1).blk_lt h2

theorem mut_lo {β : Nat → Value} {e : Env} {s : St} {a : Act} {w : World} (inv : InvB C β e s a w) {b : Nat} (h : Mut C.F β s b) : Γ.NG ≤ b:=by
 rcases h with h | ⟨i,bx,h1,h2⟩
 · exact C.lo b h
 · exact inv.base i bx b h1 h2
theorem stop_callF {ops rest : List Oper} {e : Env} {s : St} {K : Exit → Env → St → Prop} {f : FuncId} {dst : Option Tmp} {args : Array Operand} {ats : Array TypeId} {ty : TypeId} {pos : String} {af : Array Edge}
 (hB : regOK N (⟨dst,.call ⟨.value (.func f),args,ats⟩,ty,pos,af,none⟩ :: rest) = true) {ds : List D} {ret : D} (hk : oks true (vals e args.toList)) (hd : SV.toDs s (opns (vals e args.toList)) = some ds) (hr : ret.flat = true)
 (hf : DFn P Γ f ds ret) (h : vcOps C ops rest (putO dst (.d ret) e) s K) : Stop C ops (⟨dst,.call ⟨.value (.func f),args,ats⟩,ty,pos,af,none⟩ :: rest) e s K:=by
 intro β a w inv
 simp only [regOK,List.all_cons,Bool.and_eq_true,opOK] at hB
 obtain ⟨⟨hdst,ho⟩,hB'⟩:=hB
 have ha : args.toList.all opdOK = true:=by
  simp only [Op.operands,Call.operands,Array.toList_append,List.all_append,Bool.and_eq_true] at ho
  exact ho.2
 have ih:=vcOps_ok (ops:=ops) hB' h
 refine wpList_plain rfl fun K' hK'=>?_
 unfold Oper.wp
 rw [run_call hf.1]
 have hargs:=toDs_rpv inv _ ds _ (oks_rp inv args.toList ha hk) hd
 refine (hf.2 (fun _=>False) w _ inv.glob inv.big (fun b h=>h.elim) hargs).mono ?_
 rintro e w' ⟨v,rfl,hb,hv⟩
 exact hK' _ _ (ih β _ _ ((inv.grow hb).put dst hdst (.d (flat_rp ret v hr hv))))
end
end Go.Sw
namespace Go.Sw
open Go.RowKit

section
variable {P : Program} {N : Nat} {Γ : Gl} {C : Cx P N Γ}

theorem lk_dropS (X : Nat → Bool) (i : Nat) : ∀ s : St,lk i (dropS X s) = bif X i then none else (lk i s).map (Box.jk X)
 | []=>by cases X i <;> rfl
 | (j, b) :: s=>by
  have ih:=lk_dropS X i s
  unfold dropS
  by_cases hij : i = j
  · subst hij
    cases hX : X i
    · simp [lk]
    · simp only [cond_true,ih,hX]
  · cases hX : X j
    · simp only [cond_false,lk,beq_ne hij,ih]
    · simp only [cond_true,lk,beq_ne hij,ih,cond_false]
theorem dropS_fewer (X : Nat → Bool) (s : St) : Fewer s (dropS X s):=fun i bx h=>by
 rw [lk_dropS] at h
 cases hX : X i
 · rw [hX,cond_false] at h
   cases hl : lk i s with
   | none=>rw [hl] at h; cases h
   | some b=>exact ⟨b,rfl⟩
 · rw [hX] at h; cases h

def keepS : St → St → Prop
 | [],_=>True
 | (i,_) :: r,s'=>(lk i s').isSome = true ∧ keepS r s'
theorem keepS_lk {s' : St} : ∀ {r : St},keepS r s' → ∀ i bx,lk i r = some bx → lk i s' ≠ none
 | (j, b) :: r,h,i,bx,hl=>by
  unfold lk at hl
  by_cases hij : i = j
  · subst hij
    intro he
    have:=h.1
    rw [he] at this; cases this
  · rw [beq_ne hij,cond_false] at hl
    exact keepS_lk h.2 i bx hl
theorem InvB.drop {β : Nat → Value} {e : Env} {s : St} {a : Act} {w : World} (inv : InvB C β e s a w) (X : Nat → Bool) {s0 : St} (h0 : C.s0 = s0) (hk : keepS s0 (dropS X s)) : InvB C β (jkE X e) (dropS X s) a w:=by
 have hf:=dropS_fewer X s
 have get : ∀ i bx,lk i (dropS X s) = some bx → ∃ b,X i = false ∧ lk i s = some b ∧ bx = b.jk X:=fun i bx h=>by
  rw [lk_dropS] at h
  cases hX : X i
  · rw [hX,cond_false] at h
    cases hl : lk i s with
    | none=>rw [hl] at h; cases h
    | some b=>rw [hl] at h; exact ⟨b,rfl,rfl,by simpa using h.symm⟩
  · rw [hX] at h; cases h
 have hx : Ext X C.F w β s w β (dropS X s):=⟨fun _ _ _=>rfl,fun b _ h=>hf.mut h,fun i cs hX h=>⟨rfl,SV.jks X cs,by rw [lk_dropS,hX,h]; rfl⟩,fun i k L hX h=>⟨rfl,L,by rw [lk_dropS,hX,h]; rfl,Nat.le_refl _⟩,fun i M hX h=>⟨rfl,M,by rw [lk_dropS,hX,h]; rfl⟩⟩
 refine inv.step hx ⟨fun i bx h=>?_,fun i j b1 b2 b h1 h2 h3 h4=>?_,fun i bx b h h2=>?_,inv.wr.low⟩ ⟨inv.since.os,inv.since.tape,inv.since.output,inv.since.size,inv.since.heap,fun i bx b h h2=>?_,fun i c1 c2 h h2=>?_,fun i bx h=>?_⟩ (Nat.le_refl _) (fun _ _=>rfl) (fun i bx b h h2=>?_)
 · obtain ⟨b,hX,hl,rfl⟩:=get i bx h
   have hb:=inv.wr.boxes i b hl
   cases b with
   | cells cs =>
    obtain ⟨bb,t,us,h1,h2,h3,h4⟩:=hb
    exact ⟨bb,t,us,h1,h2,Rp.keep hx h3,h4⟩
   | row k L =>
    obtain ⟨g0,hk,el,xs,g1,g2,g3⟩:=hb
    exact ⟨g0,hk,el,xs,g1,g2.keep hx.heap hx.mutb,g3⟩
   | mp M=>exact hb
 · obtain ⟨c1, -,g1, -⟩:=get i b1 h1
   obtain ⟨c2, -,g2, -⟩:=get j b2 h2
   exact inv.wr.inj i j c1 c2 b g1 g2 h3 h4
 · obtain ⟨c1, -,g1, -⟩:=get i bx h
   exact inv.wr.apart i c1 b g1 h2
 · obtain ⟨c, -,g1, -⟩:=get i bx h
   exact inv.since.boxes i c b g1 h2
 · obtain ⟨b, -,g1,g2⟩:=get i _ h2
   cases b with
   | cells cs=>exact inv.since.cells i c1 cs h g1
   | row=>cases g2
   | mp=>cases g2
 · rw [h0] at h; exact keepS_lk hk i bx h
 · obtain ⟨c1, -,g1, -⟩:=get i bx h
   exact inv.base i c1 b g1 h2

theorem inX_mem : ∀ {X : List Nat} {i : Nat},i ∈ X → inX X i = true
 | j :: l,i,h=>by
  unfold inX
  by_cases hij : i = j
  · subst hij; simp
  · rw [beq_ne hij,cond_false]
    exact inX_mem ((List.mem_cons.1 h).resolve_left hij)
theorem InvB.off {β : Nat → Value} {e : Env} {s : St} {a : Act} {w : World} (inv : InvB C β e s a w) (X : List Nat) {s0 : St} (h0 : C.s0 = s0) (hk : keepS s0 (offS X s)) : InvB C β (offE X e) (offS X s) a w ∧ Fewer s (offS X s) ∧ ∀ i ∈ X,lk i (offS X s) = none:=by
 cases X with
 | nil=>exact ⟨inv,fun i bx h=>⟨bx,h⟩,fun i h=>by cases h⟩
 | cons j l=>exact ⟨inv.drop _ h0 hk,dropS_fewer _ _,fun i h=>by simp only [offS]; rw [lk_dropS,inX_mem h]; rfl⟩

theorem stop_call {s0 : St} (h0 : C.s0 = s0) {ops rest : List Oper} {e : Env} {s : St} {K : Exit → Env → St → Prop} {f : FuncId} {dst : Option Tmp} {args : Array Operand} {ats : Array TypeId} {ty : TypeId} {pos : String} {af : Array Edge}
 (hB : regOK N (⟨dst,.call ⟨.value (.func f),args,ats⟩,ty,pos,af,none⟩ :: rest) = true) {ds : List D} {ret : D} (hk : oks true (vals e args.toList)) (hd : SV.toDs s (opns (vals e args.toList)) = some ds)
 (hkp : keepS s0 (offS (SV.ownss (opns (vals e args.toList))) s)) (hf : DFn P Γ f ds ret) (h : vcOps C ops rest (putO dst (.d ret) (offE (SV.ownss (opns (vals e args.toList))) e)) (offS (SV.ownss (opns (vals e args.toList))) s) K) : Stop C ops (⟨dst,.call ⟨.value (.func f),args,ats⟩,ty,pos,af,none⟩ :: rest) e s K:=by
 intro β a w inv
 simp only [regOK,List.all_cons,Bool.and_eq_true,opOK] at hB
 obtain ⟨⟨hdst,ho⟩,hB'⟩:=hB
 have ha : args.toList.all opdOK = true:=by
  simp only [Op.operands,Call.operands,Array.toList_append,List.all_append,Bool.and_eq_true] at ho
  exact ho.2
 have ih:=vcOps_ok (ops:=ops) hB' h
 refine wpList_plain rfl fun K' hK'=>?_
 unfold Oper.wp
 rw [run_call hf.1]
 obtain ⟨inv2,hfew,hoff⟩:=inv.off (SV.ownss (opns (vals e args.toList))) h0 hkp
 have hargs:=toDs_rp inv hfew _ ds _ (oks_rp inv args.toList ha hk) hd hoff
 refine (hf.2 (Mut C.F β (offS (SV.ownss (opns (vals e args.toList))) s)) w _ inv.glob inv.big (fun b h=>⟨mut_lo inv2 h,mut_lt inv2 h⟩) hargs).mono ?_
 rintro e w' ⟨v,rfl,hb,hv⟩
 exact hK' _ _ (ih β _ _ ((inv2.grow hb).put dst hdst (.d hv)))

/-! ### What is let go -/
def offl (s : St) : List Nat → Prop
 | []=>True
 | i :: l=>lk i s = none ∧ offl s l
theorem offl_mem {s : St} : ∀ {l : List Nat},offl s l → ∀ i ∈ l,lk i s = none
 | j :: l,h,i,hi=>by
  rcases List.mem_cons.1 hi with rfl | hi
  · exact h.1
  · exact offl_mem h.2 i hi
mutual
def FZ (s s' : St) : SV → SV → Prop
 | x,.d z=>x.toD s = some z ∧ offl s' x.owns
 | .agg cs,.agg cs'=>FZs s s' cs cs'
 | .tup cs,.tup cs'=>FZs s s' cs cs'
 | .clo f cs,.clo f' cs'=>f = f' ∧ FZs s s' cs cs'
 | .nil,.nil=>True
 | .ref i o,.ref j o'=>i = j ∧ o = o' ∧ (lk i s').isSome = true
 | .own i,.own j=>i = j ∧ (lk i s').isSome = true
 | .eref i d o,.eref j d' o'=>i = j ∧ d = d' ∧ o = o' ∧ (lk i s').isSome = true
 | .sref i n,.sref j n'=>i = j ∧ n = n' ∧ (lk i s').isSome = true
 | .mp i,.mp j=>i = j ∧ (lk i s').isSome = true
 | .fptr x o,.fptr y o'=>x = y ∧ o = o'
 | .ref i o,.fptr y o'=>o = o' ∧ lk i s' = none ∧ (match lk i s with | some (.cells cs)=>SV.toDs s cs = some y.cells ∧ offl s' (SV.ownss cs) | _=>False)
 | _,.junk=>True
 | _,_=>False
def FZs (s s' : St) : List SV → List SV → Prop
 | [],[]=>True
 | x :: l,y :: l'=>FZ s s' x y ∧ FZs s s' l l'
 | _,_=>False
end
def BoxW (s s' : St) : Box → Box → Prop
 | .cells cs,.cells cs'=>FZs s s' cs cs'
 | .row k L,.row k' L'=>k = k' ∧ L = L'
 | .mp M,.mp M'=>M = M'
 | _,_=>False
def subS (s s' : St) : St → Prop
 | []=>True
 | (i,bx) :: r=>(match lk i s with | some b=>BoxW s s' b bx | none=>False) ∧ subS s s' r
def subE (e : Env) (s s' : St) : Env → Prop
 | []=>True
 | (t,x) :: r=>(match lk t e with | some y=>FZ s s' y x | none=>False) ∧ subE e s s' r
theorem subS_lk {s s' : St} : ∀ {r : St},subS s s' r → ∀ i bx,lk i r = some bx → ∃ b,lk i s = some b ∧ BoxW s s' b bx
 | (j, b) :: r,h,i,bx,hl=>by
  unfold lk at hl
  by_cases hij : i = j
  · subst hij
    simp at hl; subst hl
    have h1:=h.1
    split at h1
    · rename_i b' hb; exact ⟨b',hb,h1⟩
    · exact h1.elim
  · rw [beq_ne hij,cond_false] at hl
    exact subS_lk h.2 i bx hl
theorem subE_lk {e : Env} {s s' : St} : ∀ {r : Env},subE e s s' r → ∀ t x,lk t r = some x → ∃ y,lk t e = some y ∧ FZ s s' y x
 | (j, b) :: r,h,i,bx,hl=>by
  unfold lk at hl
  by_cases hij : i = j
  · subst hij
    simp at hl; subst hl
    have h1:=h.1
    split at h1
    · rename_i b' hb; exact ⟨b',hb,h1⟩
    · exact h1.elim
  · rw [beq_ne hij,cond_false] at hl
    exact subE_lk h.2 i bx hl

section
variable {β : Nat → Value} {e : Env} {s s' : St} {a : Act} {w : World}
theorem fz_d (inv : InvB C β e s a w) (hs : subS s s' s') {x : SV} {z : D} {u : Value} (h : Rp w C.F β s (.s x u)) (hz : x.toD s = some z ∧ offl s' x.owns) : Rp w C.F β s' (.s (.d z) u) :=
 .d (toD_rp inv (fun i bx hl=>let ⟨b,hb,_⟩:=subS_lk hs i bx hl; ⟨b,hb⟩) x z u h hz.1 (fun i hi=>offl_mem hz.2 i hi))
theorem cs_of_ds {w : World} {M : Nat → Prop} {b : Nat} (hm : ¬ M b) : ∀ {ds : List D} {us : List Value} {o : Nat},RpD w M (.ds ds us) → (∀ j u,us[j]? = some u → w.cell? ⟨b,o + j,none⟩ = some u) → RpD w M (.cs ds b o)
 | [],_,o,.dsn,_=>.csn b o
 | x :: ds,u :: us,o,.dsc h ht,hc=>.csc hm (hc 0 u rfl) h (cs_of_ds hm ht fun j v hj=>by
     have:=hc (j + 1) v (by simpa using hj)
     rw [show o + 1 + j = o + (j + 1) by omega]; exact this)
theorem fz_fptr (inv : InvB C β e s a w) (hs : subS s s' s') {i o : Nat} {y : D} {u : Value} (h : Rp w C.F β s (.s (.ref i o) u)) (hn : lk i s' = none) (hz : match lk i s with | some (.cells cs)=>SV.toDs s cs = some y.cells ∧ offl s' (SV.ownss cs) | _=>False) : Rp w C.F β s' (.s (.fptr y o) u):=by
 have hf : Fewer s s':=fun i bx hl=>let ⟨b,hb,_⟩:=subS_lk hs i bx hl; ⟨b,hb⟩
 cases h with
 | @ref _ _ b cs hl hb =>
  rw [hl] at hz
  obtain ⟨hz,ho⟩:=hz
  obtain ⟨bb,t,us,h1,h2,h3,h4⟩:=inv.wr.boxes i _ hl
  rw [hb] at h1
  obtain rfl : b = bb:=by simpa using h1
  have hM : ¬ Mut C.F β s' b:=fun hm=>by
   rcases hm with hm | ⟨j,bx,hj,hjb⟩
   · exact inv.wr.apart i _ b hl (by rw [hb]; rfl) hm
   · obtain ⟨c,hc, -⟩:=subS_lk hs j bx hj
     have:=inv.wr.inj j i c _ b hc hl hjb (by rw [hb]; rfl)
     subst this
     rw [hn] at hj; cases hj
  have hds:=toDs_rp inv hf cs _ _ h3 hz (offl_mem ho)
  have:=cs_of_ds (b:=b) (o:=0) hM hds (fun j v hj=>by
   simp only [World.cell?,h2,Nat.zero_add]
   have hj' : us[j]? = some v:=by simpa using hj
   simp [hj'])
  have h5:=Rp.fptr (F:=C.F) (β := β) (s:=s') (off:=o) this
  rw [Nat.zero_add] at h5
  exact h5
mutual
theorem FZ.rp (inv : InvB C β e s a w) (hs : subS s s' s') : ∀ (x y : SV) (u : Value),FZ s s' x y → Rp w C.F β s (.s x u) → Rp w C.F β s' (.s y u)
 | x,.d z,u,hz,h=>fz_d inv hs h (by unfold FZ at hz; exact hz)
 | .agg cs,.agg cs',u,hz,h=>by
  unfold FZ at hz
  cases h with | agg h=>exact .agg (FZs.rp inv hs cs cs' _ hz h)
 | .tup cs,.tup cs',u,hz,h=>by
  unfold FZ at hz
  cases h with | tup h=>exact .tup (FZs.rp inv hs cs cs' _ hz h)
 | .clo f cs,.clo f' cs',u,hz,h=>by
  unfold FZ at hz
  obtain ⟨rfl,hz⟩:=hz
  cases h with | clo h=>exact .clo (FZs.rp inv hs cs cs' _ hz h)
 | .nil,.nil,u,hz,h=>by cases h; exact .nil
 | .ref i o,.ref j o',u,hz,h=>by
  unfold FZ at hz
  obtain ⟨rfl,rfl,hi⟩:=hz
  cases h with
  | ref hl hb =>
   obtain ⟨bx,h1⟩:=Option.isSome_iff_exists.1 hi
   obtain ⟨b',h2,h3⟩:=subS_lk hs i bx h1
   rw [hl] at h2
   cases h2
   cases bx with
   | cells cs'=>exact .ref h1 hb
   | row=>exact h3.elim
   | mp=>exact h3.elim
 | .sref i n,.sref j n',u,hz,h=>by
  unfold FZ at hz
  obtain ⟨rfl,rfl,hi⟩:=hz
  cases h with
  | sref hl hb =>
   obtain ⟨bx,h1⟩:=Option.isSome_iff_exists.1 hi
   obtain ⟨b',h2,h3⟩:=subS_lk hs i bx h1
   rw [hl] at h2
   cases h2
   cases bx with
   | cells cs'=>exact .sref h1 hb
   | row=>exact h3.elim
   | mp=>exact h3.elim
 | .own i,.own j,u,hz,h=>by
  unfold FZ at hz
  obtain ⟨rfl,hi⟩:=hz
  cases h with
  | own hl =>
   obtain ⟨bx,h1⟩:=Option.isSome_iff_exists.1 hi
   obtain ⟨b',h2,h3⟩:=subS_lk hs i bx h1
   rw [hl] at h2
   cases h2
   cases bx with
   | cells cs'=>exact h3.elim
   | row=>exact .own h1
   | mp=>exact h3.elim
 | .eref i d o,.eref j d' o',u,hz,h=>by
  unfold FZ at hz
  obtain ⟨rfl,rfl,rfl,hi⟩:=hz
  cases h with
  | eref hl hd hb =>
   obtain ⟨bx,h1⟩:=Option.isSome_iff_exists.1 hi
   obtain ⟨b',h2,h3⟩:=subS_lk hs i bx h1
   rw [hl] at h2
   cases h2
   cases bx with
   | cells cs'=>exact h3.elim
   | row k' L'=>obtain ⟨rfl,rfl⟩:=h3; exact .eref h1 hd hb
   | mp=>exact h3.elim
 | .mp i,.mp j,u,hz,h=>by
  unfold FZ at hz
  obtain ⟨rfl,hi⟩:=hz
  cases h with
  | mp hl =>
   obtain ⟨bx,h1⟩:=Option.isSome_iff_exists.1 hi
   obtain ⟨b',h2,h3⟩:=subS_lk hs i bx h1
   rw [hl] at h2
   cases h2
   cases bx with
   | cells cs'=>exact h3.elim
   | row=>exact h3.elim
   | mp=>exact .mp h1
 | .fptr x o,.fptr y o',u,hz,h=>by
  unfold FZ at hz
  obtain ⟨rfl,rfl⟩:=hz
  cases h with
  | fptr h=>exact .fptr (h.keep (fun _ _ _=>rfl) (fun b _ hm=>Fewer.mut (fun i bx hl=>let ⟨b,hb,_⟩:=subS_lk hs i bx hl; ⟨b,hb⟩) hm))
 | .ref i o,.fptr y o',u,hz,h=>by
  unfold FZ at hz
  obtain ⟨rfl,hn,hz⟩:=hz
  exact fz_fptr inv hs h hn hz
 | _,.junk,u,hz,h=>.junk
 | .agg _,.tup _,_,hz,_ | .agg _,.clo _ _,_,hz,_ | .agg _,.nil,_,hz,_ | .agg _,.ref _ _,_,hz,_ | .agg _,.own _,_,hz,_ | .agg _,.eref _ _ _,_,hz,_ | .agg _,.fptr _ _,_,hz,_ | .agg _,.mp _,_,hz,_ | .agg _,.grd _ _,_,hz,_ | .agg _,.sref _ _,_,hz,_=>by unfold FZ at hz; exact hz.elim
 | .tup _,.agg _,_,hz,_ | .tup _,.clo _ _,_,hz,_ | .tup _,.nil,_,hz,_ | .tup _,.ref _ _,_,hz,_ | .tup _,.own _,_,hz,_ | .tup _,.eref _ _ _,_,hz,_ | .tup _,.fptr _ _,_,hz,_ | .tup _,.mp _,_,hz,_ | .tup _,.grd _ _,_,hz,_ | .tup _,.sref _ _,_,hz,_=>by unfold FZ at hz; exact hz.elim
 | .clo _ _,.agg _,_,hz,_ | .clo _ _,.tup _,_,hz,_ | .clo _ _,.nil,_,hz,_ | .clo _ _,.ref _ _,_,hz,_ | .clo _ _,.own _,_,hz,_ | .clo _ _,.eref _ _ _,_,hz,_ | .clo _ _,.fptr _ _,_,hz,_ | .clo _ _,.mp _,_,hz,_ | .clo _ _,.grd _ _,_,hz,_ | .clo _ _,.sref _ _,_,hz,_=>by unfold FZ at hz; exact hz.elim
 | .nil,.agg _,_,hz,_ | .nil,.tup _,_,hz,_ | .nil,.clo _ _,_,hz,_ | .nil,.ref _ _,_,hz,_ | .nil,.own _,_,hz,_ | .nil,.eref _ _ _,_,hz,_ | .nil,.fptr _ _,_,hz,_ | .nil,.mp _,_,hz,_ | .nil,.grd _ _,_,hz,_ | .nil,.sref _ _,_,hz,_=>by unfold FZ at hz; exact hz.elim
 | .ref _ _,.agg _,_,hz,_ | .ref _ _,.tup _,_,hz,_ | .ref _ _,.clo _ _,_,hz,_ | .ref _ _,.nil,_,hz,_ | .ref _ _,.own _,_,hz,_ | .ref _ _,.eref _ _ _,_,hz,_ | .ref _ _,.mp _,_,hz,_ | .ref _ _,.grd _ _,_,hz,_ | .ref _ _,.sref _ _,_,hz,_=>by unfold FZ at hz; exact hz.elim
 | .own _,.agg _,_,hz,_ | .own _,.tup _,_,hz,_ | .own _,.clo _ _,_,hz,_ | .own _,.nil,_,hz,_ | .own _,.ref _ _,_,hz,_ | .own _,.eref _ _ _,_,hz,_ | .own _,.fptr _ _,_,hz,_ | .own _,.mp _,_,hz,_ | .own _,.grd _ _,_,hz,_ | .own _,.sref _ _,_,hz,_=>by unfold FZ at hz; exact hz.elim
 | .eref _ _ _,.agg _,_,hz,_ | .eref _ _ _,.tup _,_,hz,_ | .eref _ _ _,.clo _ _,_,hz,_ | .eref _ _ _,.nil,_,hz,_ | .eref _ _ _,.ref _ _,_,hz,_ | .eref _ _ _,.own _,_,hz,_ | .eref _ _ _,.fptr _ _,_,hz,_ | .eref _ _ _,.mp _,_,hz,_ | .eref _ _ _,.grd _ _,_,hz,_ | .eref _ _ _,.sref _ _,_,hz,_=>by unfold FZ at hz; exact hz.elim
 | .fptr _ _,.agg _,_,hz,_ | .fptr _ _,.tup _,_,hz,_ | .fptr _ _,.clo _ _,_,hz,_ | .fptr _ _,.nil,_,hz,_ | .fptr _ _,.ref _ _,_,hz,_ | .fptr _ _,.own _,_,hz,_ | .fptr _ _,.eref _ _ _,_,hz,_ | .fptr _ _,.mp _,_,hz,_ | .fptr _ _,.grd _ _,_,hz,_ | .fptr _ _,.sref _ _,_,hz,_=>by unfold FZ at hz; exact hz.elim
 | .mp _,.agg _,_,hz,_ | .mp _,.tup _,_,hz,_ | .mp _,.clo _ _,_,hz,_ | .mp _,.nil,_,hz,_ | .mp _,.ref _ _,_,hz,_ | .mp _,.own _,_,hz,_ | .mp _,.eref _ _ _,_,hz,_ | .mp _,.fptr _ _,_,hz,_ | .mp _,.grd _ _,_,hz,_ | .mp _,.sref _ _,_,hz,_=>by unfold FZ at hz; exact hz.elim
 | .grd _ _,.agg _,_,hz,_ | .grd _ _,.tup _,_,hz,_ | .grd _ _,.clo _ _,_,hz,_ | .grd _ _,.nil,_,hz,_ | .grd _ _,.ref _ _,_,hz,_ | .grd _ _,.own _,_,hz,_ | .grd _ _,.eref _ _ _,_,hz,_ | .grd _ _,.fptr _ _,_,hz,_ | .grd _ _,.mp _,_,hz,_ | .grd _ _,.grd _ _,_,hz,_ | .grd _ _,.sref _ _,_,hz,_=>by unfold FZ at hz; exact hz.elim
 | .junk,.agg _,_,hz,_ | .junk,.tup _,_,hz,_ | .junk,.clo _ _,_,hz,_ | .junk,.nil,_,hz,_ | .junk,.ref _ _,_,hz,_ | .junk,.own _,_,hz,_ | .junk,.eref _ _ _,_,hz,_ | .junk,.fptr _ _,_,hz,_ | .junk,.mp _,_,hz,_ | .junk,.grd _ _,_,hz,_ | .junk,.sref _ _,_,hz,_=>by unfold FZ at hz; exact hz.elim
 | .d _,.agg _,_,hz,_ | .d _,.tup _,_,hz,_ | .d _,.clo _ _,_,hz,_ | .d _,.nil,_,hz,_ | .d _,.ref _ _,_,hz,_ | .d _,.own _,_,hz,_ | .d _,.eref _ _ _,_,hz,_ | .d _,.fptr _ _,_,hz,_ | .d _,.mp _,_,hz,_ | .d _,.grd _ _,_,hz,_ | .d _,.sref _ _,_,hz,_=>by unfold FZ at hz; exact hz.elim
 | .sref _ _,.agg _,_,hz,_ | .sref _ _,.tup _,_,hz,_ | .sref _ _,.clo _ _,_,hz,_ | .sref _ _,.nil,_,hz,_ | .sref _ _,.ref _ _,_,hz,_ | .sref _ _,.own _,_,hz,_ | .sref _ _,.eref _ _ _,_,hz,_ | .sref _ _,.fptr _ _,_,hz,_ | .sref _ _,.mp _,_,hz,_ | .sref _ _,.grd _ _,_,hz,_=>by unfold FZ at hz; exact hz.elim
theorem FZs.rp (inv : InvB C β e s a w) (hs : subS s s' s') : ∀ (l l' : List SV) (us : List Value),FZs s s' l l' → Rp w C.F β s (.ss l us) → Rp w C.F β s' (.ss l' us)
 | [],[],us,hz,h=>by cases h; exact .ssn
 | x :: l,y :: l',us,hz,h=>by
  cases h with
  | ssc hx hl=>exact .ssc (FZ.rp inv hs x y _ hz.1 hx) (FZs.rp inv hs l l' _ hz.2 hl)
 | [],_ :: _,_,hz,_=>by exact hz.elim
 | _ :: _,[],_,hz,_=>by exact hz.elim
end

theorem sub_ok {s0 : St} (h0 : C.s0 = s0) (hk : keepS s0 s') (hS : subS s s' s') {e' : Env} (hE : subE e s s' e') (inv : InvB C β e s a w) : InvB C β e' s' a w:=by
 have hf : Fewer s s':=fun i bx hl=>let ⟨b,hb,_⟩:=subS_lk hS i bx hl; ⟨b,hb⟩
 refine ⟨⟨fun i bx h=>?_,fun i j b1 b2 b h1 h2 h3 h4=>?_,fun i bx b h h2=>?_,inv.wr.low⟩,fun i bx b h h2=>?_,fun t x h=>?_,inv.size,inv.defers,inv.glob,inv.big,⟨inv.since.os,inv.since.tape,inv.since.output,inv.since.size,inv.since.heap,fun i bx b h h2=>?_,fun i c1 c2 h h2=>?_,fun i bx h=>?_⟩⟩
 · obtain ⟨b,hl,hw⟩:=subS_lk hS i bx h
   have hb:=inv.wr.boxes i b hl
   cases b with
   | cells cs =>
    cases bx with
    | cells cs' =>
     obtain ⟨bb,t,us,h1,h2,h3,h4⟩:=hb
     exact ⟨bb,t,us,h1,h2,FZs.rp inv hS cs cs' _ hw h3,h4⟩
    | row=>exact hw.elim
    | mp=>exact hw.elim
   | row k L =>
    cases bx with
    | cells cs'=>exact hw.elim
    | row k' L' =>
     obtain ⟨rfl,rfl⟩:=hw
     obtain ⟨g0,hk,el,xs,g1,g2,g3⟩:=hb
     exact ⟨g0,hk,el,xs,g1,g2.keep (fun _ _ _=>rfl) (fun b _ h=>hf.mut h),g3⟩
    | mp=>exact hw.elim
   | mp M =>
    cases bx with
    | cells cs'=>exact hw.elim
    | row=>exact hw.elim
    | mp M'=>obtain rfl:=hw; exact hb
 · obtain ⟨c1,g1⟩:=hf i b1 h1
   obtain ⟨c2,g2⟩:=hf j b2 h2
   exact inv.wr.inj i j c1 c2 b g1 g2 h3 h4
 · obtain ⟨c1,g1⟩:=hf i bx h
   exact inv.wr.apart i c1 b g1 h2
 · obtain ⟨c1,g1⟩:=hf i bx h
   exact inv.base i c1 b g1 h2
 · obtain ⟨y,hy,hz⟩:=subE_lk hE t x h
   obtain ⟨h1,h2⟩:=inv.env t y hy
   exact ⟨h1,FZ.rp inv hS y x _ hz h2⟩
 · obtain ⟨c,g1⟩:=hf i bx h
   exact inv.since.boxes i c b g1 h2
 · obtain ⟨b,hl,hw⟩:=subS_lk hS i _ h2
   cases b with
   | cells cs=>exact inv.since.cells i c1 cs h hl
   | row=>exact hw.elim
   | mp=>exact hw.elim
 · rw [h0] at h; exact keepS_lk hk i bx h
theorem sub_of {s0 : St} (h0 : C.s0 = s0) (hk : keepS s0 s') (hS : subS s s' s') {e' : Env} (hE : subE e s s' e') : Sub C e s e' s':=fun β a w inv=>⟨β,sub_ok h0 hk hS hE inv⟩
end
end
end Go.Sw
namespace Go.Sw
open Go.RowKit

section
variable {P : Program} {N : Nat} {Γ : Gl} {C : Cx P N Γ}

abbrev Ans:=List (Nat × D)
def lksA (ops : List Oper) (o : Oper) : List Tmp:=o.looksAt ops.toArray
def rst (ts : List Tmp) (e : Env) : Env :=
 match ts with
 | []=>[]
 | t :: r=>match lk t e with | some x=>(t,x) :: rst r e | none=>rst r e
theorem rst_lk : ∀ {ts : List Tmp} {e : Env} {t : Nat} {x : SV},lk t (rst ts e) = some x → t ∈ ts ∧ lk t e = some x
 | [],e,t,x,h=>by cases h
 | u :: r,e,t,x,h=>by
  unfold rst at h
  cases hu : lk u e with
  | none=>rw [hu] at h; obtain ⟨h1,h2⟩:=rst_lk h; exact ⟨by simp [h1],h2⟩
  | some y =>
   rw [hu] at h
   simp only [lk] at h
   by_cases htu : t = u
   · subst htu
     simp at h
     subst h
     exact ⟨by simp,hu⟩
   · rw [beq_ne htu,cond_false] at h
     obtain ⟨h1,h2⟩:=rst_lk h
     exact ⟨by simp [h1],h2⟩
def callA (P : Program) (Γ : Gl) (g : Bool) (ret : D) (op : Op) (e : Env) (s : St) : Option (Prop × SV) :=
 match op with
 | .call c=>match c.callee with
  | .value (.func f)=>match SV.toDs s (opns (vals e c.args.toList)) with
   | some ds=>some (oks g (vals e c.args.toList) ∧ (ret.flat = true ∨ SV.ownss (opns (vals e c.args.toList)) = []) ∧ (g = true → DFn P Γ f ds ret),.d ret)
   | none=>none
  | _=>none
 | .load t x=>match x with
  | .global k=>some ((g = true → GD P Γ k t ret),.d ret)
  | _=>none
 | _=>none
def stepA (P : Program) (Γ : Gl) (ans : Ans) (i : Nat) (g : Bool) (o : Oper) (e : Env) (s : St) : Option (Prop × SV) :=
 match lk i ans with
 | some ret=>callA P Γ g ret o.op e s
 | none=>bif pureOp o.op then (stepO P g o e s).map fun r=>(r.1,r.2.1) else none
def vcA (P : Program) (Γ : Gl) (ans : Ans) (ops : List Oper) : Nat → List Oper → Env → St → (Exit → Env → St → Prop) → Prop
 | _,[],e,s,K=>K .normal e s
 | i, o :: rest,e,s,K=>match o.guard with
  | none=>match stepA P Γ ans i true o (rst (lksA ops o) e) s with
   | some (p,x)=>p ∧ vcA P Γ ans ops (i + 1) rest (putO o.dst x e) s K
   | none=>False
  | some (j,want)=>match gVal (rst (lksA ops o) e) ops j want with
   | some g=>match stepA P Γ ans i g o (rst (lksA ops o) e) s with
    | some (p,x)=>p ∧ vcA P Γ ans ops (i + 1) rest (putO o.dst (.grd g x) e) s K
    | none=>False
   | none=>False

theorem stepA_ok {ans : Ans} {i : Nat} {o : Oper} {e : Env} {s : St} {p : Prop} {x : SV} (ho : o.op.operands.toList.all opdOK = true) (h : stepA P Γ ans i true o e s = some (p,x)) (hp : p) {β : Nat → Value} {a : Act} {w : World} (inv : InvB C β e s a w)
 (K : Act → World → Prop) (Q : Exit → Act → World → Prop) (hK : ∀ v w',Below w.heap.size w w' → Rp w' C.F β s (.s x v) → K (a.put o.dst v) w') : o.wp P a w K Q:=by
 unfold stepA at h
 split at h
 · rename_i ret hr
   obtain ⟨dst,op,ty,pos,af,gd⟩:=o
   cases op with
   | call c =>
    obtain ⟨cl,args,ats⟩:=c
    simp only [callA] at h
    cases cl with
    | value y =>
     cases y with
     | func f =>
      simp only at h
      split at h
      · rename_i ds hds
        simp only [Option.some.injEq,Prod.mk.injEq] at h
        obtain ⟨rfl,rfl⟩:=h
        obtain ⟨h1,h2,h3⟩:=hp
        have ha : args.toList.all opdOK = true:=by
         simp only [Op.operands,Call.operands,Array.toList_append,List.all_append,Bool.and_eq_true] at ho
         exact ho.2
        have hf:=h3 trivial
        unfold Oper.wp
        rw [run_call hf.1]
        rcases h2 with h2 | h2
        · have hargs:=toDs_rpv inv _ ds _ (oks_rp inv args.toList ha h1) hds
          refine (hf.2 (fun _=>False) w _ inv.glob inv.big (fun b h=>h.elim) hargs).mono ?_
          rintro e w' ⟨v,rfl,hb,hv⟩
          exact hK v w' hb (.d (flat_rp ret v h2 hv))
        · have hargs:=toDs_rp inv (s':=s) (fun i bx h=>⟨bx,h⟩) _ ds _ (oks_rp inv args.toList ha h1) hds (by rw [h2]; intro i h; cases h)
          refine (hf.2 (Mut C.F β s) w _ inv.glob inv.big (fun b h=>⟨mut_lo inv h,mut_lt inv h⟩) hargs).mono ?_
          rintro e w' ⟨v,rfl,hb,hv⟩
          exact hK v w' hb (.d hv)
      · cases h
     | _=>cases h
    | _=>cases h
   | load t x =>
    simp only [callA] at h
    cases x with
    | global k =>
     simp only [Option.some.injEq,Prod.mk.injEq] at h
     obtain ⟨rfl,rfl⟩:=h
     obtain ⟨u,h1,h2⟩:=hp trivial w inv.glob
     unfold Oper.wp
     rw [run_glob h1]
     exact hK u w (Below.refl _ _) (.d (h2.keep (fun _ _ _=>rfl) (fun b _ hm=>mut_lo inv hm)))
    | _=>cases h
   | _=>cases h
 · cases hpu : pureOp o.op with
   | false=>rw [hpu] at h; cases h
   | true =>
    rw [hpu,cond_true] at h
    cases hs : stepO P true o e s with
    | none=>rw [hs] at h; cases h
    | some r =>
     rw [hs] at h
     obtain ⟨p',x',e',s'⟩:=r
     simp only [Option.map_some,Option.some.injEq,Prod.mk.injEq] at h
     obtain ⟨rfl,rfl⟩:=h
     have hsame : s' = s:=stepO_pure hpu hs
     subst hsame
     refine stepO_ok ho hs hp β a w inv K Q fun β' v w' inv' hpp hr=>?_
     obtain ⟨rfl,rfl⟩:=hpp hpu
     exact hK v w' (Below.refl _ _) hr

def StepF (P : Program) (Γ : Gl) (ans : Ans) (ops : List Oper) (i : Nat) (o : Oper) (e : Env) (s : St) (X : SV) : Prop :=
 match o.guard with
 | none => ∃ p,stepA P Γ ans i true o (rst (lksA ops o) e) s = some (p,X) ∧ p
 | some (j,want) => ∃ g p x,gVal (rst (lksA ops o) e) ops j want = some g ∧ stepA P Γ ans i g o (rst (lksA ops o) e) s = some (p,x) ∧ p ∧ X = .grd g x
def envN (ops : List Oper) (Xs : Nat → SV) (e : Env) : Nat → Env
 | 0=>e
 | n + 1=>match ops[n]? with | some o=>putO o.dst (Xs n) (envN ops Xs e n) | none=>envN ops Xs e n
theorem vcA_run {ans : Ans} {ops : List Oper} {s : St} {K : Exit → Env → St → Prop} (e0 : Env) : ∀ (l : List Oper) (i : Nat) (Xs : Nat → SV),(∀ j,l[j]? = ops[i + j]?) → vcA P Γ ans ops i l (envN ops Xs e0 i) s K →
 ∃ Ys : Nat → SV,(∀ j,j < i → Ys j = Xs j) ∧ (∀ j o,i ≤ j → ops[j]? = some o → StepF P Γ ans ops j o (envN ops Ys e0 j) s (Ys j)) ∧ K .normal (envN ops Ys e0 ops.length) s
 | [], i, Xs,hl,h=>by
  have hlen : ∀ j,i ≤ j → ops[j]? = none:=fun j hj=>by
   have:=hl (j - i)
   rw [show i + (j - i) = j by omega] at this
   simpa using this.symm
  have henv : ∀ n,i ≤ n → envN ops Xs e0 n = envN ops Xs e0 i:=fun n hn=>by
   induction n with
   | zero=>rw [show i = 0 by omega]
   | succ n ih =>
    by_cases hi : i = n + 1
    · rw [hi]
    · simp only [envN,hlen n (by omega)]; exact ih (by omega)
  refine ⟨Xs,fun _ _=>rfl,(fun j o hj ho=>by rw [hlen j hj] at ho; cases ho),?_⟩
  by_cases hn : i ≤ ops.length
  · rw [henv _ hn]; exact h
  · have h2 : ∀ n,ops.length ≤ n → envN ops Xs e0 n = envN ops Xs e0 ops.length:=fun n hn=>by
     induction n with
     | zero=>rw [show ops.length = 0 by omega]
     | succ n ih =>
      by_cases hi : ops.length = n + 1
      · rw [hi]
      · simp only [envN,List.getElem?_eq_none (show ops.length ≤ n by omega)]; exact ih (by omega)
    rw [← h2 i (by omega)]; exact h
 | o :: rest,i,Xs,hl,h=>by
  have ho : ops[i]? = some o:=by simpa using (hl 0).symm
  have hl' : ∀ j,rest[j]? = ops[i + 1 + j]? := fun j=>by have:=hl (j + 1); simpa [Nat.add_assoc,Nat.add_comm 1 j] using this
  -- the value that this one yields
  have step : ∀ X,StepF P Γ ans ops i o (envN ops Xs e0 i) s X → vcA P Γ ans ops (i + 1) rest (putO o.dst X (envN ops Xs e0 i)) s K → (∃ Ys : Nat → SV,(∀ j,j < i → Ys j = Xs j) ∧ (∀ j o,i ≤ j → ops[j]? = some o → StepF P Γ ans ops j o (envN ops Ys e0 j) s (Ys j)) ∧ K .normal (envN ops Ys e0 ops.length) s):=fun X hX hrest=>by
   let Zs : Nat → SV:=fun j=>if j = i then X else Xs j
   have hz : ∀ n,n ≤ i → envN ops Zs e0 n = envN ops Xs e0 n:=fun n=>by
    induction n with
    | zero=>intro _; rfl
    | succ n ih =>
     intro hn
     have hni : n ≠ i:=by omega
     simp only [envN,ih (by omega),Zs,if_neg hni]
   have hz1 : envN ops Zs e0 (i + 1) = putO o.dst X (envN ops Xs e0 i):=by
    simp only [envN,ho,hz i (Nat.le_refl _),Zs,if_true]
   obtain ⟨Ys,h1,h2,h3⟩:=vcA_run e0 rest (i + 1) Zs hl' (by rw [hz1]; exact hrest)
   have hy : ∀ n,n ≤ i → envN ops Ys e0 n = envN ops Xs e0 n:=fun n=>by
    induction n with
    | zero=>intro _; rfl
    | succ n ih =>
     intro hn
     have hni : n ≠ i:=by omega
     simp only [envN,ih (by omega),h1 n (by omega),Zs,if_neg hni]
   refine ⟨Ys,fun j hj=>?_,fun j o' hj ho'=>?_,h3⟩
   · rw [h1 j (by omega)]; simp only [Zs,if_neg (show j ≠ i by omega)]
   · by_cases hji : j = i
     · subst hji
       rw [ho] at ho'
       cases ho'
       rw [hy j (Nat.le_refl _),h1 j (by omega)]
       simp only [Zs,if_true]
       exact hX
     · exact h2 j o' (by omega) ho'
  unfold vcA at h
  split at h
  · rename_i hg
    split at h
    · rename_i p x hs
      exact step x (by unfold StepF; rw [hg]; exact ⟨p,hs,h.1⟩) h.2
    · exact h.elim
  · rename_i j want hg
    split at h
    · rename_i g hv
      split at h
      · rename_i p x hs
        exact step (.grd g x) (by unfold StepF; rw [hg]; exact ⟨g,p,x,hv,hs,h.1,rfl⟩) h.2
      · exact h.elim
    · exact h.elim

def reach (ops : List Oper) : Nat → Nat → Nat → Bool
 | 0,_,_=>false
 | n + 1,j,i=>match ops[j]? with
  | some o=>o.after.toList.any fun e=>Region.binds .any e && (Nat.beq e.on i || reach ops n e.on i)
  | none=>false
def drawB (ops : List Oper) : Bool :=
 (List.range ops.length).all fun i=>match ops[i]? with
  | some o => (o.after.toList.all fun e => !Region.binds .any e || Nat.blt e.on i) &&
   (List.range ops.length).all fun j=>match ops[j]? with
    | some oj=>match oj.dst with
     | some t=>(!(lksA ops o).contains t || (Nat.blt j i && reach ops ops.length i j) || (Nat.blt i j && reach ops ops.length j i)) &&
      (!(o.dst == some t) || !Nat.blt i j || reach ops ops.length j i)
     | none=>true
    | none=>true
  | none=>true
theorem blt_iff {a b : Nat} : Nat.blt a b = true ↔ a < b:=by
 simp [Nat.blt_eq]
theorem drawB_spec {ops : List Oper} (h : drawB ops = true) {i : Nat} {o : Oper} (ho : ops[i]? = some o) :
 (∀ e ∈ o.after,Region.binds .any e = true → e.on < i) ∧ ∀ j oj t,ops[j]? = some oj → oj.dst = some t →
  (t ∈ lksA ops o → (j < i ∧ reach ops ops.length i j = true) ∨ (i < j ∧ reach ops ops.length j i = true)) ∧ (o.dst = some t → i < j → reach ops ops.length j i = true):=by
 have hi:=(List.getElem?_eq_some_iff.1 ho).1
 have h1:=List.all_eq_true.1 h i (List.mem_range.2 hi)
 rw [ho] at h1
 simp only [Bool.and_eq_true] at h1
 refine ⟨fun e he hb=>?_,fun j oj t hj ht=>?_⟩
 · have:=List.all_eq_true.1 h1.1 e (by simpa using he)
   simp only [hb,Bool.not_true,Bool.false_or] at this
   exact blt_iff.1 this
 · have hj':=(List.getElem?_eq_some_iff.1 hj).1
   have h2:=List.all_eq_true.1 h1.2 j (List.mem_range.2 hj')
   rw [hj] at h2
   simp only [ht,Bool.and_eq_true,Bool.or_eq_true,Bool.not_eq_true'] at h2
   refine ⟨fun hm=>?_,fun hd hlt=>?_⟩
   · rcases h2.1 with (h3 | h3) | h3
     · rw [List.contains_iff_mem.2 hm] at h3; cases h3
     · exact .inl ⟨blt_iff.1 h3.1,h3.2⟩
     · exact .inr ⟨blt_iff.1 h3.1,h3.2⟩
   · rcases h2.2 with (h3 | h3) | h3
     · simp [hd] at h3
     · have:=blt_iff.2 hlt; rw [this] at h3; cases h3
     · exact h3

def look (ops : List Oper) (Xs : Nat → SV) (D : Nat → Bool) (e0 : Env) : Nat → Nat → Option SV
 | 0,t=>lk t e0
 | n + 1,t=>match ops[n]? with
  | some o=>if o.dst = some t ∧ D n = true then some (Xs n) else look ops Xs D e0 n t
  | none=>look ops Xs D e0 n t
theorem lk_putO {dst : Option Tmp} {x : SV} {e : Env} {t : Nat} : lk t (putO dst x e) = if dst = some t then some x else lk t e:=by
 cases dst with
 | none=>simp [putO]
 | some d =>
  simp only [putO]
  by_cases h : d = t
  · subst h; simp [lk_put_same]
  · rw [lk_put_ne _ (Ne.symm h),if_neg (by simpa using h)]
theorem lk_envN (ops : List Oper) (Xs : Nat → SV) (e0 : Env) (t : Nat) : ∀ n,lk t (envN ops Xs e0 n) = look ops Xs (fun _=>true) e0 n t
 | 0=>rfl
 | n + 1=>by
  unfold envN look
  cases ops[n]? with
  | none=>exact lk_envN ops Xs e0 t n
  | some o=>simp only [lk_putO,and_true,lk_envN ops Xs e0 t n]
theorem look_eq {ops : List Oper} {Xs : Nat → SV} {D : Nat → Bool} {e0 : Env} {t i : Nat} (h : ∀ j oj,ops[j]? = some oj → oj.dst = some t → (j < i ∧ D j = true) ∨ (i ≤ j ∧ D j = false)) : ∀ n,i ≤ n → look ops Xs D e0 n t = look ops Xs (fun _=>true) e0 i t:=by
 have low : ∀ n,n ≤ i → look ops Xs D e0 n t = look ops Xs (fun _=>true) e0 n t:=by
  intro n
  induction n with
  | zero=>intro _; rfl
  | succ n ih =>
   intro hn
   unfold look
   cases ho : ops[n]? with
   | none=>exact ih (by omega)
   | some o =>
    simp only [ih (by omega)]
    by_cases hd : o.dst = some t
    · rcases h n o ho hd with h1 | h1
      · simp [hd,h1.2]
      · omega
    · simp [hd]
 intro n
 induction n with
 | zero => intro hn; obtain rfl : i = 0:=by omega
           exact low 0 (Nat.le_refl _)
 | succ n ih =>
  intro hn
  by_cases hni : i = n + 1
  · rw [hni]; rw [hni] at low; exact low (n + 1) (Nat.le_refl _)
  · have hin : i ≤ n:=by omega
    rw [← ih hin]
    conv=>lhs; unfold look
    cases ho : ops[n]? with
    | none=>rfl
    | some o =>
     by_cases hd : o.dst = some t
     · rcases h n o ho hd with h1 | h1
       · omega
       · simp [h1.2]
     · simp [hd]
theorem look_put {ops : List Oper} {Xs : Nat → SV} {D D' : Nat → Bool} {e0 : Env} {i : Nat} {o : Oper} (ho : ops[i]? = some o) (hD' : ∀ j,D' j = if j = i then true else D j) {t : Nat} : ∀ n,
 (o.dst ≠ some t → look ops Xs D' e0 n t = look ops Xs D e0 n t) ∧ (o.dst = some t → (∀ j oj,i < j → ops[j]? = some oj → oj.dst = some t → D j = false) → i < n → look ops Xs D' e0 n t = some (Xs i))
 | 0=>⟨fun _=>rfl,fun _ _ h=>by omega⟩
 | n + 1 => by
  obtain ⟨i1,i2⟩:=look_put ho hD' (t:=t) n
  refine ⟨fun hd=>?_,fun hd hj hn=>?_⟩
  · unfold look
    cases hon : ops[n]? with
    | none=>exact i1 hd
    | some on =>
     by_cases hni : n = i
     · subst hni
       rw [ho] at hon; cases hon
       simp [hd,i1 hd]
     · simp only [hD' n,if_neg hni,i1 hd]
  · unfold look
    by_cases hni : n = i
    · subst hni
      simp [ho,hd,hD' n]
    · cases hon : ops[n]? with
      | none=>exact i2 hd hj (by omega)
      | some on =>
       simp only [hD' n,if_neg hni]
       by_cases hdn : on.dst = some t
       · rw [if_neg (by simp [hj n on (by omega) hon hdn])]
         exact i2 hd hj (by omega)
       · rw [if_neg (by simp [hdn])]
         exact i2 hd hj (by omega)

def Closed (ops : List Oper) (listed : Array Bool) : Prop := ∀ j o,ops[j]? = some o → listed.getD j false = true → ∀ e ∈ o.after,Region.binds .any e = true → listed.getD e.on false = true
theorem reach_closed {ops : List Oper} {listed : Array Bool} (hc : Closed ops listed) : ∀ n j i,listed.getD j false = true → reach ops n j i = true → listed.getD i false = true
 | 0,j,i,_,h=>by simp [reach] at h
 | n + 1,j,i,hj,h=>by
  unfold reach at h
  split at h
  · rename_i o ho
    obtain ⟨e,he,h2⟩:=List.any_eq_true.1 h
    simp only [Bool.and_eq_true,Bool.or_eq_true] at h2
    have hl:=hc j o ho hj e (by simpa using he) h2.1
    rcases h2.2 with h3 | h3
    · rwa [Nat.eq_of_beq_eq_true h3] at hl
    · exact reach_closed hc n _ i hl h3
  · cases h
theorem reach_ready {ops : List Oper} {listed : Array Bool} (hc : Closed ops listed) {i : Nat} {o : Oper} (ho : ops[i]? = some o) (hall : ∀ e ∈ o.after,Region.binds .any e = true → listed.getD e.on false = true) {n j : Nat} (h : reach ops n i j = true) : listed.getD j false = true:=by
 cases n with
 | zero=>simp [reach] at h
 | succ n =>
  unfold reach at h
  rw [ho] at h
  obtain ⟨e,he,h2⟩:=List.any_eq_true.1 h
  simp only [Bool.and_eq_true,Bool.or_eq_true] at h2
  have hl:=hall e (by simpa using he) h2.1
  rcases h2.2 with h3 | h3
  · rwa [Nat.eq_of_beq_eq_true h3] at hl
  · exact reach_closed hc n _ j hl h3

theorem grow_rp {β : Nat → Value} {s : St} {w w' : World} {F : Nat → Prop} (hb : Below w.heap.size w w') {x : SV} {u : Value} (h : Rp w F β s (.s x u)) : Rp w' F β s (.s x u) :=
 Rp.keep0 ⟨fun b hlt _=>hb.block b hlt,fun b _ h=>h,fun i cs _ h=>⟨rfl,cs,h⟩,fun i k L _ h=>⟨rfl,L,h,Nat.le_refl _⟩,fun i M _ h=>⟨rfl,M,h⟩⟩ h
theorem InvB.withEnv {β : Nat → Value} {e e' : Env} {s : St} {a a' : Act} {w : World} (inv : InvB C β e s a w) (hs : a'.tmps.size = N) (hd : a'.defers = C.ds) (h : ∀ t x,lk t e' = some x → t < N ∧ Rp w C.F β s (.s x (a'.tmps.getD t undef))) : InvB C β e' s a' w :=
 ⟨inv.wr,inv.base,h,hs,hd,inv.glob,inv.big,inv.since⟩

theorem draw_any {ans : Ans} {ops : List Oper} {e0 : Env} {s : St} {K : Exit → Env → St → Prop} {Ys : Nat → SV} (hB : regOK N ops = true) (hD : drawB ops = true)
 (hstep : ∀ j o,ops[j]? = some o → StepF P Γ ans ops j o (envN ops Ys e0 j) s (Ys j)) (hK : K .normal (envN ops Ys e0 ops.length) s) (β : Nat → Value) :
 ∀ (fuel : Nat) (S : List Nat) (listed : Array Bool) (a : Act) (w : World),listed.size = ops.length → Closed ops listed → (∀ i,i < ops.length → listed.getD i false = false → i ∈ S) → S.length ≤ fuel →
   InvB C β [] s a w → (∀ t x,look ops Ys (fun i=>listed.getD i false) e0 ops.length t = some x → t < N ∧ Rp w C.F β s (.s x (a.tmps.getD t undef))) →
   wpAny P .any ops.toArray (fun ex a w => ∃ β e s,InvB C β e s a w ∧ K ex e s) fuel listed a w:=by
 have done : ∀ (listed : Array Bool) (a : Act) (w : World),(∀ i,i < ops.length → listed.getD i false = true) → InvB C β [] s a w →
  (∀ t x,look ops Ys (fun i=>listed.getD i false) e0 ops.length t = some x → t < N ∧ Rp w C.F β s (.s x (a.tmps.getD t undef))) → ∃ β e s,InvB C β e s a w ∧ K .normal e s:=by
  intro listed a w hall inv hl
  refine ⟨β,_,s,inv.withEnv inv.size inv.defers (fun t x h=>?_),hK⟩
  rw [lk_envN] at h
  refine hl t x ?_
  rw [look_eq (i:=ops.length) (fun j oj hj _=>.inl ⟨(List.getElem?_eq_some_iff.1 hj).1,hall j (List.getElem?_eq_some_iff.1 hj).1⟩) ops.length (Nat.le_refl _)]
  exact h
 have nr : ∀ (listed : Array Bool),listed.size = ops.length → Closed ops listed → Region.ready .any ops.toArray listed = [] → ∀ i,i < ops.length → listed.getD i false = true:=by
  intro listed hsz hc hr i
  induction i using Nat.strongRecOn with
  | _ i ih =>
   intro hi
   cases hli : listed.getD i false with
   | true=>rfl
   | false =>
    exfalso
    have ho : ops[i]? = some ops[i]:=by simp [hi]
    have hm : i ∈ Region.ready .any ops.toArray listed:=by
     refine mem_ready.2 ⟨?_,ops[i],by simp [hi],fun e he hb=>?_⟩
     · have : i < listed.size:=by omega
       simp [this] at hli ⊢; exact hli
     · have:=(drawB_spec hD ho).1 e he hb
       exact ih e.on this (by omega)
    rw [hr] at hm; cases hm
 intro fuel
 induction fuel with
 | zero =>
  intro S listed a w hsz hc hS hSl inv hl
  have hS0 : S = []:=List.eq_nil_of_length_eq_zero (by omega)
  subst hS0
  have hall : ∀ i,i < ops.length → listed.getD i false = true:=fun i hi=>by
   cases h : listed.getD i false with
   | true=>rfl
   | false=>exact absurd (hS i hi h) (by simp)
  refine ⟨?_,done listed a w hall inv hl⟩
  cases hr : Region.ready .any ops.toArray listed with
  | nil=>rfl
  | cons j r =>
   have hm : j ∈ Region.ready .any ops.toArray listed:=by rw [hr]; simp
   obtain ⟨h1,o,h2, -⟩:=mem_ready.1 hm
   have hj : j < ops.length:=by
    have:=(Array.getElem?_eq_some_iff.1 h2).1
    simpa using this
   have:=hall j hj
   have hjs : j < listed.size:=by omega
   simp [hjs] at h1 this
   rw [h1] at this; cases this
 | succ fuel ih =>
  intro S listed a w hsz hc hS hSl inv hl
  refine ⟨fun hr=>done listed a w (nr listed hsz hc hr) inv hl,fun i hi=>?_⟩
  obtain ⟨h1,o,h2,hall⟩:=mem_ready.1 hi
  have ho : ops[i]? = some o:=by simpa using h2
  have hilt : i < ops.length:=(List.getElem?_eq_some_iff.1 ho).1
  have his : i < listed.size:=by omega
  have hnot : listed.getD i false = false:=by simp [his] at h1 ⊢; exact h1
  have hiS:=hS i hilt hnot
  have hok : opOK N o = true:=List.all_eq_true.1 hB o (List.mem_of_getElem? ho)
  simp only [opOK,Bool.and_eq_true] at hok
  obtain ⟨sp1,sp2⟩:=drawB_spec hD ho
  -- what the operation finds
  have invr : InvB C β (rst (lksA ops o) (envN ops Ys e0 i)) s a w:=inv.withEnv inv.size inv.defers fun t x h=>by
   obtain ⟨ht,hx⟩:=rst_lk h
   rw [lk_envN] at hx
   refine hl t x ?_
   rw [look_eq (i:=i) (fun j oj hj hd=>?_) ops.length (by omega)]
   · exact hx
   · rcases (sp2 j oj t hj hd).1 ht with ⟨h3,h4⟩ | ⟨h3,h4⟩
     · exact .inl ⟨h3,reach_ready hc ho hall h4⟩
     · refine .inr ⟨by omega,?_⟩
       cases hlj : listed.getD j false with
       | false=>rfl
       | true=>have:=reach_closed hc _ j i hlj h4; rw [hnot] at this; cases this
  have hsz' : (listed.setIfInBounds i true).size = ops.length:=by simpa using hsz
  have hD' : ∀ j,(listed.setIfInBounds i true).getD j false = if j = i then true else listed.getD j false:=fun j=>by
   by_cases hj : j = i
   · subst hj; simp [his]
   · rw [if_neg hj,getD_set_ne false (Ne.symm hj)]
  have hc' : Closed ops (listed.setIfInBounds i true):=fun j oj hj hlj e he hb=>by
   rw [hD'] at hlj ⊢
   by_cases hji : j = i
   · subst hji
     rw [ho] at hj; cases hj
     split
     · rfl
     · exact hall e he hb
   · rw [if_neg hji] at hlj
     split
     · rfl
     · exact hc j oj hj hlj e he hb
  have hS' : ∀ j,j < ops.length → (listed.setIfInBounds i true).getD j false = false → j ∈ S.erase i:=fun j hj hlj=>by
   rw [hD'] at hlj
   by_cases hji : j = i
   · rw [if_pos hji] at hlj; cases hlj
   · rw [if_neg hji] at hlj
     exact (List.mem_erase_of_ne hji).2 (hS j hj hlj)
  have hSl' : (S.erase i).length ≤ fuel:=by
   have:=List.length_erase_of_mem hiS
   omega
  have next : ∀ v w',Below w.heap.size w w' → Rp w' C.F β s (.s (Ys i) v) → wpAny P .any ops.toArray (fun ex a w => ∃ β e s,InvB C β e s a w ∧ K ex e s) fuel (listed.setIfInBounds i true) (a.put o.dst v) w':=by
   intro v w' hb hr
   have inv1:=(inv.grow hb).put o.dst hok.1 hr
   refine ih (S.erase i) _ _ _ hsz' hc' hS' hSl' (inv1.withEnv inv1.size inv1.defers (fun t x h=>by cases h)) fun t x hx=>?_
   obtain ⟨q1,q2⟩:=look_put (Xs:=Ys) (e0:=e0) (D:=fun i=>listed.getD i false) (D':=fun j=>(listed.setIfInBounds i true).getD j false) ho hD' (t:=t) ops.length
   by_cases hd : o.dst = some t
   · rw [q2 hd (fun j oj hij hj hdj=>?_) hilt] at hx
     · cases hx
       have:=inv1.env t (Ys i) (by rw [lk_putO,if_pos hd])
       exact this
     · have h4:=(sp2 j oj t hj hdj).2 hd hij
       cases hlj : listed.getD j false with
       | false=>rfl
       | true=>have:=reach_closed hc _ j i hlj h4; rw [hnot] at this; cases this
   · rw [q1 hd] at hx
     obtain ⟨h5,h6⟩:=hl t x hx
     refine ⟨h5,?_⟩
     have he : (a.put o.dst v).tmps.getD t undef = a.tmps.getD t undef:=by
      cases hod : o.dst with
      | none=>rfl
      | some d =>
       have hdt : d ≠ t:=fun h=>hd (by rw [hod,h])
       simp only [Act.put,getD_set,if_neg (fun h : d = t ∧ _=>hdt h.1)]
     rw [he]
     exact grow_rp hb h6
  have hst:=hstep i o ho
  unfold StepF at hst
  unfold wpOp
  rw [h2]
  simp only
  split at hst
  · rename_i hg
    obtain ⟨p,hs,hp⟩:=hst
    rw [if_pos (by simp [Region.wanted,hg])]
    exact .inl (stepA_ok hok.2 hs hp invr _ _ next)
  · rename_i j want hg
    obtain ⟨g,p,x,hv,hs,hp,hY⟩:=hst
    have hw:=gVal_ok invr hg hv
    rw [hw]
    cases g with
    | true =>
     simp only [if_true]
     exact .inl (stepA_ok hok.2 hs hp invr _ _ (fun v w' hb hr=>next v w' hb (by rw [hY]; exact .grdT hr)))
    | false =>
     simp only [Bool.false_eq_true,if_false]
     exact next undef w (Below.refl _ _) (by rw [hY]; exact .grdF)

theorem swp_draw {K : Exit → Env → St → Prop} {e : Env} {s : St} {id : Nat} {l : List Oper} (hm : P.follows .mixedOrders = true) (hB : regOK N l = true) (hD : drawB l = true) (ans : Ans)
 (h : ∀ K' : Exit → Env → St → Prop,(∀ e s,K .normal e s → K' .normal e s) → vcA P Γ ans l 0 l e s K') : Swp C (.region id l.toArray true) K e s:=by
 intro β a w inv
 have hv:=h (fun ex e s=>match ex with | .normal=>K .normal e s | _=>False) (fun e s h=>h)
 obtain ⟨Ys, -,h2,h3⟩:=vcA_run (P:=P) (Γ := Γ) (ops:=l) e l 0 (fun _=>.junk) (fun j=>by simp) hv
 have inv1 : InvB C β e s a { w with drawn:=w.drawn + 1 }:=inv.grow ((Below.refl w.heap.size w).drew)
 refine wp_mono (wp_region_any hm (draw_any (C:=C) (K:=fun ex e s=>match ex with | .normal=>K .normal e s | _=>False) hB hD (fun j o ho=>h2 j o (Nat.zero_le _) ho) h3 β l.toArray.size (List.range l.length) (Array.replicate l.toArray.size false) a _ (by simp) (fun j o _ hl=>?_) (fun i hi _=>List.mem_range.2 hi) (by simp) (inv1.withEnv inv1.size inv1.defers (fun t x h=>by cases h)) (fun t x hx=>?_))) ?_
 · exfalso
   rcases Nat.lt_or_ge j l.toArray.size with h | h
   · simp at h; simp [h] at hl
   · simp at h; simp [h] at hl
 · refine inv1.env t x ?_
   have : ∀ n,look l Ys (fun i=>(Array.replicate l.toArray.size false).getD i false) e n t = lk t e:=fun n=>by
    induction n with
    | zero=>rfl
    | succ n ih =>
     unfold look
     cases l[n]? with
     | none=>exact ih
     | some o =>
      have hf : (Array.replicate l.toArray.size false).getD n false = false:=by
       rcases Nat.lt_or_ge n l.toArray.size with h | h
       · simp at h; simp [h]
       · simp at h; simp [h]
      simp only [hf,Bool.false_eq_true,and_false,if_false]
      exact ih
   rw [this] at hx
   exact hx
 · rintro ex a w ⟨β,e,s,g1,g2⟩
   cases ex with
   | normal=>exact ⟨β,e,s,g1,g2⟩
   | _=>exact g2.elim

theorem vcA_ok {ans : Ans} {ops : List Oper} {s : St} {K : Exit → Env → St → Prop} : ∀ {l : List Oper} {i : Nat} {e : Env},regOK N l = true → vcA P Γ ans ops i l e s K → Stop C ops l e s K
 | [],i,e,_,h=>fun β a w inv=>⟨β,e,s,inv,h⟩
 | o :: rest,i,e,hB,h=>by
  simp only [regOK,List.all_cons,Bool.and_eq_true,opOK] at hB
  obtain ⟨⟨hd,ho⟩,hB'⟩:=hB
  have rs : ∀ β a w,InvB C β e s a w → InvB C β (rst (lksA ops o) e) s a w:=fun β a w inv=>inv.withEnv inv.size inv.defers fun t x h=>inv.env t x (rst_lk h).2
  unfold vcA at h
  split at h
  · rename_i hg
    split at h
    · rename_i p x hs
      have ih:=vcA_ok (ops:=ops) hB' h.2
      intro β a w inv
      exact wpList_plain hg fun K' hK'=>stepA_ok ho hs h.1 (rs β a w inv) K' _ fun v w' hb hr=>hK' _ _ (ih β _ _ ((inv.grow hb).put o.dst hd hr))
    · exact h.elim
  · rename_i j want hg
    split at h
    · rename_i g hv
      split at h
      · rename_i p x hs
        have ih:=vcA_ok (ops:=ops) hB' h.2
        intro β a w inv
        have hw:=gVal_ok (rs β a w inv) hg hv
        cases g with
        | true =>
         refine wpList_step fun K' hK'=>?_
         rw [if_pos hw]
         exact stepA_ok ho hs h.1 (rs β a w inv) K' _ fun v w' hb hr=>hK' _ _ (ih β _ _ ((inv.grow hb).put o.dst hd (.grdT hr)))
        | false=>exact wpList_skip hw (ih β _ _ (inv.put o.dst hd .grdF))
      · exact h.elim
    · exact h.elim
theorem swp_regionA {K : Exit → Env → St → Prop} {e : Env} {s : St} {id : Nat} {l : List Oper} (hB : regOK N l = true) (ans : Ans)
 (h : ∀ K' : Exit → Env → St → Prop,(∀ e s,K .normal e s → K' .normal e s) → vcA P Γ ans l 0 l e s K') : Swp C (.region id l.toArray false) K e s :=
 fun β a w inv=>wp_mono (wp_region_lit (vcA_ok hB (h (fun ex e s=>match ex with | .normal=>K .normal e s | _=>False) (fun e s h=>h)) β a w inv)) fun ex a w ⟨β,e,s,h1,h2⟩=>by
  cases ex with
  | normal=>exact ⟨β,e,s,h1,h2⟩
  | _=>exact h2.elim
end
end Go.Sw
namespace Go.Sw
open Go.RowKit

section
variable {P : Program} {N : Nat} {Γ : Gl} {C : Cx P N Γ}

def argE : Nat → List D → Env
 | _,[]=>[]
 | i,x :: l=>(i,.d x) :: argE (i + 1) l
theorem lk_argE : ∀ {l : List D} {i t : Nat} {x : SV},lk t (argE i l) = some x → ∃ j d,t = i + j ∧ l[j]? = some d ∧ x = .d d
 | y :: l,i,t,x,h=>by
  unfold argE lk at h
  by_cases hti : t = i
  · subst hti
    simp at h; subst h
    exact ⟨0,y,by omega,rfl,rfl⟩
  · rw [beq_ne hti,cond_false] at h
    obtain ⟨j,d,h1,h2,h3⟩:=lk_argE h
    exact ⟨j + 1,d,by omega,by simpa using h2,h3⟩

def retOne (P : Program) (e : Env) (s : St) : ResultVar → Option (Prop × SV)
 | .tmp t=>some (True,val e (.tmp t))
 | .cell ad t=>match val e (.tmp ad) with
  | .ref i off=>match lk i s with
   | some (.cells cs)=>loadC P t (cs.drop off)
   | _=>none
  | _=>none
def retL (P : Program) (e : Env) (s : St) : List ResultVar → Option (Prop × List SV)
 | []=>some (True,[])
 | r :: l=>match retOne P e s r,retL P e s l with
  | some (p,x),some (q,xs)=>some (p ∧ q,x :: xs)
  | _,_=>none
def oneV : List SV → SV
 | [x]=>x
 | l=>.tup l
def Kret (P : Program) (rs : List ResultVar) (ret : D) : Exit → Env → St → Prop
 | .normal,e,s | .ret,e,s=>match retL P e s rs with
  | some (p,vs)=>p ∧ (oneV vs).toD s = some ret
  | none=>False
 | _,_,_=>False

def resF (tmps : Array Value) : ResultVar → Sem Value
 | .tmp t=>pure (tmps.getD t undef)
 | .cell a t=>do loadVar t (← asAddr (tmps.getD a undef))
theorem retOne_run {β : Nat → Value} {e : Env} {s : St} {a : Act} {w : World} (inv : InvB C β e s a w) {r : ResultVar} {p : Prop} {x : SV} (h : retOne P e s r = some (p,x)) (hp : p) : ∃ u,(resF a.tmps r).run P w = .ok u w ∧ Rp w C.F β s (.s x u):=by
 cases r with
 | tmp t =>
  simp only [retOne,Option.some.injEq,Prod.mk.injEq] at h
  obtain ⟨-,rfl⟩:=h
  exact ⟨_,rfl,val_rp inv (.tmp t) rfl⟩
 | cell ad t =>
  simp only [retOne] at h
  split at h
  · rename_i i off hv
    split at h
    · rename_i cs hl
      have hq:=val_rp inv (.tmp ad) rfl
      rw [hv] at hq
      obtain ⟨b,hu,hb⟩:=rp_ref hq
      obtain ⟨t',us,h1,h2,h3,h4⟩:=box_cells inv hl hb
      obtain ⟨v,h5,h6⟩:=loadC_ok h hp (h2.ss_drop off) b off (fun j u hj=>h4 _ u (by rw [List.getElem?_drop] at hj; simpa using hj))
      simp only [Act.eval] at hu
      exact ⟨v,by simp [resF,hu,asAddr,h5],h6⟩
    · cases h
  · cases h
theorem retL_run {β : Nat → Value} {e : Env} {s : St} {a : Act} {w : World} (inv : InvB C β e s a w) : ∀ {rs : List ResultVar} {p : Prop} {vs : List SV},retL P e s rs = some (p,vs) → p → ∃ us,(rs.mapM (resF a.tmps)).run P w = .ok us w ∧ Rp w C.F β s (.ss vs us)
 | [],p,vs,h,hp=>by
  simp only [retL,Option.some.injEq,Prod.mk.injEq] at h
  obtain ⟨-,rfl⟩:=h
  exact ⟨[],rfl,.ssn⟩
 | r :: rs,p,vs,h,hp=>by
  simp only [retL] at h
  split at h
  · rename_i p1 x1 q1 xs h1 h2
    simp only [Option.some.injEq,Prod.mk.injEq] at h
    obtain ⟨rfl,rfl⟩:=h
    obtain ⟨u,g1,g2⟩:=retOne_run inv h1 hp.1
    obtain ⟨us,g3,g4⟩:=retL_run inv h2 hp.2
    exact ⟨u :: us,by simp [g1,g3],.ssc g2 g4⟩
  · cases h
theorem results_run {β : Nat → Value} {e : Env} {s : St} {a : Act} {w : World} (inv : InvB C β e s a w) {fn : Func} {rs : List ResultVar} (hrs : fn.results = rs.toArray) {p : Prop} {vs : List SV} (h : retL P e s rs = some (p,vs)) (hp : p) :
 ∃ u,(results fn a.tmps).run P w = .ok u w ∧ Rp w C.F β s (.s (oneV vs) u):=by
 obtain ⟨us,h1,h2⟩:=retL_run inv h hp
 have he : results fn a.tmps = (do let vs ← fn.results.mapM (resF a.tmps); pure (if h : vs.size = 1 then vs[0] else .tuple vs)):=by
  unfold results
  congr 1
 rw [he,hrs,List.mapM_toArray]
 simp only [Sem.run_bind,Sem.run_map,h1,Result.andThen_ok,Sem.run_pure]
 cases vs with
 | nil =>
  cases h2
  exact ⟨_,rfl,by simpa [oneV] using Rp.tup (w:=w) (F:=C.F) (β := β) (s:=s) .ssn⟩
 | cons x l =>
  cases l with
  | nil =>
   cases h2 with
   | ssc hx hl=>cases hl; exact ⟨_,rfl,by simpa [oneV] using hx⟩
  | cons y l =>
   have hlen:=h2.ss_len
   exact ⟨.tuple us.toArray,by rw [dif_neg (by simp [hlen])],.tup h2⟩

theorem fn_of_swp {f : FuncId} {fn : Func} {c : Code} (hf : P.funcs[f]? = some fn) (hb : fn.body = some c) (hname : (fn.name == "runtime.NumGoroutine") = false) (hN : fn.ntmps = N) {rs : List ResultVar} (hrs : fn.results = rs.toArray) {args : List D} {ret : D}
 (hlen : args.length ≤ N) (h : ∀ C : Cx P N Γ,C.s0 = [] → Swp C c (Kret P rs ret) (argE 0 args) []) : DFn P Γ f args ret:=by
 refine ⟨by simp [entB,hf,hb,hname],fun F w us hG hNG hF hargs=>?_⟩
 have hul:=hargs.ds_len
 let C : Cx P N Γ := ⟨F,fun _=>undef,[],w,[],fun b hb=>(hF b hb).1⟩
 have inv : InvB C (fun _=>undef) (argE 0 args) [] { tmps:=us.toArray ++ Array.replicate (fn.ntmps - us.toArray.size) undef,defers:=[] } w:=by
  refine ⟨⟨fun i bx h=>(by cases h),fun i j b1 b2 b h=>(by cases h),fun i bx b h=>(by cases h),fun b hb=>(hF b hb).2⟩,fun i bx b h=>(by cases h),fun t x hx=>?_,by simp [hul,hN]; omega,rfl,hG,hNG,⟨rfl,rfl,rfl,Nat.le_refl _,fun _ _ _=>rfl,fun i bx b h=>(by cases h),fun i c1 c2 h=>(by cases h),fun i bx h=>(by cases h)⟩⟩
  obtain ⟨j,d,h1,h2,rfl⟩:=lk_argE hx
  have hj : j < args.length:=(List.getElem?_eq_some_iff.1 h2).1
  obtain ⟨u,h3,h4⟩:=RpD.ds_get j hargs h2
  obtain rfl : t = j:=by omega
  refine ⟨by omega,.d ?_⟩
  have hM : Mut C.F (fun _=>undef) ([] : St) = F:=by
   funext b
   simp only [Mut,eq_iff_iff]
   exact ⟨fun h=>h.resolve_right (fun ⟨i,bx,h,_⟩=>by cases h),.inl⟩
  rw [hM]
  have : (us.toArray ++ Array.replicate (fn.ntmps - us.toArray.size) undef).getD t undef = u:=by
   have ht : t < us.toArray.size:=by simp [hul]; exact hj
   rw [Array.getD_eq_getD_getElem?,Array.getElem?_append_left ht]
   simp [h3]
  rw [this]
  exact h4
 refine calls_of_wp hf hb (wp_mono (h C rfl _ _ _ inv) ?_)
 rintro ex a w' ⟨β,e,s,inv',hk⟩
 have key : (match retL P e s rs with | some (p,vs)=>p ∧ (oneV vs).toD s = some ret | none=>False) → a.defers = [] ∧ ∃ v,(results fn a.tmps).run P w' = .ok v w' ∧ ∃ u,Ending.returned v = .returned u ∧ Below w.heap.size w w' ∧ RpD w' F (.d ret u):=by
  intro hk
  split at hk
  · rename_i p vs hr
    obtain ⟨u,h1,h2⟩:=results_run inv' hrs hr hk.1
    refine ⟨inv'.defers,u,h1,u,rfl,⟨inv'.since.os,inv'.since.tape,inv'.since.output,inv'.since.size,fun b hb=>inv'.since.heap b hb (fun i bx h=>by cases h)⟩,?_⟩
    have:=toD_rp inv' (s':=[]) (fun i bx h=>by cases h) _ ret u h2 hk.2 (fun i _=>rfl)
    exact this.keep (fun _ _ _=>rfl) (fun b _ h=>.inl h)
  · exact hk.elim
 cases ex with
 | normal=>exact key hk
 | ret=>exact key hk
 | _=>exact hk.elim
end
end Go.Sw
namespace Go.Sw
open Go.RowKit

theorem nbeq (a b : Nat) : Nat.beq a b = (a == b):=by
 by_cases h : a = b
 · subst h; simp
 · rw [beq_ne h]; simp [h]
theorem nble (a b : Nat) : Nat.ble a b = decide (a ≤ b):=by
 by_cases h : a ≤ b
 · rw [Nat.ble_eq_true_of_le h]; simp [h]
 · have : Nat.ble a b = false:=by
    cases hb : Nat.ble a b
    · rfl
    · exact absurd (Nat.le_of_ble_eq_true hb) h
   simp [this,h]
section
variable {P : Program} {N : Nat} {Γ : Gl} {C : Cx P N Γ} {K : Exit → Env → St → Prop} {e : Env} {s : St} {b : Code}
def gcB (l : List Oper) : Bool:=l.all fun o=>match o.guard,o.op with | some _,.call c=>(match c.callee with | .builtin _=>true | _=>false) | _,_=>true
theorem swp_regionP {id : Nat} {l : List Oper} (hB : regOK N l = true) (hG : gcB l = true) (h : ∀ K' : Exit → Env → St → Prop,(∀ e s,K .normal e s → K' .normal e s) → vcOps C l l e s K') : Swp C (.region id l.toArray false) K e s:=swp_region hB h
theorem kseq_n (h : Swp C b K e s) : Kseq C b K .normal e s:=h
theorem kseq_x {i : Nat} (h : K (.exit i) e s) : Kseq C b K (.exit i) e s:=h
theorem kseq_r (h : K .ret e s) : Kseq C b K .ret e s:=h
theorem kblk_n {id : Nat} (h : K .normal e s) : Kblk id K .normal e s:=h
theorem kblk_r {id : Nat} (h : K .ret e s) : Kblk id K .ret e s:=h
theorem kblk_xs {id : Nat} (h : K .normal e s) : Kblk id K (.exit id) e s:=by simpa [Kblk] using h
theorem kblk_xn {id i : Nat} (hi : Nat.beq i id = false) (h : K (.exit i) e s) : Kblk id K (.exit i) e s:=by
 have : i ≠ id:=fun he=>by subst he; simp at hi
 simpa [Kblk,this] using h
theorem kloop_x {α : Type} {E : α → Env} {S : α → St} {I : α → Prop} {μ : α → Nat} {x : α} {i : Nat} (h : K (.exit i) e s) : Kloop C E S I μ x K (.exit i) e s:=h
theorem kloop_r {α : Type} {E : α → Env} {S : α → St} {I : α → Prop} {μ : α → Nat} {x : α} (h : K .ret e s) : Kloop C E S I μ x K .ret e s:=h
end
end Go.Sw
namespace Go.Sw
open Go.RowKit
class Ctl (G : Prop) (H : outParam Prop) : Prop where
 go : H → G
class NE (i j : Nat) : Prop where
 h : Nat.beq i j = false
instance {j : Nat} : NE 0 (j + 1):=⟨rfl⟩
instance {i : Nat} : NE (i + 1) 0:=⟨rfl⟩
instance {i j : Nat} [x : NE i j] : NE (i + 1) (j + 1):=⟨x.h⟩
theorem zz1 {G H : Prop} [c : Ctl G H] (h : H) : G:=c.go h
section
variable {P : Program} {N : Nat} {Γ : Gl} {C : Cx P N Γ} {K : Exit → Env → St → Prop} {e : Env} {s : St}
instance {x y : Code} : Ctl (Swp C (.seq x y) K e s) (Swp C x (Kseq C y K) e s):=⟨swp_seq⟩
instance {id : Nat} {c : Code} : Ctl (Swp C (.block id c) K e s) (Swp C c (Kblk id K) e s):=⟨swp_block⟩
instance : Ctl (Swp C .skip K e s) (K .normal e s):=⟨swp_skip⟩
instance : Ctl (Swp C .ret K e s) (K .ret e s):=⟨swp_ret⟩
instance {id : Nat} : Ctl (Swp C (.exit id) K e s) (K (.exit id) e s):=⟨swp_exit⟩
instance {l : Nat} : Ctl (Swp C (.label l) K e s) (K .normal e s):=⟨swp_label⟩
instance {b : Code} : Ctl (Kseq C b K .normal e s) (Swp C b K e s):=⟨kseq_n⟩
instance {b : Code} {i : Nat} : Ctl (Kseq C b K (.exit i) e s) (K (.exit i) e s):=⟨kseq_x⟩
instance {b : Code} : Ctl (Kseq C b K .ret e s) (K .ret e s):=⟨kseq_r⟩
instance {id : Nat} : Ctl (Kblk id K .normal e s) (K .normal e s):=⟨kblk_n⟩
instance {id : Nat} : Ctl (Kblk id K .ret e s) (K .ret e s):=⟨kblk_r⟩
instance {id : Nat} : Ctl (Kblk id K (.exit id) e s) (K .normal e s):=⟨kblk_xs⟩
instance {id i : Nat} [x : NE i id] : Ctl (Kblk id K (.exit i) e s) (K (.exit i) e s):=⟨kblk_xn x.h⟩
instance {α : Type} {E : α → Env} {S : α → St} {I : α → Prop} {μ : α → Nat} {x : α} {i : Nat} : Ctl (Kloop C E S I μ x K (.exit i) e s) (K (.exit i) e s):=⟨kloop_x⟩
instance {α : Type} {E : α → Env} {S : α → St} {I : α → Prop} {μ : α → Nat} {x : α} : Ctl (Kloop C E S I μ x K .ret e s) (K .ret e s):=⟨kloop_r⟩
theorem zz2 {id : Nat} {l : List Oper} (hB : (regOK N l && gcB l) = true) (h : ∀ K' : Exit → Env → St → Prop,(∀ e s,K .normal e s → K' .normal e s) → vcOps C l l e s K') : Swp C (.region id l.toArray false) K e s:=by
 rw [Bool.and_eq_true] at hB
 exact swp_regionP hB.1 hB.2 h
theorem zz3 {n : Nat} {t : Bool} {x y : Code} (hv : val e (.tmp n) = .d (.v (.bool t))) (h1 : t = true → Swp C x K e s) (h2 : t = false → Swp C y K e s) : Swp C (.cond (.tmp n) x y) K e s:=swp_cond rfl ⟨t,hv,h1,h2⟩
end
end Go.Sw
namespace Go.Sw
open Go.RowKit

section
variable {P : Program} {N : Nat} {Γ : Gl} {C : Cx P N Γ}

def SFn (P : Program) (Γ : Gl) (f : FuncId) (args : List SV) (s : St) (ret : SV) (s' : St) : Prop :=
 entB P f = true ∧ ∀ (F : Nat → Prop) (β : Nat → Value) (w : World) (us : List Value), Γ.G w → Γ.NG ≤ w.heap.size → WR F β s w → (hl : ∀ b,F b → Γ.NG ≤ b) → (∀ i bx b,lk i s = some bx → blk (β i) = some b → Γ.NG ≤ b) → Rp w F β s (.ss args us) →
  Calls P f us.toArray w fun e w' => ∃ v β',e = .returned v ∧ WR F β' s' w' ∧ Rp w' F β' s' (.s ret v) ∧ Since (⟨F, β,s,w,[],hl⟩ : Cx P 0 Γ) β' s' w' ∧ Γ.G w' ∧ ∀ i bx b,lk i s' = some bx → blk (β' i) = some b → Γ.NG ≤ b

def GFn (ok : Ending → Value → Prop) (P : Program) (Γ : Gl) (f : FuncId) (args : List SV) (s : St) (ret : SV) (s' : St) : Prop :=
 entB P f = true ∧ ∀ (F : Nat → Prop) (β : Nat → Value) (w : World) (us : List Value), Γ.G w → Γ.NG ≤ w.heap.size → WR F β s w → (hl : ∀ b,F b → Γ.NG ≤ b) → (∀ i bx b,lk i s = some bx → blk (β i) = some b → Γ.NG ≤ b) → Rp w F β s (.ss args us) →
  Calls P f us.toArray w fun e w' => ∃ v β',ok e v ∧ WR F β' s' w' ∧ Rp w' F β' s' (.s ret v) ∧ Since (⟨F, β,s,w,[],hl⟩ : Cx P 0 Γ) β' s' w' ∧ Γ.G w' ∧ ∀ i bx b,lk i s' = some bx → blk (β' i) = some b → Γ.NG ≤ b

def argS : Nat → List SV → Env
 | _,[]=>[]
 | i,x :: l=>(i,x) :: argS (i + 1) l
theorem lk_argS : ∀ {l : List SV} {i t : Nat} {x : SV},lk t (argS i l) = some x → ∃ j,t = i + j ∧ l[j]? = some x
 | y :: l,i,t,x,h=>by
  unfold argS lk at h
  by_cases hti : t = i
  · subst hti
    simp at h; subst h
    exact ⟨0,by omega,rfl⟩
  · rw [beq_ne hti,cond_false] at h
    obtain ⟨j,h1,h2⟩:=lk_argS h
    exact ⟨j + 1,by omega,by simpa using h2⟩
def KretS (C : Cx P N Γ) (rs : List ResultVar) (ret : SV) (s' : St) : Exit → Env → St → Prop
 | .normal,e,s | .ret,e,s=>match retL P e s rs with
  | some (p,vs)=>p ∧ keepS C.s0 s' ∧ subS s s' s' ∧ FZ s s' (oneV vs) ret
  | none=>False
 | _,_,_=>False

theorem sfn_of_swp {f : FuncId} {fn : Func} {c : Code} (hf : P.funcs[f]? = some fn) (hb : fn.body = some c) (hname : (fn.name == "runtime.NumGoroutine") = false) (hN : fn.ntmps = N) {rs : List ResultVar} (hrs : fn.results = rs.toArray) {args : List SV} {ret : SV} {s s' : St}
 (hlen : args.length ≤ N) (h : ∀ C : Cx P N Γ,C.s0 = s → Swp C c (KretS C rs ret s') (argS 0 args) s) : SFn P Γ f args s ret s':=by
 refine ⟨by simp [entB,hf,hb,hname],fun F β w us hG hNG hW hl hbase hargs=>?_⟩
 have hul:=hargs.ss_len
 let C : Cx P N Γ := ⟨F, β,s,w,[],hl⟩
 have inv : InvB C β (argS 0 args) s { tmps:=us.toArray ++ Array.replicate (fn.ntmps - us.toArray.size) undef,defers:=[] } w:=by
  refine ⟨hW,hbase,fun t x hx=>?_,by simp [hul,hN]; omega,rfl,hG,hNG,⟨rfl,rfl,rfl,Nat.le_refl _,fun _ _ _=>rfl,fun i bx b h h2=>.inr ⟨i,bx,h,h2⟩,fun i c1 c2 h h2=>rfl,fun i bx h=>by rw [h]; simp⟩⟩
  obtain ⟨j,h1,h2⟩:=lk_argS hx
  have hj : j < args.length:=(List.getElem?_eq_some_iff.1 h2).1
  obtain ⟨u,h3,h4⟩:=Rp.ss_get j hargs h2
  obtain rfl : t = j:=by omega
  refine ⟨by omega,?_⟩
  have : (us.toArray ++ Array.replicate (fn.ntmps - us.toArray.size) undef).getD t undef = u:=by
   have ht : t < us.toArray.size:=by simp [hul]; exact hj
   rw [Array.getD_eq_getD_getElem?,Array.getElem?_append_left ht]
   simp [h3]
  rw [this]
  exact h4
 refine calls_of_wp hf hb (wp_mono (h C rfl _ _ _ inv) ?_)
 rintro ex a w' ⟨β1,e,s1,inv',hk⟩
 have key : (match retL P e s1 rs with | some (p,vs)=>p ∧ keepS C.s0 s' ∧ subS s1 s' s' ∧ FZ s1 s' (oneV vs) ret | none=>False) → a.defers = [] ∧ ∃ v,(results fn a.tmps).run P w' = .ok v w' ∧
  ∃ u β',Ending.returned v = .returned u ∧ WR F β' s' w' ∧ Rp w' F β' s' (.s ret u) ∧ Since (⟨F, β,s,w,[],hl⟩ : Cx P 0 Γ) β' s' w' ∧ Γ.G w' ∧ ∀ i bx b,lk i s' = some bx → blk (β' i) = some b → Γ.NG ≤ b:=by
  intro hk
  split at hk
  · rename_i p vs hr
    obtain ⟨u,h1,h2⟩:=results_run inv' hrs hr hk.1
    obtain ⟨-,k1,k2,k3⟩:=hk
    refine ⟨inv'.defers,u,h1,u,?_⟩
    have hrp:=FZ.rp inv' k2 (oneV vs) ret u k3 h2
    have i2:=sub_ok (e':=[]) rfl k1 k2 trivial inv'
    exact ⟨β1,rfl,i2.wr,hrp,⟨i2.since.os,i2.since.tape,i2.since.output,i2.since.size,i2.since.heap,i2.since.boxes,i2.since.cells,i2.since.keep⟩,i2.glob,i2.base⟩
  · exact hk.elim
 cases ex with
 | normal=>exact key hk
 | ret=>exact key hk
 | _=>exact hk.elim

mutual
def hin (s : St) : SV → Prop
 | .ref i _=>(lk i s).isSome = true
 | .own i=>(lk i s).isSome = true
 | .eref i _ _=>(lk i s).isSome = true
 | .sref i _=>(lk i s).isSome = true
 | .mp i=>(lk i s).isSome = true
 | .agg cs=>hins s cs
 | .tup cs=>hins s cs
 | .clo _ cs=>hins s cs
 | .grd g x=>g = true → hin s x
 | .d _=>True
 | .nil=>True
 | .fptr _ _=>True
 | .junk=>True
def hins (s : St) : List SV → Prop
 | []=>True
 | x :: l=>hin s x ∧ hins s l
end
theorem Rp.map {w : World} {F1 F2 : Nat → Prop} {β1 β2 : Nat → Value} {s1 s2 : St} (hm : ∀ b,Mut F2 β2 s2 b → Mut F1 β1 s1 b) (hh : ∀ i bx,lk i s1 = some bx → (lk i s2).isSome = true → lk i s2 = some bx ∧ β2 i = β1 i) :
 ∀ {t : Tg2},Rp w F1 β1 s1 t → (match t with | .s x u=>Sw.hin s2 x | .ss l us=>hins s2 l) → Rp w F2 β2 s2 t:=by
 intro t h
 induction h with
 | d h=>intro _; exact .d (h.keep (fun _ _ _=>rfl) (fun b _ h=>hm b h))
 | nil=>intro _; exact .nil
 | agg _ ih=>intro k; simp only [Sw.hin] at k; exact .agg (ih k)
 | tup _ ih=>intro k; simp only [Sw.hin] at k; exact .tup (ih k)
 | ref hl hb =>
  intro k
  simp only [Sw.hin] at k
  obtain ⟨h1,h2⟩:=hh _ _ hl k
  exact .ref h1 (h2.trans hb)
 | sref hl hb =>
  intro k
  simp only [Sw.hin] at k
  obtain ⟨h1,h2⟩:=hh _ _ hl k
  exact .sref h1 (h2.trans hb)
 | fptr h=>intro _; exact .fptr (h.keep (fun _ _ _=>rfl) (fun b _ h=>hm b h))
 | own hl =>
  intro k
  simp only [Sw.hin] at k
  obtain ⟨h1,h2⟩:=hh _ _ hl k
  rw [← h2]
  exact .own h1
 | eref hl hi hb =>
  intro k
  simp only [Sw.hin] at k
  obtain ⟨h1,h2⟩:=hh _ _ hl k
  exact .eref h1 hi (h2.trans hb)
 | mp hl =>
  intro k
  simp only [Sw.hin] at k
  obtain ⟨h1,h2⟩:=hh _ _ hl k
  rw [← h2]
  exact .mp h1
 | clo _ ih=>intro k; simp only [Sw.hin] at k; exact .clo (ih k)
 | grdF=>intro _; exact .grdF
 | grdT _ ih=>intro k; simp only [Sw.hin] at k; exact .grdT (ih (k trivial))
 | junk=>intro _; exact .junk
 | ssn=>intro _; exact .ssn
 | ssc _ _ i1 i2=>intro k; exact .ssc (i1 k.1) (i2 k.2)
theorem Rp.mapAll {w : World} {F1 F2 : Nat → Prop} {β1 β2 : Nat → Value} {s1 s2 : St} (hm : ∀ b,Mut F2 β2 s2 b → Mut F1 β1 s1 b) (hh : ∀ i bx,lk i s1 = some bx → lk i s2 = some bx ∧ β2 i = β1 i) :
 ∀ {t : Tg2},Rp w F1 β1 s1 t → Rp w F2 β2 s2 t:=by
 intro t h
 induction h with
 | d h=>exact .d (h.keep (fun _ _ _=>rfl) (fun b _ h=>hm b h))
 | nil=>exact .nil
 | agg _ ih=>exact .agg ih
 | tup _ ih=>exact .tup ih
 | ref hl hb=>obtain ⟨h1,h2⟩:=hh _ _ hl; exact .ref h1 (h2.trans hb)
 | sref hl hb=>obtain ⟨h1,h2⟩:=hh _ _ hl; exact .sref h1 (h2.trans hb)
 | fptr h=>exact .fptr (h.keep (fun _ _ _=>rfl) (fun b _ h=>hm b h))
 | own hl=>obtain ⟨h1,h2⟩:=hh _ _ hl; rw [← h2]; exact .own h1
 | eref hl hi hb=>obtain ⟨h1,h2⟩:=hh _ _ hl; exact .eref h1 hi (h2.trans hb)
 | mp hl=>obtain ⟨h1,h2⟩:=hh _ _ hl; rw [← h2]; exact .mp h1
 | clo _ ih=>exact .clo ih
 | grdF=>exact .grdF
 | grdT _ ih=>exact .grdT ih
 | junk=>exact .junk
 | ssn=>exact .ssn
 | ssc _ _ i1 i2=>exact .ssc i1 i2

def mrg : St → St → St
 | [],sc=>sc
 | (i,b) :: r,sc=>put i b (mrg r sc)
theorem lk_mrg (i : Nat) (sc : St) : ∀ s' : St,lk i (mrg s' sc) = match lk i s' with | some b=>some b | none=>lk i sc
 | []=>rfl
 | (j,b) :: r=>by
  unfold mrg
  by_cases hij : i = j
  · subst hij; rw [lk_put_same]; simp [lk]
  · rw [lk_put_ne _ hij,lk_mrg i sc r]; simp only [lk,beq_ne hij,cond_false]
def rowsOf : St → List Nat
 | []=>[]
 | (i,.row _ _) :: s=>i :: rowsOf s
 | (i,.mp _) :: s=>i :: rowsOf s
 | (_,.cells _) :: s=>rowsOf s
theorem rowsOf_mem : ∀ {s : St} {i k : Nat} {L : List D},lk i s = some (.row k L) → i ∈ rowsOf s
 | (j, b) :: s,i,k,L,h=>by
  unfold lk at h
  by_cases hij : i = j
  · subst hij
    simp at h; subst h
    simp [rowsOf]
  · rw [beq_ne hij,cond_false] at h
    have:=rowsOf_mem h
    cases b <;> simp [rowsOf,this]
theorem mapsOf_mem : ∀ {s : St} {i : Nat} {M : List (Value × Value)},lk i s = some (.mp M) → i ∈ rowsOf s
 | (j, b) :: s,i,M,h=>by
  unfold lk at h
  by_cases hij : i = j
  · subst hij
    simp at h; subst h
    simp [rowsOf]
  · rw [beq_ne hij,cond_false] at h
    have:=mapsOf_mem h
    cases b <;> simp [rowsOf,this]
def subC (sc : St) : St → Prop
 | []=>True
 | (i,.cells cs) :: r=>(match lk i sc with | some (.cells cs')=>cs' = cs | _=>False) ∧ subC sc r
 | (i,.row k L) :: r=>(match lk i sc with | some (.row k' L')=>k' = k ∧ L' = L | _=>False) ∧ subC sc r
 | (i,.mp M) :: r=>(match lk i sc with | some (.mp M')=>M' = M | _=>False) ∧ subC sc r
theorem subC_lk {sc : St} : ∀ {r : St},subC sc r → ∀ i bx,lk i r = some bx → lk i sc = some bx
 | (j, b) :: r,h,i,bx,hl=>by
  unfold lk at hl
  by_cases hij : i = j
  · subst hij
    simp at hl; subst hl
    cases b with
    | cells cs =>
     have h1:=h.1
     split at h1
     · rename_i cs' hl; subst h1; exact hl
     · exact h1.elim
    | row k L =>
     have h1:=h.1
     split at h1
     · rename_i k' L' hl; obtain ⟨rfl,rfl⟩:=h1; exact hl
     · exact h1.elim
    | mp M =>
     have h1:=h.1
     split at h1
     · rename_i M' hl; subst h1; exact hl
     · exact h1.elim
  · rw [beq_ne hij,cond_false] at hl
    cases b <;> exact subC_lk h.2 i bx hl
def newS (sc : St) : St → Prop
 | []=>True
 | (i,_) :: r=>(lk i sc).isNone = true ∧ newS sc r
theorem newS_lk {sc : St} : ∀ {r : St},newS sc r → ∀ i b,lk i r = some b → lk i sc = none
 | (j, c) :: r,h,i,b,hl=>by
  unfold lk at hl
  by_cases hij : i = j
  · subst hij; exact Option.isNone_iff_eq_none.1 h.1
  · rw [beq_ne hij,cond_false] at hl
    exact newS_lk h.2 i b hl
def sameD (sc : St) : St → St → Prop
 | [],r'=>newS sc r'
 | (i,.cells _) :: r,(j,.cells _) :: r'=>i = j ∧ sameD sc r r'
 | (i,.row _ _) :: r,(j,.row _ _) :: r'=>i = j ∧ sameD sc r r'
 | (i,.mp _) :: r,(j,.mp _) :: r'=>i = j ∧ sameD sc r r'
 | _,_=>False
theorem sameD_lk {sc : St} : ∀ {s s' : St},sameD sc s s' → ∀ i,(lk i s = none ∧ lk i s' = none) ∨ (∃ c c',lk i s = some (.cells c) ∧ lk i s' = some (.cells c')) ∨ (∃ k L k' L',lk i s = some (.row k L) ∧ lk i s' = some (.row k' L')) ∨ (∃ M M',lk i s = some (.mp M) ∧ lk i s' = some (.mp M')) ∨ (lk i s = none ∧ (∃ b,lk i s' = some b) ∧ lk i sc = none)
 | [],s',h,i=>by
  cases hl : lk i s' with
  | none=>exact .inl ⟨rfl,rfl⟩
  | some b=>exact .inr (.inr (.inr (.inr ⟨rfl,⟨b,rfl⟩,newS_lk h i b hl⟩)))
 | (j,.cells c) :: r,(j',.cells c') :: r',h,i=>by
  obtain ⟨rfl,h⟩:=h
  by_cases hij : i = j
  · subst hij; exact .inr (.inl ⟨c,c',lk_cons_same _ _ _,lk_cons_same _ _ _⟩)
  · rw [lk_cons_ne hij,lk_cons_ne hij]; exact sameD_lk h i
 | (j,.row k L) :: r,(j',.row k' L') :: r',h,i=>by
  obtain ⟨rfl,h⟩:=h
  by_cases hij : i = j
  · subst hij; exact .inr (.inr (.inl ⟨k,L,k',L',lk_cons_same _ _ _,lk_cons_same _ _ _⟩))
  · rw [lk_cons_ne hij,lk_cons_ne hij]; exact sameD_lk h i
 | (j,.mp M) :: r,(j',.mp M') :: r',h,i=>by
  obtain ⟨rfl,h⟩:=h
  by_cases hij : i = j
  · subst hij; exact .inr (.inr (.inr (.inl ⟨M,M',lk_cons_same _ _ _,lk_cons_same _ _ _⟩)))
  · rw [lk_cons_ne hij,lk_cons_ne hij]; exact sameD_lk h i
def argOne (sc s : St) (x y : SV) : Prop :=
 match y with
 | .d z=>x.toD sc = some z ∧ x.owns = []
 | _=>x = y ∧ hin s x
def argF (sc s : St) : List SV → List SV → Prop
 | [],[]=>True
 | x :: l,y :: l'=>argOne sc s x y ∧ argF sc s l l'
 | _,_=>False
def hinB (s : St) : St → Prop
 | []=>True
 | (_,.cells cs) :: r=>hins s cs ∧ hinB s r
 | (_,.row _ _) :: r=>hinB s r
 | (_,.mp _) :: r=>hinB s r
theorem hinB_lk {s : St} : ∀ {r : St},hinB s r → ∀ i cs,lk i r = some (.cells cs) → hins s cs
 | (j, b) :: r,h,i,cs,hl=>by
  unfold lk at hl
  by_cases hij : i = j
  · subst hij
    simp at hl; subst hl
    exact h.1
  · rw [beq_ne hij,cond_false] at hl
    cases b with
    | cells c=>exact hinB_lk (r:=r) h.2 i cs hl
    | row=>exact hinB_lk (r:=r) h i cs hl
    | mp=>exact hinB_lk (r:=r) h i cs hl

theorem callG_ok {ok : Ending → Value → Prop} {β : Nat → Value} {e : Env} {sc s s' : St} {a : Act} {w : World} (inv : InvB C β e sc a w) (hsub : subC sc s) (hcl : hinB s s) (hsame : sameD sc s s') {f : FuncId} {xs args : List SV} {us : List Value} {ret : SV} (hargs : Rp w C.F β sc (.ss xs us)) (ha : argF sc s xs args) (hf : GFn ok P Γ f args s ret s') :
 Calls P f us.toArray w fun en w' => ∃ v β',ok en v ∧ InvB C β' (jkE (inX (rowsOf s)) e) (mrg s' (jkS (inX (rowsOf s)) sc)) a w' ∧ Rp w' C.F β' (mrg s' (jkS (inX (rowsOf s)) sc)) (.s ret v):=by
 have hs:=subC_lk hsub
 let F' : Nat → Prop:=fun b=>Mut C.F β sc b ∧ ¬ ∃ i bx,lk i s = some bx ∧ blk (β i) = some b
 have hm1 : ∀ b,Mut F' β s b → Mut C.F β sc b:=fun b h=>by
  rcases h with h | ⟨i,bx,h1,h2⟩
  · exact h.1
  · exact .inr ⟨i,bx,hs i bx h1,h2⟩
 have hm2 : ∀ b,Mut C.F β sc b → Mut F' β s b:=fun b h=>by
  by_cases hb : ∃ i bx,lk i s = some bx ∧ blk (β i) = some b
  · exact .inr hb
  · exact .inl ⟨h,hb⟩
 have into : ∀ {t : Tg2},Rp w C.F β sc t → (match t with | .s x u=>hin s x | .ss l us=>hins s l) → Rp w F' β s t:=fun h k=>Rp.map hm1 (fun i bx hl hi=>by
  obtain ⟨b2,h2⟩:=Option.isSome_iff_exists.1 hi
  have:=hs i b2 h2
  rw [hl] at this; cases this
  exact ⟨h2,rfl⟩) h k
 have hW : WR F' β s w:=by
  refine ⟨fun i bx h=>?_,fun i j b1 b2 b h1 h2=>inv.wr.inj i j b1 b2 b (hs i b1 h1) (hs j b2 h2),fun i bx b h h2 hF=>hF.2 ⟨i,bx,h,h2⟩,fun b h=>mut_lt inv h.1⟩
  have hb:=inv.wr.boxes i bx (hs i bx h)
  cases bx with
  | cells cs =>
   obtain ⟨bb,t,us',h1,h2,h3,h4⟩:=hb
   exact ⟨bb,t,us',h1,h2,into h3 (hinB_lk hcl i cs h),h4⟩
  | row k L =>
   obtain ⟨g0,hk,el,xs',g1,g2,g3⟩:=hb
   exact ⟨g0,hk,el,xs',g1,g2.keep (fun _ _ _=>rfl) (fun b _ h=>hm1 b h),g3⟩
  | mp M=>exact hb
 have hargs' : Rp w F' β s (.ss args us):=by
  have : ∀ (xs args : List SV) (us : List Value),Rp w C.F β sc (.ss xs us) → argF sc s xs args → Rp w F' β s (.ss args us):=by
   intro xs
   induction xs with
   | nil=>intro args us h k; cases args with
    | nil=>cases h; exact .ssn
    | cons=>exact k.elim
   | cons x l ih=>intro args us h k; cases args with
    | nil=>exact k.elim
    | cons y l' =>
     cases h with
     | ssc hx hl =>
      refine .ssc ?_ (ih l' _ hl k.2)
      have k1:=k.1
      unfold argOne at k1
      split at k1
      · rename_i z
        exact .d ((toD_rp inv (s':=sc) (fun i bx h=>⟨bx,h⟩) x z _ hx k1.1 (by rw [k1.2]; intro i h; cases h)).keep (fun _ _ _=>rfl) (fun b _ h=>hm1 b h))
      · obtain ⟨rfl,k2⟩:=k1
        exact into hx k2
  exact this xs args us hargs ha
 refine (hf.2 F' β w us inv.glob inv.big hW (fun b hb=>mut_lo inv hb.1) (fun i bx b h h2=>inv.base i bx b (hs i bx h) h2) hargs').mono ?_
 rintro en w' ⟨v, β1,hok,hW',hret,hsince,hG',hbase'⟩
 -- the new ghost
 let β2 : Nat → Value:=fun i=>match lk i s' with | some _ => β1 i | none => β i
 let X:=inX (rowsOf s)
 let sn:=mrg s' (jkS X sc)
 have hin' : ∀ i bx,lk i s' = some bx → β2 i = β1 i ∧ lk i sn = some bx:=fun i bx h=>⟨by simp only [β2,h],by simp only [sn,lk_mrg,h]⟩
 have hout' : ∀ i,lk i s' = none → β2 i = β i ∧ lk i sn = (lk i sc).map (Box.jk X) ∧ lk i s = none:=fun i h=>⟨by simp only [β2,h],by simp only [sn,lk_mrg,h,lk_jkS],by
  rcases sameD_lk hsame i with h1 | ⟨c,c',h1,h2⟩ | ⟨k,L,k',L',h1,h2⟩ | ⟨M,M',h1,h2⟩ | ⟨h1,⟨gb,h2⟩,h3⟩
  · exact h1.1
  · rw [h] at h2; cases h2
  · rw [h] at h2; cases h2
  · rw [h] at h2; cases h2
  · exact h1⟩
 have hsz:=hsince.size
 have hblk : ∀ b,b < w.heap.size → (∀ i bx,lk i s = some bx → blk (β i) ≠ some b) → w'.heap[b]? = w.heap[b]? := hsince.heap
 have hFF : ∀ b,C.F b → F' b:=fun b h=>⟨.inl h,fun ⟨i,bx,h1,h2⟩=>inv.wr.apart i bx b (hs i bx h1) h2 h⟩
 have hmo : ∀ b,Mut C.F β2 sn b → Mut F' β1 s' b:=fun b h=>by
  rcases h with h | ⟨i,bx,h1,h2⟩
  · exact .inl (hFF b h)
  · cases hi : lk i s' with
    | some b2 =>
     obtain ⟨e1,e2⟩:=hin' i b2 hi
     rw [e1] at h2
     exact .inr ⟨i,b2,hi,h2⟩
    | none =>
     obtain ⟨e1,e2,e3⟩:=hout' i hi
     rw [e2] at h1
     rw [e1] at h2
     cases hc : lk i sc with
     | none=>rw [hc] at h1; cases h1
     | some bc =>
      refine .inl ⟨.inr ⟨i,bc,hc,h2⟩,fun ⟨j,bj,k1,k2⟩=>?_⟩
      have:=inv.wr.inj i j bc bj b hc (hs j bj k1) h2 k2
      subst this
      rw [e3] at k1; cases k1
 have outof : ∀ {t : Tg2},Rp w' F' β1 s' t → Rp w' C.F β2 sn t:=fun {t} h=>Rp.mapAll hmo (fun i bx hl=>⟨(hin' i bx hl).2,(hin' i bx hl).1⟩) h
 have hlt : ∀ i bx b,lk i sc = some bx → blk (β i) = some b → b < w.heap.size:=fun i bx b h h2=>(inv.wr.boxes i bx h).blk_lt h2
 have old : ∀ i,lk i s' = none → ∀ bx b,lk i sc = some bx → blk (β i) = some b → w'.heap[b]? = w.heap[b]? := fun i hi bx b hl hb=>hblk b (hlt i bx b hl hb) (fun j bj k1 k2=>by
  have:=inv.wr.inj i j bx bj b hl (hs j bj k1) hb k2
  subst this
  rw [(hout' i hi).2.2] at k1; cases k1)
 have hx : Ext X C.F w β sc w' β2 sn:=by
  refine ⟨fun b hb hm=>hblk b hb (fun i bx h1 h2=>hm (.inr ⟨i,bx,hs i bx h1,h2⟩)),fun b hb hm=>?_,fun i cs hX h=>?_,fun i k L hX h=>?_,fun i M hX h=>?_⟩
  · rcases hmo b hm with h | ⟨i,bx,h1,h2⟩
    · exact h.1
    · rcases hsince.boxes i bx b h1 h2 with h3 | ⟨j,bj,k1,k2⟩
      · exact absurd hb (Nat.not_lt.2 h3)
      · exact .inr ⟨j,bj,hs j bj k1,k2⟩
  · rcases sameD_lk hsame i with ⟨h1,h2⟩ | ⟨c,c',h1,h2⟩ | ⟨k,L,k',L',h1,h2⟩ | ⟨M,M',h1,h2⟩ | ⟨h1, -,h3⟩
    · obtain ⟨e1,e2, -⟩:=hout' i h2
      exact ⟨e1,SV.jks X cs,by rw [e2,h]; rfl⟩
    · obtain ⟨e1,e2⟩:=hin' i _ h2
      exact ⟨e1.trans (hsince.cells i c c' h1 h2),c',e2⟩
    · have:=hs i _ h1
      rw [h] at this; cases this
    · have:=hs i _ h1
      rw [h] at this; cases this
    · rw [h3] at h; cases h
  · rcases sameD_lk hsame i with ⟨h1,h2⟩ | ⟨c,c',h1,h2⟩ | ⟨k1,L1,k',L',h1,h2⟩ | ⟨M,M',h1,h2⟩ | ⟨h1, -,h3⟩
    · obtain ⟨e1,e2, -⟩:=hout' i h2
      exact ⟨e1,L,by rw [e2,h]; rfl,Nat.le_refl _⟩
    · have:=hs i _ h1
      rw [h] at this; cases this
    · have:=inX_mem (rowsOf_mem h1)
      simp only [X] at hX
      rw [this] at hX; cases hX
    · have:=hs i _ h1
      rw [h] at this; cases this
    · rw [h3] at h; cases h
  · rcases sameD_lk hsame i with ⟨h1,h2⟩ | ⟨c,c',h1,h2⟩ | ⟨k1,L1,k',L',h1,h2⟩ | ⟨M1,M',h1,h2⟩ | ⟨h1, -,h3⟩
    · obtain ⟨e1,e2, -⟩:=hout' i h2
      exact ⟨e1,M,by rw [e2,h]; rfl⟩
    · have:=hs i _ h1
      rw [h] at this; cases this
    · have:=hs i _ h1
      rw [h] at this; cases this
    · have:=inX_mem (mapsOf_mem h1)
      simp only [X] at hX
      rw [this] at hX; cases hX
    · rw [h3] at h; cases h
 refine ⟨v, β2,hok,inv.step hx ⟨fun i bx h=>?_,fun i j b1 b2 b h1 h2 h3 h4=>?_,fun i bx b h h2 hF=>?_,fun b h=>Nat.lt_of_lt_of_le (inv.wr.low b h) hsz⟩ ⟨hsince.os.trans inv.since.os,hsince.tape.trans inv.since.tape,hsince.output.trans inv.since.output,Nat.le_trans inv.since.size hsz,fun b hb h=>?_,fun i bx b h h2=>?_,fun i c1 c2 h h2=>?_,fun i bx h=>?_⟩ hsz (fun b hb=>hblk b (Nat.lt_of_lt_of_le hb inv.big) (fun i bx h1 h2=>by have:=inv.base i bx b (hs i bx h1) h2; omega)) (fun i bx b h h2=>?_),outof hret⟩
 · cases hi : lk i s' with
   | some b2 =>
    obtain ⟨e1,e2⟩:=hin' i b2 hi
    rw [e2] at h
    cases h
    have hb:=hW'.boxes i bx hi
    cases bx with
    | cells cs =>
     obtain ⟨bb,t,us',h1,h2,h3,h4⟩:=hb
     exact ⟨bb,t,us',e1.trans h1,h2,outof h3,h4⟩
    | row k L =>
     obtain ⟨g0,hk,el,xs',g1,g2,g3⟩:=hb
     exact ⟨g0,hk,el,xs',by rw [e1]; exact g1,g2.keep (fun _ _ _=>rfl) (fun b _ h=>hmo b h),g3⟩
    | mp M =>
     obtain ⟨bb,h1,h2⟩:=hb
     exact ⟨bb,e1.trans h1,h2⟩
   | none =>
    obtain ⟨e1,e2,e3⟩:=hout' i hi
    rw [e2] at h
    cases hc : lk i sc with
    | none=>rw [hc] at h; cases h
    | some bc =>
     rw [hc] at h
     simp only [Option.map_some,Option.some.injEq] at h
     subst h
     have hb:=inv.wr.boxes i bc hc
     cases bc with
     | cells cs =>
      obtain ⟨bb,t,us',h1,h2,h3,h4⟩:=hb
      exact ⟨bb,t,us',e1.trans h1,by rw [old i hi _ bb hc (by rw [h1]; rfl)]; exact h2,Rp.keep hx h3,h4⟩
     | row k L =>
      obtain ⟨g0,hk,el,xs',g1,g2,g3⟩:=hb
      refine ⟨g0,hk,el,xs',?_,g2.keep hx.heap hx.mutb,g3⟩
      rw [e1]
      refine ⟨g1.1,?_⟩
      rcases g1.2 with h | ⟨gg,cap,cur,e5,e6,e7,e8⟩
      · exact .inl h
      · exact .inr ⟨gg,cap,cur,e5,e6,by rw [old i hi _ gg hc (by rw [e5]; rfl)]; exact e7,e8⟩
     | mp M =>
      obtain ⟨bb,h1,h2⟩:=hb
      exact ⟨bb,e1.trans h1,by rw [old i hi _ bb hc (by rw [h1]; rfl)]; exact h2⟩
 · -- two boxes of one block are one
   have side : ∀ i bx b,lk i sn = some bx → blk (β2 i) = some b → (∃ b2,lk i s' = some b2 ∧ blk (β1 i) = some b) ∨ (lk i s' = none ∧ ∃ bc,lk i sc = some bc ∧ blk (β i) = some b):=fun i bx b h h2=>by
    cases hi : lk i s' with
    | some b2 =>
     obtain ⟨e1,e2⟩:=hin' i b2 hi
     exact .inl ⟨b2,rfl,by rw [← e1]; exact h2⟩
    | none =>
     obtain ⟨e1,e2,e3⟩:=hout' i hi
     rw [e2] at h
     cases hc : lk i sc with
     | none=>rw [hc] at h; cases h
     | some bc=>exact .inr ⟨rfl,bc,rfl,by rw [← e1]; exact h2⟩
   have mixed : ∀ i j bi bj,lk i s' = some bi → blk (β1 i) = some b → lk j s' = none → lk j sc = some bj → blk (β j) = some b → False:=fun i j bi bj g1 g2 g3 g4 g5=>by
    rcases hsince.boxes i bi b g1 g2 with h3 | ⟨k,bk,k1,k2⟩
    · have:=hlt j bj b g4 g5
      have h3' : w.heap.size ≤ b:=h3
      omega
    · have:=inv.wr.inj k j bk bj b (hs k bk k1) g4 k2 g5
      subst this
      rw [(hout' k g3).2.2] at k1; cases k1
   rcases side i b1 b h1 h3 with ⟨c1,g1,g2⟩ | ⟨g1,c1,g2,g3⟩
   · rcases side j b2 b h2 h4 with ⟨c2,k1,k2⟩ | ⟨k1,c2,k2,k3⟩
     · exact hW'.inj i j c1 c2 b g1 k1 g2 k2
     · exact (mixed i j c1 c2 g1 g2 k1 k2 k3).elim
   · rcases side j b2 b h2 h4 with ⟨c2,k1,k2⟩ | ⟨k1,c2,k2,k3⟩
     · exact (mixed j i c2 c1 k1 k2 g1 g2 g3).elim
     · exact inv.wr.inj i j c1 c2 b g2 k2 g3 k3
 · cases hi : lk i s' with
   | some b2 =>
    obtain ⟨e1,e2⟩:=hin' i b2 hi
    rw [e1] at h2
    exact hW'.apart i b2 b hi h2 (hFF b hF)
   | none =>
    obtain ⟨e1,e2,e3⟩:=hout' i hi
    rw [e2] at h
    rw [e1] at h2
    cases hc : lk i sc with
    | none=>rw [hc] at h; cases h
    | some bc=>exact inv.wr.apart i bc b hc h2 hF
 · rw [hblk b (Nat.lt_of_lt_of_le hb inv.since.size) (fun i bx h1 h2=>?_)]
   · exact inv.since.heap b hb h
   · rcases inv.since.boxes i bx b (hs i bx h1) h2 with h3 | ⟨j,bj,k1,k2⟩
     · omega
     · exact h j bj k1 k2
 · cases hi : lk i s' with
   | some b2 =>
    obtain ⟨e1,e2⟩:=hin' i b2 hi
    rw [e1] at h2
    rcases hsince.boxes i b2 b hi h2 with h3 | ⟨j,bj,k1,k2⟩
    · exact .inl (Nat.le_trans inv.since.size h3)
    · exact inv.since.boxes j bj b (hs j bj k1) k2
   | none =>
    obtain ⟨e1,e2,e3⟩:=hout' i hi
    rw [e2] at h
    rw [e1] at h2
    cases hc : lk i sc with
    | none=>rw [hc] at h; cases h
    | some bc=>exact inv.since.boxes i bc b hc h2
 · rcases sameD_lk hsame i with ⟨g1,g2⟩ | ⟨c,c',g1,g2⟩ | ⟨k,L,k',L',g1,g2⟩ | ⟨M,M',g1,g2⟩ | ⟨g1, -,g3⟩
   · obtain ⟨e1,e2, -⟩:=hout' i g2
     change lk i sn = _ at h2
     rw [e2] at h2
     cases hc : lk i sc with
     | none=>rw [hc] at h2; cases h2
     | some bc =>
      rw [hc] at h2
      cases bc with
      | cells cs=>exact e1.trans (inv.since.cells i c1 cs h hc)
      | row=>cases h2
      | mp=>cases h2
   · obtain ⟨e1,e2⟩:=hin' i _ g2
     exact (e1.trans (hsince.cells i c c' g1 g2)).trans (inv.since.cells i c1 c h (hs i _ g1))
   · obtain ⟨e1,e2⟩:=hin' i _ g2
     change lk i sn = _ at h2
     rw [e2] at h2; cases h2
   · obtain ⟨e1,e2⟩:=hin' i _ g2
     change lk i sn = _ at h2
     rw [e2] at h2; cases h2
   · exact absurd g3 (inv.since.keep i _ h)
 · cases hi : lk i s' with
   | some b2=>obtain ⟨e1,e2⟩:=hin' i b2 hi; change lk i sn ≠ none; rw [e2]; simp
   | none =>
    obtain ⟨e1,e2,e3⟩:=hout' i hi
    have:=inv.since.keep i bx h
    change lk i sn ≠ none
    rw [e2]
    cases hc : lk i sc with
    | none=>exact absurd hc this
    | some bc=>simp
 · cases hi : lk i s' with
   | some b2 =>
    obtain ⟨e1,e2⟩:=hin' i b2 hi
    rw [e1] at h2
    exact hbase' i b2 b hi h2
   | none =>
    obtain ⟨e1,e2,e3⟩:=hout' i hi
    change lk i sn = _ at h
    rw [e2] at h
    rw [e1] at h2
    cases hc : lk i sc with
    | none=>rw [hc] at h; cases h
    | some bc=>exact inv.base i bc b hc h2
theorem callS_ok {β : Nat → Value} {e : Env} {sc s s' : St} {a : Act} {w : World} (inv : InvB C β e sc a w) (hsub : subC sc s) (hcl : hinB s s) (hsame : sameD sc s s') {f : FuncId} {xs args : List SV} {us : List Value} {ret : SV} (hargs : Rp w C.F β sc (.ss xs us)) (ha : argF sc s xs args) (hf : SFn P Γ f args s ret s') :
 Calls P f us.toArray w fun en w' => ∃ v β',en = .returned v ∧ InvB C β' (jkE (inX (rowsOf s)) e) (mrg s' (jkS (inX (rowsOf s)) sc)) a w' ∧ Rp w' C.F β' (mrg s' (jkS (inX (rowsOf s)) sc)) (.s ret v) :=
 callG_ok (ok:=fun e v=>e = .returned v) inv hsub hcl hsame hargs ha hf

theorem stop_callS {ops rest : List Oper} {e : Env} {sc : St} {K : Exit → Env → St → Prop} {f : FuncId} {dst : Option Tmp} {args : Array Operand} {ats : Array TypeId} {ty : TypeId} {pos : String} {af : Array Edge}
 (hB : regOK N (⟨dst,.call ⟨.value (.func f),args,ats⟩,ty,pos,af,none⟩ :: rest) = true) {as : List SV} {s s' : St} {ret : SV} (hk : oks true (vals e args.toList)) (ha : argF sc s (opns (vals e args.toList)) as) (hsub : subC sc s) (hcl : hinB s s) (hsame : sameD sc s s')
 (hf : SFn P Γ f as s ret s') (h : vcOps C ops rest (putO dst ret (jkE (inX (rowsOf s)) e)) (mrg s' (jkS (inX (rowsOf s)) sc)) K) : Stop C ops (⟨dst,.call ⟨.value (.func f),args,ats⟩,ty,pos,af,none⟩ :: rest) e sc K:=by
 intro β a w inv
 simp only [regOK,List.all_cons,Bool.and_eq_true,opOK] at hB
 obtain ⟨⟨hdst,ho⟩,hB'⟩:=hB
 have hao : args.toList.all opdOK = true:=by
  simp only [Op.operands,Call.operands,Array.toList_append,List.all_append,Bool.and_eq_true] at ho
  exact ho.2
 have ih:=vcOps_ok (ops:=ops) hB' h
 refine wpList_plain rfl fun K' hK'=>?_
 unfold Oper.wp
 rw [run_call hf.1]
 refine (callS_ok inv hsub hcl hsame (oks_rp inv args.toList hao hk) ha hf).mono ?_
 rintro en w' ⟨v, β',rfl,inv',hr⟩
 exact hK' _ _ (ih β' _ _ (inv'.put dst hdst hr))
end
end Go.Sw
namespace Go.Sw
open Go.RowKit

mutual
def SV.ren (σ : Nat → Nat) : SV → SV
 | .agg cs=>.agg (SV.rens σ cs)
 | .tup vs=>.tup (SV.rens σ vs)
 | .ref i o=>.ref (σ i) o
 | .own i=>.own (σ i)
 | .eref i j o=>.eref (σ i) j o
 | .sref i n=>.sref (σ i) n
 | .mp i=>.mp (σ i)
 | .clo f cs=>.clo f (SV.rens σ cs)
 | .grd g x=>.grd g (SV.ren σ x)
 | .d x=>.d x
 | .nil=>.nil
 | .fptr x o=>.fptr x o
 | .junk=>.junk
def SV.rens (σ : Nat → Nat) : List SV → List SV
 | []=>[]
 | x :: l=>SV.ren σ x :: SV.rens σ l
end
def Box.ren (σ : Nat → Nat) : Box → Box
 | .cells cs=>.cells (SV.rens σ cs)
 | .row k L=>.row k L
 | .mp M=>.mp M
def renS (σ : Nat → Nat) : St → St
 | []=>[]
 | (i,b) :: s=>(σ i,b.ren σ) :: renS σ s
section
variable {σ : Nat → Nat}
theorem lk_ren (hσ : ∀ i j, σ i = σ j → i = j) (i : Nat) : ∀ s : St,lk (σ i) (renS σ s) = (lk i s).map (Box.ren σ)
 | []=>rfl
 | (j, b) :: s=>by
  unfold renS lk
  by_cases h : i = j
  · subst h; simp
  · rw [beq_ne h,beq_ne (fun h'=>h (hσ _ _ h'))]
    exact lk_ren hσ i s
theorem lk_ren_inv {j : Nat} {bx : Box} : ∀ {s : St},lk j (renS σ s) = some bx → ∃ (i : Nat) (b : Box),j = σ i ∧ bx = b.ren σ ∧ ∃ b',lk i s = some b'
 | (i, b) :: s,h=>by
  unfold renS lk at h
  by_cases hj : j = σ i
  · subst hj
    simp at h
    exact ⟨i,b,rfl,h.symm,b,by simp [lk]⟩
  · rw [beq_ne hj] at h
    obtain ⟨i',b',h1,h2,b2,h3⟩:=lk_ren_inv (s:=s) h
    refine ⟨i',b',h1,h2,?_⟩
    by_cases hi : i' = i
    · subst hi; exact ⟨b,by simp [lk]⟩
    · exact ⟨b2,by simp [lk,beq_ne hi,h3]⟩
theorem lk_ren_some (hσ : ∀ i j, σ i = σ j → i = j) {j : Nat} {bx : Box} {s : St} (h : lk j (renS σ s) = some bx) : ∃ i b,j = σ i ∧ lk i s = some b ∧ bx = b.ren σ := by
 obtain ⟨i,b,rfl, -,b',h3⟩:=lk_ren_inv h
 rw [lk_ren hσ,h3] at h
 exact ⟨i,b',rfl,h3,by simpa using h.symm⟩
theorem mut_ren (hσ : ∀ i j, σ i = σ j → i = j) {F : Nat → Prop} {β : Nat → Value} {s : St} : Mut F β (renS σ s) = Mut F (fun i => β (σ i)) s:=by
 funext b
 apply propext
 constructor
 · rintro (h | ⟨j,bx,h1,h2⟩)
   · exact .inl h
   · obtain ⟨i,b',rfl,h3,h4⟩:=lk_ren_some hσ h1
     exact .inr ⟨i,b',h3,h2⟩
 · rintro (h | ⟨i,bx,h1,h2⟩)
   · exact .inl h
   · exact .inr ⟨σ i,bx.ren σ,by rw [lk_ren hσ,h1]; rfl,h2⟩
def Tg2.ren (σ : Nat → Nat) : Tg2 → Tg2
 | .s x u=>.s (x.ren σ) u
 | .ss l us=>.ss (SV.rens σ l) us
theorem Rp.ren (hσ : ∀ i j, σ i = σ j → i = j) {w : World} {F : Nat → Prop} {β : Nat → Value} {s : St} {t : Tg2} (h : Rp w F (fun i => β (σ i)) s t) : Rp w F β (renS σ s) (t.ren σ):=by
 induction h with
 | d h=>exact .d (by rw [mut_ren hσ]; exact h)
 | nil=>exact .nil
 | agg _ ih=>exact .agg ih
 | tup _ ih=>exact .tup ih
 | ref hl hb=>exact .ref (by rw [lk_ren hσ,hl]; rfl) hb
 | sref hl hb=>exact .sref (by rw [lk_ren hσ,hl]; rfl) hb
 | fptr h=>exact .fptr (by rw [mut_ren hσ]; exact h)
 | own hl=>exact .own (by rw [lk_ren hσ,hl]; rfl)
 | eref hl hi hb=>exact .eref (by rw [lk_ren hσ,hl]; rfl) hi hb
 | mp hl=>exact .mp (by rw [lk_ren hσ,hl]; rfl)
 | clo _ ih=>exact .clo ih
 | grdF=>exact .grdF
 | grdT _ ih=>exact .grdT ih
 | junk=>exact .junk
 | ssn=>exact .ssn
 | ssc _ _ i1 i2=>exact .ssc i1 i2
theorem ren_cells {b : Box} {cs : List SV} (h : b.ren σ = .cells cs) : ∃ cs',b = .cells cs':=by
 cases b with
 | cells cs'=>exact ⟨_,rfl⟩
 | row k L=>cases h
 | mp M=>cases h
theorem ren_mp {b : Box} {M : List (Value × Value)} (h : b.ren σ = .mp M) : b = .mp M:=by
 cases b with
 | cells cs'=>cases h
 | row k' L'=>cases h
 | mp M=>exact h
theorem ren_row {b : Box} {k : Nat} {L : List D} (h : b.ren σ = .row k L) : b = .row k L:=by
 cases b with
 | cells cs'=>cases h
 | row k' L'=>exact h
 | mp M=>cases h
mutual
theorem Rp.unren (hσ : ∀ i j, σ i = σ j → i = j) {w : World} {F : Nat → Prop} {β : Nat → Value} {s : St} : ∀ (x : SV) (u : Value),Rp w F β (renS σ s) (.s (x.ren σ) u) → Rp w F (fun i => β (σ i)) s (.s x u)
 | .d x,u,h=>by
  simp only [SV.ren] at h
  cases h with | d h=>exact .d (by rw [← mut_ren hσ]; exact h)
 | .nil,u,h=>by
  simp only [SV.ren] at h
  cases h with | nil=>exact .nil
 | .agg cs,u,h=>by
  simp only [SV.ren] at h
  cases h with | agg h=>exact .agg (Rp.unrens hσ cs _ h)
 | .tup cs,u,h=>by
  simp only [SV.ren] at h
  cases h with | tup h=>exact .tup (Rp.unrens hσ cs _ h)
 | .ref i o,u,h=>by
  simp only [SV.ren] at h
  cases h with
  | ref hl hb =>
   rw [lk_ren hσ] at hl
   cases hi : lk i s with
   | none=>rw [hi] at hl; cases hl
   | some b =>
    rw [hi] at hl
    obtain ⟨cs',rfl⟩:=ren_cells (Option.some.inj hl)
    exact .ref hi hb
 | .sref i n,u,h=>by
  simp only [SV.ren] at h
  cases h with
  | sref hl hb =>
   rw [lk_ren hσ] at hl
   cases hi : lk i s with
   | none=>rw [hi] at hl; cases hl
   | some b =>
    rw [hi] at hl
    obtain ⟨cs',rfl⟩:=ren_cells (Option.some.inj hl)
    exact .sref hi hb
 | .fptr x o,u,h=>by
  simp only [SV.ren] at h
  cases h with | fptr h=>exact .fptr (by rw [← mut_ren hσ]; exact h)
 | .own i,u,h=>by
  simp only [SV.ren] at h
  cases h with
  | own hl =>
   rw [lk_ren hσ] at hl
   cases hi : lk i s with
   | none=>rw [hi] at hl; cases hl
   | some b =>
    rw [hi] at hl
    have:=ren_row (Option.some.inj hl)
    subst this
    exact Rp.own (β := fun i => β (σ i)) hi
 | .eref i j o,u,h=>by
  simp only [SV.ren] at h
  cases h with
  | eref hl hlt hb =>
   rw [lk_ren hσ] at hl
   cases hi : lk i s with
   | none=>rw [hi] at hl; cases hl
   | some b =>
    rw [hi] at hl
    have:=ren_row (Option.some.inj hl)
    subst this
    exact .eref hi hlt hb
 | .mp i,u,h=>by
  simp only [SV.ren] at h
  cases h with
  | mp hl =>
   rw [lk_ren hσ] at hl
   cases hi : lk i s with
   | none=>rw [hi] at hl; cases hl
   | some b =>
    rw [hi] at hl
    have:=ren_mp (Option.some.inj hl)
    subst this
    exact Rp.mp (β := fun i => β (σ i)) hi
 | .clo f cs,u,h=>by
  simp only [SV.ren] at h
  cases h with | clo h=>exact .clo (Rp.unrens hσ cs _ h)
 | .grd g x,u,h=>by
  simp only [SV.ren] at h
  cases h with
  | grdF=>exact .grdF
  | grdT h=>exact .grdT (Rp.unren hσ x u h)
 | .junk,u,h=>.junk
theorem Rp.unrens (hσ : ∀ i j, σ i = σ j → i = j) {w : World} {F : Nat → Prop} {β : Nat → Value} {s : St} : ∀ (l : List SV) (us : List Value),Rp w F β (renS σ s) (.ss (SV.rens σ l) us) → Rp w F (fun i => β (σ i)) s (.ss l us)
 | [],us,h=>by
  simp only [SV.rens] at h
  cases h with | ssn=>exact .ssn
 | x :: l,us,h=>by
  simp only [SV.rens] at h
  cases h with | ssc h ht=>exact .ssc (Rp.unren hσ x _ h) (Rp.unrens hσ l _ ht)
end
theorem BoxR.ren (hσ : ∀ i j, σ i = σ j → i = j) {w : World} {F : Nat → Prop} {β : Nat → Value} {s : St} {i : Nat} {bx : Box} (h : BoxR w F (fun i => β (σ i)) s i bx) : BoxR w F β (renS σ s) (σ i) (bx.ren σ):=by
 cases bx with
 | cells cs =>
  obtain ⟨b,t,us,h1,h2,h3,h4⟩:=h
  exact ⟨b,t,us,h1,h2,Rp.ren hσ h3,h4⟩
 | row k L =>
  obtain ⟨h1,h2,e,xs,h3,h4,h5⟩:=h
  exact ⟨h1,h2,e,xs,h3,by rw [mut_ren hσ]; exact h4,h5⟩
 | mp M=>exact h
theorem BoxR.unren (hσ : ∀ i j, σ i = σ j → i = j) {w : World} {F : Nat → Prop} {β : Nat → Value} {s : St} {i : Nat} {bx : Box} (h : BoxR w F β (renS σ s) (σ i) (bx.ren σ)) : BoxR w F (fun i => β (σ i)) s i bx:=by
 cases bx with
 | cells cs =>
  obtain ⟨b,t,us,h1,h2,h3,h4⟩:=h
  exact ⟨b,t,us,h1,h2,Rp.unrens hσ _ _ h3,h4⟩
 | row k L =>
  obtain ⟨h1,h2,e,xs,h3,h4,h5⟩:=h
  exact ⟨h1,h2,e,xs,h3,by rw [← mut_ren hσ]; exact h4,h5⟩
 | mp M=>exact h
theorem WR.ren (hσ : ∀ i j, σ i = σ j → i = j) {w : World} {F : Nat → Prop} {β : Nat → Value} {s : St} (h : WR F (fun i => β (σ i)) s w) : WR F β (renS σ s) w where
 boxes i bx hl:=by
  obtain ⟨i',b',rfl,h3,rfl⟩:=lk_ren_some hσ hl
  exact BoxR.ren hσ (h.boxes i' b' h3)
 inj i j bx by' b hl hl' hb hb':=by
  obtain ⟨i',b1,rfl,h3,rfl⟩:=lk_ren_some hσ hl
  obtain ⟨j',b2,rfl,h4,rfl⟩:=lk_ren_some hσ hl'
  rw [h.inj i' j' b1 b2 b h3 h4 hb hb']
 apart i bx b hl hb:=by
  obtain ⟨i',b1,rfl,h3,rfl⟩:=lk_ren_some hσ hl
  exact h.apart i' b1 b h3 hb
 low:=h.low
theorem WR.unren (hσ : ∀ i j, σ i = σ j → i = j) {w : World} {F : Nat → Prop} {β : Nat → Value} {s : St} (h : WR F β (renS σ s) w) : WR F (fun i => β (σ i)) s w where
 boxes i bx hl:=BoxR.unren hσ (h.boxes (σ i) (bx.ren σ) (by rw [lk_ren hσ,hl]; rfl))
 inj i j bx by' b hl hl' hb hb':=hσ _ _ (h.inj (σ i) (σ j) (bx.ren σ) (by'.ren σ) b (by rw [lk_ren hσ,hl]; rfl) (by rw [lk_ren hσ,hl']; rfl) hb hb')
 apart i bx b hl hb:=h.apart (σ i) (bx.ren σ) b (by rw [lk_ren hσ,hl]; rfl) hb
 low:=h.low
open Classical in
theorem GFn.ren {ok : Ending → Value → Prop} (hσ : ∀ i j, σ i = σ j → i = j) {P : Program} {Γ : Gl} {f : FuncId} {args : List SV} {s s' : St} {ret : SV} (h : GFn ok P Γ f args s ret s') : GFn ok P Γ f (SV.rens σ args) (renS σ s) (ret.ren σ) (renS σ s'):=by
 refine ⟨h.1,fun F β w us hG hNG hW hl hbase hargs=>?_⟩
 refine (h.2 F (fun i => β (σ i)) w us hG hNG (WR.unren hσ hW) hl (fun i bx b hl hb=>hbase (σ i) (bx.ren σ) b (by rw [lk_ren hσ,hl]; rfl) hb) (Rp.unrens hσ _ _ hargs)).mono ?_
 rintro e w' ⟨v, β',hok,h1,h2,h3,h4,h5⟩
 let β2 : Nat → Value:=fun j=>if hj : ∃ i, σ i = j then β' hj.choose else β j
 have hβ : (fun i => β2 (σ i)) = β':=by
  funext i
  have hj : ∃ i', σ i' = σ i:=⟨i,rfl⟩
  simp only [β2,dif_pos hj]
  rw [hσ _ _ hj.choose_spec]
 have hβi : ∀ i, β2 (σ i) = β' i:=fun i=>congrFun hβ i
 refine ⟨v, β2,hok,WR.ren hσ (by rw [hβ]; exact h1),Rp.ren hσ (t:=.s ret v) (by rw [hβ]; exact h2),?_,h4,?_⟩
 · refine ⟨h3.os,h3.tape,h3.output,h3.size,fun b hb hn=>?_,fun i bx b hl hb=>?_,fun i cs cs' hl hl'=>?_,fun i bx hl=>?_⟩
   · refine h3.heap b hb fun i bx hl=>?_
     exact hn (σ i) (bx.ren σ) (by rw [lk_ren hσ,show lk i s = _ from hl]; rfl)
   · obtain ⟨i',b1,rfl,h6,rfl⟩:=lk_ren_some hσ hl
     rw [hβi] at hb
     rcases h3.boxes i' b1 b h6 hb with h7 | ⟨j,by',h7,h8⟩
     · exact .inl h7
     · exact .inr ⟨σ j,by'.ren σ,by rw [lk_ren hσ,show lk j s = _ from h7]; rfl,h8⟩
   · obtain ⟨i',b1,rfl,h6,h7⟩:=lk_ren_some hσ (s:=s) hl
     obtain ⟨c1,rfl⟩:=ren_cells h7.symm
     rw [lk_ren hσ] at hl'
     cases h8 : lk i' s' with
     | none=>rw [h8] at hl'; cases hl'
     | some b2 =>
      rw [h8] at hl'
      obtain ⟨c2,rfl⟩:=ren_cells (Option.some.inj hl')
      rw [hβi]
      exact h3.cells i' c1 c2 h6 h8
   · obtain ⟨i',b1,rfl,h6,rfl⟩:=lk_ren_some hσ (s:=s) hl
     have:=h3.keep i' b1 h6
     rw [lk_ren hσ]
     cases h8 : lk i' s' with
     | none=>exact absurd h8 this
     | some b2=>simp
 · intro i bx b hl hb
   obtain ⟨i',b1,rfl,h6,rfl⟩:=lk_ren_some hσ hl
   rw [hβi] at hb
   exact h5 i' b1 b h6 hb
theorem SFn.ren (hσ : ∀ i j, σ i = σ j → i = j) {P : Program} {Γ : Gl} {f : FuncId} {args : List SV} {s s' : St} {ret : SV} (h : SFn P Γ f args s ret s') : SFn P Γ f (SV.rens σ args) (renS σ s) (ret.ren σ) (renS σ s'):=GFn.ren (ok:=fun e v=>e = .returned v) hσ h
end
theorem SFn.up {P : Program} {Γ : Gl} {f : FuncId} {args : List SV} {s s' : St} {ret : SV} (k : Nat) (h : SFn P Γ f args s ret s') : SFn P Γ f (SV.rens (· + k) args) (renS (· + k) s) (ret.ren (· + k)) (renS (· + k) s'):=SFn.ren (fun i j h=>by simpa using h) h
end Go.Sw
namespace Go.Sw
open Go.RowKit
section
variable {P : Program} {N : Nat} {Γ : Gl} {C : Cx P N Γ}
theorem run_callC {f : FuncId} {x : Operand} {dst : Option Tmp} {args : Array Operand} {ats : Array TypeId} {ty : TypeId} {pos : String} {af : Array Edge} {gd : Option (Nat × Bool)} (hf : entB P f = true) (a : Act) (w : World) {us : List Value} (hx : a.eval x = .func (.func f) #[] us.toArray) :
 (execOp a.eval ⟨dst,.call ⟨.value x,args,ats⟩,ty,pos,af,gd⟩).run P w = .ok (.enter f (args.toList.map a.eval ++ us).toArray) w:=by
 unfold entB at hf
 split at hf
 · rename_i fn hfn
   simp only [Bool.and_eq_true,Bool.not_eq_true'] at hf
   have h2 : fn.body.isNone = false:=by cases h : fn.body <;> simp_all
   have hm : args.map a.eval = (args.toList.map a.eval).toArray:=by apply Array.ext'; simp
   simp only [execOp,resolve,hx,Deferred.ofValue,Sem.run_bind,Sem.run_pure,Result.andThen_ok,invoke,callFunc,run_program,hfn,hf.1,h2]
   simp [hm]
 · cases hf
end
end Go.Sw
