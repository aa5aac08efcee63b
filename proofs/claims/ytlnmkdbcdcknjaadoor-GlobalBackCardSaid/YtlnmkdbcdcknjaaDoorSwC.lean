/- A symbolic walk: a step that succeeds with fewer boxes succeeds with more. -/
import Derived.Test.YtlnmkdbcdcknjaaDoorSwB
import Derived.ChangeArms
import Derived.WideShapes
import Derived.Orders
set_option linter.unusedVariables false
set_option linter.unusedSimpArgs false
namespace Go.Sw
open Go.RowKit
inductive Eff where
 | none
 | new (b : Box)
 | set (i : Nat) (b : Box)
 | app (i : Nat) (b : Box)
def Eff.env : Eff → Env → Env
 | .app i _,e=>jkE (Nat.beq i) e
 | _,e=>e
def Eff.st (nm : Nat) : Eff → St → St
 | .none,s=>s
 | .new b,s=>(nm,b) :: s
 | .set i b,s=>put i b s
 | .app i b,s=>put i b (jkS (Nat.beq i) s)
def writeOp : Op → Bool
 | .alloc _ | .box _ _ | .buildSlice _ _ _ | .store _ _ _=>true
 | .call c=>match c.callee with | .builtin .append=>true | _=>false
 | _=>false
end Go.Sw
namespace Go.Sw
open Go.RowKit
section
variable {P : Program} {N : Nat} {Γ : Gl} {C : Cx P N Γ}
theorem ext_same {F : Nat → Prop} {β : Nat → Value} {s s' : St} {w : World} (h : ∀ i,lk i s' = lk i s) : Ext (fun _=>false) F w β s w β s' where
 heap:=fun _ _ _=>rfl
 mutb:=fun b _ hm=>by
  rcases hm with hm | ⟨i,bx,h1,h2⟩
  · exact .inl hm
  · exact .inr ⟨i,bx,by rw [← h]; exact h1,h2⟩
 cells:=fun i cs _ hl=>⟨rfl,cs,by rw [h]; exact hl⟩
 row:=fun i k L _ hl=>⟨rfl,L,by rw [h]; exact hl,Nat.le_refl _⟩
 mp:=fun i M _ hl=>⟨rfl,M,by rw [h]; exact hl⟩
theorem BoxR.same {F : Nat → Prop} {β : Nat → Value} {s s' : St} {w : World} (h : ∀ i,lk i s' = lk i s) {i : Nat} {bx : Box} (hb : BoxR w F β s i bx) : BoxR w F β s' i bx:=by
 have hx:=ext_same (F:=F) (β := β) (w:=w) h
 cases bx with
 | cells cs =>
  obtain ⟨b,t,us,h1,h2,h3,h4⟩:=hb
  exact ⟨b,t,us,h1,h2,Rp.keep0s hx h3,h4⟩
 | row k L =>
  obtain ⟨h1,h2,e,xs,h3,h4,h5⟩:=hb
  exact ⟨h1,h2,e,xs,h3,h4.keep hx.heap hx.mutb,h5⟩
 | mp M=>exact hb
theorem InvB.same {β : Nat → Value} {e : Env} {s s' : St} {a : Act} {w : World} (inv : InvB C β e s a w) (h : ∀ i,lk i s' = lk i s) : InvB C β e s' a w where
 wr:=⟨fun i bx hl=>(inv.wr.boxes i bx (by rw [← h]; exact hl)).same h,fun i j b1 b2 b h1 h2=>inv.wr.inj i j b1 b2 b (by rw [← h]; exact h1) (by rw [← h]; exact h2),fun i bx b h1=>inv.wr.apart i bx b (by rw [← h]; exact h1),inv.wr.low⟩
 base:=fun i bx b h1=>inv.base i bx b (by rw [← h]; exact h1)
 env:=fun t x hx=>⟨(inv.env t x hx).1,Rp.keep0 (ext_same h) (inv.env t x hx).2⟩
 size:=inv.size
 defers:=inv.defers
 glob:=inv.glob
 big:=inv.big
 since:=⟨inv.since.os,inv.since.tape,inv.since.output,inv.since.size,inv.since.heap,fun i bx b h1=>inv.since.boxes i bx b (by rw [← h]; exact h1),fun i cs cs' h1 h2=>inv.since.cells i cs cs' h1 (by rw [← h]; exact h2),fun i bx h1=>by rw [h]; exact inv.since.keep i bx h1⟩
theorem vals_env {e er : Env} : ∀ {l : List Operand},(∀ x ∈ l,val e x = val er x) → vals e l = vals er l
 | [],_=>rfl
 | x :: l,h=>by
  unfold vals
  rw [h x (by simp),vals_env fun y hy=>h y (by simp [hy])]
theorem fill_env {e er : Env} {g : Bool} {pl : List (Nat × Nat)} : ∀ {l : List (Nat × Operand)} {cs : List SV},(∀ x ∈ l.map (·.2),val e x = val er x) → fillO g pl e l cs = fillO g pl er l cs
 | [],cs,h=>rfl
 | (i, x) :: l,cs,h=>by
  unfold fillO
  rw [h x (by simp)]
  cases pl[i]? with
  | none=>rfl
  | some q =>
   obtain ⟨off,n⟩:=q
   simp only
   rw [fill_env fun y hy=>h y (by simp at hy ⊢; exact .inr hy)]
end
end Go.Sw
namespace Go.Sw
open Go.RowKit
theorem lk_head {α : Type} (t : Nat) (x : α) (e : List (Nat × α)) : lk t ((t,x) :: e) = some x:=by simp [lk]
mutual
def SV.hnd : SV → List Nat
 | .ref i _=>[i]
 | .own i=>[i]
 | .eref i _ _=>[i]
 | .sref i _=>[i]
 | .mp i=>[i]
 | .agg cs=>SV.hnds cs
 | .tup cs=>SV.hnds cs
 | .clo _ cs=>SV.hnds cs
 | .grd _ x=>SV.hnd x
 | _=>[]
def SV.hnds : List SV → List Nat
 | []=>[]
 | x :: l=>SV.hnd x ++ SV.hnds l
end
def SameH (x : SV) (s s' : St) : Prop := ∀ b ∈ x.hnd, ∀ B,lk b s = some B → lk b s' = some B
theorem lenV_lat {s s' : St} {x : SV} (h : SameH x s s') {n : Nat} (hx : lenV s x = some n) : lenV s' x = some n:=by
 cases x with
 | own i =>
  simp only [lenV] at hx ⊢
  cases hl : lk i s with
  | none=>rw [hl] at hx; cases hx
  | some b=>rw [hl] at hx; rw [h i (by simp [SV.hnd]) b hl]; exact hx
 | d y=>cases y <;> first | exact hx | cases hx
 | _=>first | exact hx | cases hx
mutual
theorem toD_lat {s s' : St} : ∀ {x : SV} {d : D},SameH x s s' → SV.toD s x = some d → SV.toD s' x = some d
 | .own i,d,h,hx=>by
  simp only [SV.toD] at hx ⊢
  cases hl : lk i s with
  | none=>rw [hl] at hx; cases hx
  | some b=>rw [hl] at hx; rw [h i (by simp [SV.hnd]) b hl]; exact hx
 | .agg cs,d,h,hx=>by
  simp only [SV.toD] at hx ⊢
  cases hc : SV.toDs s cs with
  | none=>rw [hc] at hx; cases hx
  | some l=>rw [hc] at hx; rw [toDs_lat (fun b hb=>h b (by simpa [SV.hnd] using hb)) hc]; exact hx
 | .tup cs,d,h,hx=>by
  simp only [SV.toD] at hx ⊢
  cases hc : SV.toDs s cs with
  | none=>rw [hc] at hx; cases hx
  | some l=>rw [hc] at hx; rw [toDs_lat (fun b hb=>h b (by simpa [SV.hnd] using hb)) hc]; exact hx
 | .d x,d,h,hx=>by simpa [SV.toD] using hx
 | .nil,d,h,hx=>by simpa [SV.toD] using hx
 | .ref i o,d,h,hx=>by simp [SV.toD] at hx
 | .fptr y o,d,h,hx=>by simp [SV.toD] at hx
 | .eref i j o,d,h,hx=>by simp [SV.toD] at hx
 | .sref i n,d,h,hx=>by simp [SV.toD] at hx
 | .mp i,d,h,hx=>by simp [SV.toD] at hx
 | .clo f cs,d,h,hx=>by simp [SV.toD] at hx
 | .grd g x,d,h,hx=>by simp [SV.toD] at hx
 | .junk,d,h,hx=>by simp [SV.toD] at hx
theorem toDs_lat {s s' : St} : ∀ {l : List SV} {ds : List D},(∀ b ∈ SV.hnds l, ∀ B,lk b s = some B → lk b s' = some B) → SV.toDs s l = some ds → SV.toDs s' l = some ds
 | [],ds,h,hx=>by simpa [SV.toDs] using hx
 | x :: l,ds,h,hx=>by
  simp only [SV.toDs] at hx ⊢
  cases h1 : SV.toD s x with
  | none=>rw [h1] at hx; simp at hx
  | some d1 =>
   cases h2 : SV.toDs s l with
   | none=>rw [h1,h2] at hx; simp at hx
   | some d2=>rw [h1,h2] at hx; rw [toD_lat (fun b hb=>h b (by simp [SV.hnds,hb])) h1,toDs_lat (fun b hb=>h b (by simp [SV.hnds,hb])) h2]; exact hx
end
theorem hnds_vals {e : Env} : ∀ {l : List Operand} {b : Nat},b ∈ SV.hnds (opns (vals e l)) → ∃ y ∈ l,b ∈ (opn (val e y)).hnd
 | [],b,h=>by simp [vals,opns,SV.hnds] at h
 | y :: l,b,h=>by
  simp only [vals,opns,SV.hnds,List.mem_append] at h
  rcases h with h | h
  · exact ⟨y,by simp,h⟩
  · obtain ⟨z,h1,h2⟩:=hnds_vals h
    exact ⟨z,by simp [h1],h2⟩
theorem elems_lat {s s' : St} {g : Bool} {k : Nat} {e e' : Env} : ∀ {l : List (Nat × Operand)} {j : Nat} {q : Prop × List D},(∀ y ∈ l.map (·.2),val e' y = val e y) → (∀ y ∈ l.map (·.2),SameH (opn (val e y)) s s') → elemsO g k e s l j = some q → elemsO g k e' s' l j = some q
 | [],j,q,hv,hs,hx=>by simpa [elemsO] using hx
 | (i, x) :: l,j,q,hv,hs,hx=>by
  unfold elemsO at hx ⊢
  cases hb : Nat.beq i j with
  | false=>rw [hb] at hx; cases hx
  | true =>
   rw [hb] at hx
   simp only [cond_true] at hx ⊢
   have hv1:=hv x (by simp)
   simp only [hv1]
   cases h1 : SV.toD s (opn (val e x)) with
   | none=>rw [h1] at hx; simp at hx
   | some d1 =>
    cases h2 : elemsO g k e s l (j + 1) with
    | none=>rw [h1,h2] at hx; simp at hx
    | some d2=>rw [h1,h2] at hx; rw [toD_lat (hs x (by simp)) h1,elems_lat (fun y hy=>hv y (by simp at hy ⊢; exact .inr hy)) (fun y hy=>hs y (by simp at hy ⊢; exact .inr hy)) h2]; exact hx
theorem bnd_env {e e' : Env} {y : Option Operand} {d : Int} (hv : ∀ z ∈ y.toList,val e' z = val e z) : bnd e' y d = bnd e y d:=by
 cases y with
 | none=>rfl
 | some z=>simp only [bnd,hv z (by simp)]
def srcE (s : St) : SV → Option Bool
 | .own j=>match lk j s with | some (.row _ [])=>some true | some (.row _ (_ :: _))=>some false | _=>none
 | .d (.slc [])=>some true
 | .d (.slc (_ :: _))=>some false
 | .nil=>some true
 | _=>none
theorem srcE_of {s : St} {k : Nat} {v : SV} {q : Prop} {l : List D} (h : srcO s k v = some (q,l)) : srcE s v = some l.isEmpty:=by
 cases v with
 | own j =>
  simp only [srcO] at h
  simp only [srcE]
  cases hl : lk j s with
  | none=>rw [hl] at h; cases h
  | some b =>
   rw [hl] at h
   cases b with
   | cells cs=>cases h
   | row k2 L =>
    simp only [Option.some.injEq,Prod.mk.injEq] at h
    obtain ⟨-,rfl⟩:=h
    cases L <;> rfl
   | mp M=>cases h
 | d x =>
  cases x with
  | slc L =>
   simp only [srcO,Option.some.injEq,Prod.mk.injEq] at h
   obtain ⟨-,rfl⟩:=h
   cases L <;> rfl
  | _=>cases h
 | nil =>
  simp only [srcO,Option.some.injEq,Prod.mk.injEq] at h
  obtain ⟨-,rfl⟩:=h
  rfl
 | _=>cases h
theorem srcO_lat {s s' : St} {k : Nat} {v : SV} {r : Prop × List D} (hs : SameH v s s') (h : srcO s k v = some r) : srcO s' k v = some r:=by
 cases v with
 | own j =>
  simp only [srcO] at h ⊢
  cases hl : lk j s with
  | none=>rw [hl] at h; cases h
  | some b=>rw [hs j (by simp [SV.hnd]) b hl]; rw [hl] at h; exact h
 | d x=>cases x <;> first | exact h | cases h
 | nil=>exact h
 | _=>cases h
def effO (op : Op) (e : Env) (x : SV) (s s1 : St) (nm : Nat) : Option Eff :=
 match op with
 | .alloc _ | .box _ _ | .buildSlice _ _ _=>(lk nm s1).map .new
 | .store _ y _=>match opn (val e y) with | .ref i _=>(lk i s1).map (.set i) | _=>none
 | .call c=>match c.callee with
  | .builtin .append=>match c.args.toList with
   | [_, y]=>match srcE s (opn (val e y)) with
    | some true=>some .none
    | some false=>match x with
     | .own k=>bif Nat.beq k nm then (lk nm s1).map .new else (lk k s1).map (.app k)
     | _=>none
    | none=>none
   | _=>none
  | .builtin .len=>some .none
  | _=>none
 | _=>some .none
section
variable {P : Program}
def Lat (P : Program) (g : Bool) (o : Oper) (e e1 : Env) (s s1 : St) (e' : Env) (s' : St) (nm : Nat) (p : Prop) (x : SV) : Prop :=
 ∃ F : Eff,effO o.op e x s s1 nm = some F ∧ (p → g = true ∨ F = .none) ∧ stepO P g o e' s' nm = some (p,x,F.env e',F.st nm s')
theorem lat0 {g : Bool} {o : Oper} {e e1 e' : Env} {s s1 s' : St} {nm : Nat} {p : Prop} {x : SV} (he : effO o.op e x s s1 nm = some .none) (h : stepO P g o e' s' nm = some (p,x,e',s')) : Lat P g o e e1 s s1 e' s' nm p x :=
 ⟨.none,he,fun _=>.inr rfl,h⟩
theorem stepO_lat {s s' : St} {e e' e1 : Env} {g : Bool} {o : Oper} {s1 : St} {nm : Nat} {p : Prop} {x : SV} (hn : lk nm s = none) (hw : (pureOp o.op || writeOp o.op) = true)
 (hv : ∀ y ∈ o.op.operands.toList,val e' y = val e y) (hs : ∀ y ∈ o.op.operands.toList,SameH (opn (val e y)) s s')
 (hx : stepO P g o e s nm = some (p,x,e1,s1)) : Lat P g o e e1 s s1 e' s' nm p x:=by
 obtain ⟨dst,op,ty,pos,af,gd⟩:=o
 cases op
 all_goals first | exact Bool.noConfusion (show false = true from hw) | skip
 all_goals simp only [Op.operands] at hv hs
 case load t y =>
  have hv1:=hv y (by simp)
  have hs1:=hs y (by simp)
  refine lat0 rfl ?_
  simp only [stepO,hv1] at hx ⊢
  split at hx
  · rename_i i off ho
    split at hx
    · rename_i cs hl
      rw [hs1 i (by rw [ho]; simp [SV.hnd]) _ hl]
      simp only
      obtain ⟨q,h1,h2⟩:=map_some4 hx
      simp only [Prod.mk.injEq] at h2
      obtain ⟨rfl,rfl,rfl,rfl⟩:=h2
      rw [h1]; rfl
    · cases hx
  · obtain ⟨q,h1,h2⟩:=map_some4 hx
    simp only [Prod.mk.injEq] at h2
    obtain ⟨rfl,rfl,rfl,rfl⟩:=h2
    rw [h1]; rfl
  · rename_i i idx off ho
    split at hx
    · rename_i k L hl
      rw [hs1 i (by rw [ho]; simp [SV.hnd]) _ hl]
      simp only
      obtain ⟨q,h1,h2⟩:=map_some4 hx
      simp only [Prod.mk.injEq] at h2
      obtain ⟨rfl,rfl,rfl,rfl⟩:=h2
      rw [h1]; rfl
    · cases hx
  · cases hx
 case indexAddr t y z =>
  have hv1:=hv y (by simp)
  have hv2:=hv z (by simp)
  have hs1:=hs y (by simp)
  refine lat0 rfl ?_
  simp only [stepO,hv1,hv2] at hx ⊢
  split at hx
  · split at hx
    · obtain ⟨rfl,rfl,rfl,rfl⟩:=some4 hx
      simp_all
    · rename_i i ho
      split at hx
      · rename_i k' L hl
        obtain ⟨rfl,rfl,rfl,rfl⟩:=some4 hx
        have:=hs1 i (by rw [ho]; simp [SV.hnd]) _ hl
        simp_all
      · cases hx
    · obtain ⟨rfl,rfl,rfl,rfl⟩:=some4 hx
      simp_all
    · cases hx
  · cases hx
 case alloc t =>
  simp only [stepO] at hx ⊢
  obtain ⟨q,h1,h2⟩:=map_some4 hx
  simp only [Prod.mk.injEq] at h2
  obtain ⟨rfl,rfl,rfl,rfl⟩:=h2
  exact ⟨.new _,by simp only [effO,lk_head,Option.map_some]; rfl,fun h=>.inl h.1,by simp only [stepO]; rw [h1]; rfl⟩
 case box t y =>
  have hv1:=hv y (by simp)
  simp only [stepO] at hx
  obtain ⟨rfl,rfl,rfl,rfl⟩:=some4 hx
  exact ⟨.new _,by simp only [effO,lk_head,Option.map_some]; rfl,fun h=>.inl h.1,by simp only [stepO,hv1]; rfl⟩
 case buildSlice t len parts =>
  simp only [stepO,bslO] at hx
  split at hx
  · rename_i k hk
    obtain ⟨q,h1,h2⟩:=map_some4 hx
    simp only [Prod.mk.injEq] at h2
    obtain ⟨rfl,rfl,rfl,rfl⟩:=h2
    exact ⟨.new _,by simp only [effO,lk_head,Option.map_some]; rfl,fun h=>.inl h.1,by simp only [stepO,bslO,hk]; rw [elems_lat (fun z hz=>hv z (by simpa using hz)) (fun z hz=>hs z (by simpa using hz)) h1]; rfl⟩
  · cases hx
 case store t y z =>
  have hv1:=hv y (by simp)
  have hv2:=hv z (by simp)
  have hs1:=hs y (by simp)
  simp only [stepO] at hx
  split at hx
  · rename_i i off ho
    split at hx
    · rename_i cs n hl hn'
      obtain ⟨rfl,rfl,rfl,rfl⟩:=some4 hx
      exact ⟨.set i _,by simp only [effO,ho,lk_put_same,Option.map_some]; rfl,fun h=>.inl h.1,by simp only [stepO,hv1,hv2,ho,hs1 i (by rw [ho]; simp [SV.hnd]) _ hl,hn']; rfl⟩
    · cases hx
  · cases hx
 case makeFunc fn first caps =>
  have hv1 : vals e' caps.toList = vals e caps.toList:=vals_env fun z hz=>hv z (by simp at hz ⊢; exact .inr hz)
  refine lat0 rfl ?_
  simp only [stepO,mkF,hv1] at hx ⊢
  split at hx
  · obtain ⟨rfl,rfl,rfl,rfl⟩:=some4 hx
    simp_all
  · cases hx
 case build t parts =>
  refine lat0 rfl ?_
  simp only [stepO,buildO] at hx ⊢
  split at hx
  · rename_i z pl h1 h2
    obtain ⟨q,h3,h4⟩:=map_some4 hx
    simp only [Prod.mk.injEq] at h4
    obtain ⟨rfl,rfl,rfl,rfl⟩:=h4
    rw [fill_env (e:=e') (er:=e) (fun z hz=>hv z (by simpa using hz)),h3]; rfl
  · cases hx
 case slice t y lo hi mx =>
  have hv1:=hv y (by simp)
  have hv2 : ∀ d,bnd e' lo d = bnd e lo d:=fun d=>bnd_env fun z hz=>hv z (by cases lo <;> simp_all)
  have hv3 : ∀ d,bnd e' hi d = bnd e hi d:=fun d=>bnd_env fun z hz=>hv z (by cases hi <;> simp_all)
  refine lat0 rfl ?_
  simp only [stepO,slO,hv1,hv2,hv3] at hx ⊢
  (repeat' split at hx)
  all_goals first
   | (cases hx; done)
   | (obtain ⟨rfl,rfl,rfl,rfl⟩:=some4 hx; simp_all; done)
 case call c =>
  obtain ⟨cl,args,ats⟩:=c
  cases cl with
  | value y=>exact Bool.noConfusion (show false = true from hw)
  | invoke y m=>exact Bool.noConfusion (show false = true from hw)
  | builtin b =>
   simp only [Call.operands] at hv hs
   cases b <;> first | exact Bool.noConfusion (show false = true from hw) | skip
   case len =>
    refine lat0 rfl ?_
    simp only [stepO,callO,bltO,lenO] at hx ⊢
    split at hx
    · rename_i y t ha ht
      have hm : y ∈ args.toList:=by rw [ha]; simp
      have hv1:=hv y (by simpa using hm)
      have hs1:=hs y (by simpa using hm)
      simp only [hv1]
      split at hx
      · obtain ⟨q,h1,h2⟩:=map_some4 hx
        simp only [Prod.mk.injEq] at h2
        obtain ⟨rfl,rfl,rfl,rfl⟩:=h2
        simp_all [lenV_lat hs1 h1]
      · obtain ⟨q,h1,h2⟩:=map_some4 hx
        simp only [Prod.mk.injEq] at h2
        obtain ⟨rfl,rfl,rfl,rfl⟩:=h2
        simp_all
      · split at hx
        · rename_i i ho
          split at hx
          · rename_i M hl
            obtain ⟨rfl,rfl,rfl,rfl⟩:=some4 hx
            have hli:=hs1 i (by rw [ho]; simp [SV.hnd]) _ hl
            simp_all
          · cases hx
        · cases hx
      · cases hx
    · cases hx
   case append =>
    simp only [stepO,callO,bltO,appO] at hx
    split at hx
    · rename_i y z t t' ha ht
      have hm : y ∈ args.toList:=by rw [ha]; simp
      have hm2 : z ∈ args.toList:=by rw [ha]; simp
      have hv1:=hv y (by simpa using hm)
      have hs1:=hs y (by simpa using hm)
      have hv2:=hv z (by simpa using hm2)
      have hs2:=hs z (by simpa using hm2)
      split at hx
      · rename_i k by' k' hk1 hk2 hk3
        split at hx
        · rename_i q hsrc
          have hE:=srcE_of hsrc
          have hsrc':=srcO_lat hs2 hsrc
          simp only [List.isEmpty_nil,List.isEmpty_cons] at hE
          split at hx
          · rename_i hi
            obtain ⟨rfl,rfl,rfl,rfl⟩:=some4 hx
            exact lat0 (by simp only [effO,ha,hE]) (by simp only [stepO,callO,bltO,appO,ha,ht,hk1,hk2,hk3,hv1,hv2,hsrc',hi])
          · rename_i i hi
            split at hx
            · rename_i k3 L hli
              have hli':=hs1 i (by rw [hi]; simp [SV.hnd]) _ hli
              obtain ⟨rfl,rfl,rfl,rfl⟩:=some4 hx
              exact lat0 (by simp only [effO,ha,hE]) (by simp only [stepO,callO,bltO,appO,ha,ht,hk1,hk2,hk3,hv1,hv2,hsrc',hi,hli'])
            · cases hx
          · cases hx
        · rename_i q y0 Ly hsrc
          have hE:=srcE_of hsrc
          have hsrc':=srcO_lat hs2 hsrc
          simp only [List.isEmpty_nil,List.isEmpty_cons] at hE
          split at hx
          · rename_i hi
            obtain ⟨rfl,rfl,rfl,rfl⟩:=some4 hx
            exact ⟨.new _,by simp only [effO,ha,hE,beq_self,cond_true,lk_head,Option.map_some]; rfl,fun h=>.inl h.1,by simp only [stepO,callO,bltO,appO,ha,ht,hk1,hk2,hk3,hv1,hv2,hsrc',hi]; rfl⟩
          · rename_i i hi
            split at hx
            · rename_i k3 L hli
              have hli':=hs1 i (by rw [hi]; simp [SV.hnd]) _ hli
              obtain ⟨rfl,rfl,rfl,rfl⟩:=some4 hx
              have hne : Nat.beq i nm = false:=beq_ne fun h=>by rw [h,hn] at hli; cases hli
              exact ⟨.app i _,by simp only [effO,ha,hE,hne,cond_false,lk_put_same,Option.map_some]; rfl,fun h=>.inl h.1,by simp only [stepO,callO,bltO,appO,ha,ht,hk1,hk2,hk3,hv1,hv2,hsrc',hi,hli']; rfl⟩
            · cases hx
          · cases hx
        · cases hx
      · cases hx
    · cases hx
 case move y =>
  have hv1:=hv y (by simp)
  refine lat0 rfl ?_
  simp only [stepO,hv1] at hx ⊢
  obtain ⟨rfl,rfl,rfl,rfl⟩:=some4 hx
  rfl
 case assign y =>
  have hv1:=hv y (by simp)
  refine lat0 rfl ?_
  simp only [stepO,hv1] at hx ⊢
  obtain ⟨rfl,rfl,rfl,rfl⟩:=some4 hx
  rfl
 case pick c y z =>
  have hv1:=hv c (by simp)
  have hv2:=hv y (by simp)
  have hv3:=hv z (by simp)
  refine lat0 rfl ?_
  simp only [stepO,hv1,hv2,hv3] at hx ⊢
  split at hx
  · obtain ⟨rfl,rfl,rfl,rfl⟩:=some4 hx
    simp_all
  · cases hx
 case binOp op t y z t2 =>
  have hv1:=hv y (by simp)
  have hv2:=hv z (by simp)
  refine lat0 rfl ?_
  simp only [stepO,hv1,hv2] at hx ⊢
  (repeat' split at hx)
  all_goals first
   | (cases hx; done)
   | (obtain ⟨q,h1,h2⟩:=map_some4 hx; simp only [Prod.mk.injEq] at h2; obtain ⟨rfl,rfl,rfl,rfl⟩:=h2; simp_all; done)
 case lookup t y z ok =>
  have hv1:=hv y (by simp)
  have hv2:=hv z (by simp)
  have hs1:=hs y (by simp)
  refine lat0 rfl ?_
  simp only [stepO,hv1,hv2] at hx ⊢
  split at hx
  · rename_i kt z0 i kv hm ho hk
    split at hx
    · rename_i M hl
      obtain ⟨rfl,rfl,rfl,rfl⟩:=some4 hx
      simp only [hs1 i (by rw [ho]; simp [SV.hnd]) _ hl]
    · cases hx
  · cases hx
 case index t y z =>
  have hv1:=hv y (by simp)
  have hv2:=hv z (by simp)
  refine lat0 rfl ?_
  simp only [stepO,hv1,hv2] at hx ⊢
  (repeat' split at hx)
  all_goals first
   | (cases hx; done)
   | (obtain ⟨rfl,rfl,rfl,rfl⟩:=some4 hx; simp_all; done)
 case nilCheck y => 
  have hv1:=hv y (by simp)
  refine lat0 rfl ?_
  simp only [stepO,hv1] at hx ⊢
  (repeat' split at hx)
  all_goals first
   | (cases hx; done)
   | (obtain ⟨q,h1,h2⟩:=map_some4 hx; simp only [Prod.mk.injEq] at h2; obtain ⟨rfl,rfl,rfl,rfl⟩:=h2; simp_all; done)
   | (obtain ⟨rfl,rfl,rfl,rfl⟩:=some4 hx; simp_all; done)
 case unOp op t y => 
  have hv1:=hv y (by simp)
  refine lat0 rfl ?_
  simp only [stepO,hv1] at hx ⊢
  (repeat' split at hx)
  all_goals first
   | (cases hx; done)
   | (obtain ⟨q,h1,h2⟩:=map_some4 hx; simp only [Prod.mk.injEq] at h2; obtain ⟨rfl,rfl,rfl,rfl⟩:=h2; simp_all; done)
   | (obtain ⟨rfl,rfl,rfl,rfl⟩:=some4 hx; simp_all; done)
 case convert t t2 y => 
  have hv1:=hv y (by simp)
  refine lat0 rfl ?_
  simp only [stepO,hv1] at hx ⊢
  (repeat' split at hx)
  all_goals first
   | (cases hx; done)
   | (obtain ⟨q,h1,h2⟩:=map_some4 hx; simp only [Prod.mk.injEq] at h2; obtain ⟨rfl,rfl,rfl,rfl⟩:=h2; simp_all; done)
   | (obtain ⟨rfl,rfl,rfl,rfl⟩:=some4 hx; simp_all; done)
 case fieldAddr t y f => 
  have hv1:=hv y (by simp)
  refine lat0 rfl ?_
  simp only [stepO,hv1] at hx ⊢
  (repeat' split at hx)
  all_goals first
   | (cases hx; done)
   | (obtain ⟨q,h1,h2⟩:=map_some4 hx; simp only [Prod.mk.injEq] at h2; obtain ⟨rfl,rfl,rfl,rfl⟩:=h2; simp_all; done)
   | (obtain ⟨rfl,rfl,rfl,rfl⟩:=some4 hx; simp_all; done)
 case extract y i => 
  have hv1:=hv y (by simp)
  refine lat0 rfl ?_
  simp only [stepO,hv1] at hx ⊢
  (repeat' split at hx)
  all_goals first
   | (cases hx; done)
   | (obtain ⟨q,h1,h2⟩:=map_some4 hx; simp only [Prod.mk.injEq] at h2; obtain ⟨rfl,rfl,rfl,rfl⟩:=h2; simp_all; done)
   | (obtain ⟨rfl,rfl,rfl,rfl⟩:=some4 hx; simp_all; done)
end
end Go.Sw
namespace Go.Sw
open Go.RowKit
mutual
theorem jk_comm (X Y : Nat → Bool) : ∀ x : SV,(x.jk X).jk Y = (x.jk Y).jk X
 | .agg cs=>by simp only [SV.jk,jks_comm X Y cs]
 | .tup cs=>by simp only [SV.jk,jks_comm X Y cs]
 | .clo f cs=>by simp only [SV.jk,jks_comm X Y cs]
 | .grd g x=>by simp only [SV.jk,jk_comm X Y x]
 | .ref i o=>by cases hX : X i <;> cases hY : Y i <;> simp [SV.jk,hX,hY]
 | .own i=>by cases hX : X i <;> cases hY : Y i <;> simp [SV.jk,hX,hY]
 | .eref i j o=>by cases hX : X i <;> cases hY : Y i <;> simp [SV.jk,hX,hY]
 | .sref i n=>by cases hX : X i <;> cases hY : Y i <;> simp [SV.jk,hX,hY]
 | .mp i=>by cases hX : X i <;> cases hY : Y i <;> simp [SV.jk,hX,hY]
 | .d x=>rfl
 | .nil=>rfl
 | .fptr x o=>rfl
 | .junk=>rfl
theorem jks_comm (X Y : Nat → Bool) : ∀ l : List SV,SV.jks Y (SV.jks X l) = SV.jks X (SV.jks Y l)
 | []=>rfl
 | x :: l=>by simp only [SV.jks,jk_comm X Y x,jks_comm X Y l]
end
theorem bjk_comm (X Y : Nat → Bool) (b : Box) : (b.jk X).jk Y = (b.jk Y).jk X:=by
 cases b with
 | cells cs=>simp only [Box.jk,jks_comm X Y cs]
 | row k L=>rfl
 | mp M=>rfl
theorem bjk_none (b : Box) : b.jk (fun _=>false) = b:=by
 cases b with
 | cells cs=>simp only [Box.jk,SV.jks_none]
 | row k L=>rfl
 | mp M=>rfl
mutual
def SV.fre (k : Nat) : SV → Bool
 | .agg cs=>SV.fres k cs
 | .tup cs=>SV.fres k cs
 | .clo _ cs=>SV.fres k cs
 | .grd _ x=>SV.fre k x
 | .ref i _ => !Nat.beq k i
 | .own i => !Nat.beq k i
 | .eref i _ _ => !Nat.beq k i
 | .sref i _ => !Nat.beq k i
 | .mp i => !Nat.beq k i
 | _=>true
def SV.fres (k : Nat) : List SV → Bool
 | []=>true
 | x :: l=>SV.fre k x && SV.fres k l
end
mutual
theorem fre_jk {k : Nat} : ∀ {x : SV},x.fre k = true → x.jk (Nat.beq k) = x
 | .agg cs,h=>by simp only [SV.fre] at h; simp only [SV.jk,fres_jk h]
 | .tup cs,h=>by simp only [SV.fre] at h; simp only [SV.jk,fres_jk h]
 | .clo f cs,h=>by simp only [SV.fre] at h; simp only [SV.jk,fres_jk h]
 | .grd g x,h=>by simp only [SV.fre] at h; simp only [SV.jk,fre_jk h]
 | .ref i o,h=>by simp only [SV.fre,Bool.not_eq_true'] at h; simp only [SV.jk,h,cond_false]
 | .own i,h=>by simp only [SV.fre,Bool.not_eq_true'] at h; simp only [SV.jk,h,cond_false]
 | .eref i j o,h=>by simp only [SV.fre,Bool.not_eq_true'] at h; simp only [SV.jk,h,cond_false]
 | .sref i n,h=>by simp only [SV.fre,Bool.not_eq_true'] at h; simp only [SV.jk,h,cond_false]
 | .mp i,h=>by simp only [SV.fre,Bool.not_eq_true'] at h; simp only [SV.jk,h,cond_false]
 | .d x,h=>rfl
 | .nil,h=>rfl
 | .fptr x o,h=>rfl
 | .junk,h=>rfl
theorem fres_jk {k : Nat} : ∀ {l : List SV},SV.fres k l = true → SV.jks (Nat.beq k) l = l
 | [],h=>rfl
 | x :: l,h=>by
  simp only [SV.fres,Bool.and_eq_true] at h
  simp only [SV.jks,fre_jk h.1,fres_jk h.2]
end
def Box.fre (k : Nat) : Box → Bool
 | .cells cs=>SV.fres k cs
 | .row _ _=>true
 | .mp _=>true
theorem bfre_jk {k : Nat} {b : Box} (h : b.fre k = true) : b.jk (Nat.beq k) = b:=by
 cases b with
 | cells cs=>simp only [Box.jk,fres_jk h]
 | row k L=>rfl
 | mp M=>rfl

def Eff.junks : Eff → Nat → Bool
 | .app i _=>Nat.beq i
 | _=>fun _=>false
def Eff.tgt (nm : Nat) : Eff → Option Nat
 | .none=>Option.none
 | .new _=>some nm
 | .set i _=>some i
 | .app i _=>some i
def Eff.box : Eff → Option Box
 | .none=>Option.none
 | .new b=>some b
 | .set _ b=>some b
 | .app _ b=>some b
theorem lk_env (F : Eff) (e : Env) (t : Nat) : lk t (F.env e) = (lk t e).map (SV.jk F.junks):=by
 cases F with
 | app i b=>exact lk_jkE _ t e
 | _ =>
  simp only [Eff.env,Eff.junks]
  cases lk t e <;> simp [SV.jk_none]
theorem lk_put {α : Type} (t u : Nat) (x : α) (e : List (Nat × α)) : lk u (put t x e) = if t = u then some x else lk u e:=by
 by_cases h : t = u
 · subst h; rw [if_pos rfl,lk_put_same]
 · rw [if_neg h,lk_put_ne _ (Ne.symm h)]
theorem lk_st (F : Eff) (nm : Nat) (s : St) (b : Nat) : lk b (F.st nm s) = if F.tgt nm = some b then F.box else (lk b s).map (Box.jk F.junks):=by
 have h0 : (lk b s).map (Box.jk fun _=>false) = lk b s:=by cases lk b s <;> simp [bjk_none]
 cases F with
 | none=>simp only [Eff.st,Eff.tgt,Eff.junks,h0]; rw [if_neg (by simp)]
 | new B =>
  simp only [Eff.st,Eff.tgt,Eff.junks,Eff.box,h0,lk]
  by_cases h : b = nm
  · subst h; simp
  · rw [beq_ne h,cond_false,if_neg (by simpa using Ne.symm h)]
 | set i B =>
  simp only [Eff.st,Eff.tgt,Eff.junks,Eff.box,h0,lk_put,Option.some.injEq]
 | app i B =>
  simp only [Eff.st,Eff.tgt,Eff.junks,Eff.box,lk_put,lk_jkS,Option.some.injEq]

structure Rec where
 X : SV
 F : Eff
instance : Inhabited Rec:=⟨⟨.junk,.none⟩⟩
def envD (ops : List Oper) (R : Nat → Rec) (D : Nat → Bool) (e0 : Env) : Nat → Env
 | 0=>e0
 | n + 1=>match ops[n]? with
  | some o=>bif D n then putO o.dst (R n).X ((R n).F.env (envD ops R D e0 n)) else envD ops R D e0 n
  | none=>envD ops R D e0 n
def stD (ops : List Oper) (R : Nat → Rec) (D : Nat → Bool) (base : Nat) (s0 : St) : Nat → St
 | 0=>s0
 | n + 1=>match ops[n]? with
  | some o=>bif D n then (R n).F.st (base + n) (stD ops R D base s0 n) else stD ops R D base s0 n
  | none=>stD ops R D base s0 n
def hndO (e : Env) (op : Op) : List Nat:=SV.hnds (opns (vals e op.operands.toList))

variable {ops : List Oper} {R : Nat → Rec} {D D' : Nat → Bool} {e0 : Env} {s0 : St} {base : Nat}
theorem envD_congr : ∀ n,(∀ j,j < n → D j = D' j) → envD ops R D e0 n = envD ops R D' e0 n
 | 0,_=>rfl
 | n + 1,h=>by
  unfold envD
  rw [envD_congr n fun j hj=>h j (by omega),h n (by omega)]
theorem stD_congr : ∀ n,(∀ j,j < n → D j = D' j) → stD ops R D base s0 n = stD ops R D' base s0 n
 | 0,_=>rfl
 | n + 1,h=>by
  unfold stD
  rw [stD_congr n fun j hj=>h j (by omega),h n (by omega)]
theorem envD_stop {i : Nat} : ∀ n,i ≤ n → (∀ j,i ≤ j → D j = false) → envD ops R D e0 n = envD ops R D e0 i
 | 0,hn,_=>by rw [show i = 0 by omega]
 | n + 1,hn,h=>by
  by_cases hi : i = n + 1
  · rw [hi]
  · rw [← envD_stop n (by omega) h]
    conv=>lhs; unfold envD
    rw [h n (by omega)]
    cases ops[n]? <;> rfl
theorem stD_stop {i : Nat} : ∀ n,i ≤ n → (∀ j,i ≤ j → D j = false) → stD ops R D base s0 n = stD ops R D base s0 i
 | 0,hn,_=>by rw [show i = 0 by omega]
 | n + 1,hn,h=>by
  by_cases hi : i = n + 1
  · rw [hi]
  · rw [← stD_stop n (by omega) h]
    conv=>lhs; unfold stD
    rw [h n (by omega)]
    cases ops[n]? <;> rfl

structure IndP (ops : List Oper) (R : Nat → Rec) (base : Nat) (e0 : Env) (s0 : St) (H : List Nat) (i j : Nat) (oi oj : Oper) : Prop where
 a : ∀ t,oj.dst = some t → t ∉ lksA ops oi
 b : ∀ t,oj.dst = some t → oi.dst ≠ some t
 c : (R j).X.jk (R i).F.junks = (R j).X
 d : ∀ B,(R j).F.box = some B → B.jk (R i).F.junks = B
 e : ∀ b,(R j).F.tgt (base + j) = some b → b ∉ H ∧ (R i).F.tgt (base + i) ≠ some b ∧ b ≠ base + i
 f : ∀ t ∈ lksA ops oi, ∀ x,lk t e0 = some x → x.jk (R j).F.junks = x
 g : ∀ m om t,ops[m]? = some om → om.dst = some t → t ∈ lksA ops oi → (R m).X.jk (R j).F.junks = (R m).X
 h : ∀ b ∈ H, ∀ B,lk b s0 = some B → B.jk (R j).F.junks = B
 k : ∀ m om b,ops[m]? = some om → (R m).F.tgt (base + m) = some b → b ∈ H → ∀ B,(R m).F.box = some B → B.jk (R j).F.junks = B

theorem fix_env {J : Nat → Bool} {T : List Tmp} (h0 : ∀ t ∈ T, ∀ x,lk t e0 = some x → x.jk J = x) (h1 : ∀ m om t,ops[m]? = some om → om.dst = some t → t ∈ T → (R m).X.jk J = (R m).X) :
 ∀ n, ∀ t ∈ T, ∀ x,lk t (envD ops R D e0 n) = some x → x.jk J = x
 | 0,t,ht,x,hx=>h0 t ht x hx
 | n + 1, t, ht,x,hx=>by
  unfold envD at hx
  cases ho : ops[n]? with
  | none=>rw [ho] at hx; exact fix_env h0 h1 n t ht x hx
  | some o =>
   rw [ho] at hx
   simp only at hx
   cases hD : D n with
   | false=>rw [hD] at hx; exact fix_env h0 h1 n t ht x hx
   | true =>
    rw [hD,cond_true,lk_putO] at hx
    split at hx
    · rename_i hd
      cases hx
      exact h1 n o t ho hd ht
    · rw [lk_env] at hx
      cases hl : lk t (envD ops R D e0 n) with
      | none=>rw [hl] at hx; cases hx
      | some y =>
       rw [hl] at hx
       cases hx
       rw [jk_comm,fix_env h0 h1 n t ht y hl]
theorem fix_st {J : Nat → Bool} {T : List Nat} (h0 : ∀ b ∈ T, ∀ B,lk b s0 = some B → B.jk J = B) (h1 : ∀ m om b,ops[m]? = some om → (R m).F.tgt (base + m) = some b → b ∈ T → ∀ B,(R m).F.box = some B → B.jk J = B) :
 ∀ n, ∀ b ∈ T, ∀ B,lk b (stD ops R D base s0 n) = some B → B.jk J = B
 | 0,t,ht,x,hx=>h0 t ht x hx
 | n + 1, t, ht,x,hx=>by
  unfold stD at hx
  cases ho : ops[n]? with
  | none=>rw [ho] at hx; exact fix_st h0 h1 n t ht x hx
  | some o =>
   rw [ho] at hx
   simp only at hx
   cases hD : D n with
   | false=>rw [hD] at hx; exact fix_st h0 h1 n t ht x hx
   | true =>
    rw [hD,cond_true,lk_st] at hx
    split at hx
    · rename_i hd
      exact h1 n o t ho hd ht x hx
    · cases hl : lk t (stD ops R D base s0 n) with
      | none=>rw [hl] at hx; cases hx
      | some y =>
       rw [hl] at hx
       cases hx
       rw [bjk_comm,fix_st h0 h1 n t ht y hl]
theorem view_env {H : List Nat} {i : Nat} {oi : Oper} (h : ∀ n on,ops[n]? = some on → D n ≠ D' n → IndP ops R base e0 s0 H i n oi on) :
 ∀ n, ∀ t ∈ lksA ops oi,lk t (envD ops R D e0 n) = lk t (envD ops R D' e0 n)
 | 0,t,ht=>rfl
 | n + 1,t,ht=>by
  have ih:=view_env h n t ht
  unfold envD
  cases ho : ops[n]? with
  | none=>exact ih
  | some o =>
   simp only
   have key : ∀ D'' : Nat → Bool,IndP ops R base e0 s0 H i n oi o → lk t (putO o.dst (R n).X ((R n).F.env (envD ops R D'' e0 n))) = lk t (envD ops R D'' e0 n):=fun D'' hi=>by
    rw [lk_putO,if_neg (fun hd=>hi.a t hd ht),lk_env]
    cases hl : lk t (envD ops R D'' e0 n) with
    | none=>rfl
    | some y=>simp only [Option.map_some]; rw [fix_env hi.f hi.g n t ht y hl]
   cases hD : D n <;> cases hD2 : D' n <;> simp only [cond_true,cond_false]
   · exact ih
   · rw [key D' (h n o ho (by rw [hD,hD2]; simp)),ih]
   · rw [key D (h n o ho (by rw [hD,hD2]; simp)),ih]
   · rw [lk_putO,lk_putO,lk_env,lk_env,ih]
theorem view_st {H : List Nat} {i : Nat} {oi : Oper} (h : ∀ n on,ops[n]? = some on → D n ≠ D' n → IndP ops R base e0 s0 H i n oi on) :
 ∀ n, ∀ t ∈ H,lk t (stD ops R D base s0 n) = lk t (stD ops R D' base s0 n)
 | 0,t,ht=>rfl
 | n + 1,t,ht=>by
  have ih:=view_st h n t ht
  unfold stD
  cases ho : ops[n]? with
  | none=>exact ih
  | some o =>
   simp only
   have key : ∀ D'' : Nat → Bool,IndP ops R base e0 s0 H i n oi o → lk t ((R n).F.st (base + n) (stD ops R D'' base s0 n)) = lk t (stD ops R D'' base s0 n):=fun D'' hi=>by
    rw [lk_st,if_neg (fun hd=>(hi.e t hd).1 ht)]
    cases hl : lk t (stD ops R D'' base s0 n) with
    | none=>rfl
    | some y=>simp only [Option.map_some]; rw [fix_st hi.h hi.k n t ht y hl]
   cases hD : D n <;> cases hD2 : D' n <;> simp only [cond_true,cond_false]
   · exact ih
   · rw [key D' (h n o ho (by rw [hD,hD2]; simp)),ih]
   · rw [key D (h n o ho (by rw [hD,hD2]; simp)),ih]
   · rw [lk_st,lk_st,ih]
theorem ins_env {H : Nat → List Nat} {i : Nat} {oi : Oper} (hoi : ops[i]? = some oi) (hDi : D i = false) (hD' : ∀ j,D' j = if j = i then true else D j)
 (h : ∀ n on,i < n → ops[n]? = some on → D n = true → IndP ops R base e0 s0 (H i) i n oi on ∧ IndP ops R base e0 s0 (H n) n i on oi) (t : Nat) :
 ∀ n,i < n → lk t (envD ops R D' e0 n) = lk t (putO oi.dst (R i).X ((R i).F.env (envD ops R D e0 n)))
 | 0,hn=>by omega
 | n + 1, hn => by
  by_cases hni : n = i
  · subst hni
    have h1 : envD ops R D' e0 n = envD ops R D e0 n:=envD_congr n fun j hj=>by rw [hD',if_neg (by omega)]
    unfold envD
    rw [hoi]
    simp only [hD' n,if_true,cond_true,hDi,cond_false,h1]
  · have ih := ins_env hoi hDi hD' h t n (by omega)
    unfold envD
    cases ho : ops[n]? with
    | none=>exact ih
    | some o =>
     simp only [hD' n,if_neg hni]
     cases hD : D n with
     | false=>exact ih
     | true =>
      obtain ⟨g1,g2⟩:=h n o (by omega) ho hD
      simp only [cond_true]
      rw [lk_putO,lk_env,ih,lk_putO,lk_env,lk_putO,lk_env,lk_putO,lk_env]
      by_cases ht : o.dst = some t
      · rw [if_pos ht,if_pos ht,if_neg (g1.b t ht)]
        simp only [Option.map_some,g1.c]
      · rw [if_neg ht,if_neg ht]
        by_cases hti : oi.dst = some t
        · rw [if_pos hti,if_pos hti]
          simp only [Option.map_some,g2.c]
        · rw [if_neg hti,if_neg hti]
          cases lk t (envD ops R D e0 n) with
          | none=>rfl
          | some y=>simp only [Option.map_some,jk_comm]
theorem ins_st {H : Nat → List Nat} {i : Nat} {oi : Oper} (hoi : ops[i]? = some oi) (hDi : D i = false) (hD' : ∀ j,D' j = if j = i then true else D j)
 (h : ∀ n on,i < n → ops[n]? = some on → D n = true → IndP ops R base e0 s0 (H i) i n oi on ∧ IndP ops R base e0 s0 (H n) n i on oi) (t : Nat) :
 ∀ n,i < n → lk t (stD ops R D' base s0 n) = lk t ((R i).F.st (base + i) (stD ops R D base s0 n))
 | 0,hn=>by omega
 | n + 1, hn => by
  by_cases hni : n = i
  · subst hni
    have h1 : stD ops R D' base s0 n = stD ops R D base s0 n:=stD_congr n fun j hj=>by rw [hD',if_neg (by omega)]
    unfold stD
    rw [hoi]
    simp only [hD' n,if_true,cond_true,hDi,cond_false,h1]
  · have ih := ins_st hoi hDi hD' h t n (by omega)
    unfold stD
    cases ho : ops[n]? with
    | none=>exact ih
    | some o =>
     simp only [hD' n,if_neg hni]
     cases hD : D n with
     | false=>exact ih
     | true =>
      obtain ⟨g1,g2⟩:=h n o (by omega) ho hD
      simp only [cond_true]
      rw [lk_st,ih,lk_st,lk_st,lk_st]
      by_cases ht : (R n).F.tgt (base + n) = some t
      · rw [if_pos ht,if_pos ht,if_neg (g1.e t ht).2.1]
        cases hb : (R n).F.box with
        | none=>rfl
        | some B=>simp only [Option.map_some,g1.d B hb]
      · rw [if_neg ht,if_neg ht]
        by_cases hti : (R i).F.tgt (base + i) = some t
        · rw [if_pos hti,if_pos hti]
          cases hb : (R i).F.box with
          | none=>rfl
          | some B=>simp only [Option.map_some,g2.d B hb]
        · rw [if_neg hti,if_neg hti]
          cases lk t (stD ops R D base s0 n) with
          | none=>rfl
          | some y=>simp only [Option.map_some,bjk_comm]
theorem fresh_st {b : Nat} (h0 : lk b s0 = none) (h : ∀ n on,ops[n]? = some on → D n = true → (R n).F.tgt (base + n) ≠ some b) : ∀ n,lk b (stD ops R D base s0 n) = none
 | 0=>h0
 | n + 1=>by
  have ih:=fresh_st h0 h n
  unfold stD
  cases ho : ops[n]? with
  | none=>exact ih
  | some o =>
   simp only
   cases hD : D n with
   | false=>exact ih
   | true=>rw [cond_true,lk_st,if_neg (h n o ho hD),ih]; rfl
end Go.Sw
namespace Go.Sw
open Go.RowKit
section
variable {P : Program} {N : Nat} {Γ : Gl} {C : Cx P N Γ}
variable {ops : List Oper} {R : Nat → Rec} {D D' : Nat → Bool} {e0 : Env} {s0 : St} {base : Nat}
def yes : Nat → Bool:=fun _=>true
def edgesB (ops : List Oper) : Bool:=(List.range ops.length).all fun i=>match ops[i]? with
 | some o=>o.after.toList.all fun e => !Region.binds .any e || Nat.blt e.on i
 | none=>true
def freF (k : Nat) (F : Eff) : Bool:=match F.box with | some B=>B.fre k | none=>true
def indB (ops : List Oper) (R : Nat → Rec) (base : Nat) (e0 : Env) (s0 : St) (H : List Nat) (i j : Nat) (oi oj : Oper) : Bool :=
 (match oj.dst with | none=>true | some t => !(lksA ops oi).contains t && !(oi.dst == some t)) &&
 (match (R i).F with | .app k _=>(R j).X.fre k && freF k (R j).F | _=>true) &&
 (match (R j).F.tgt (base + j) with | none=>true | some b => !H.contains b && !((R i).F.tgt (base + i) == some b) && !Nat.beq b (base + i)) &&
 (match (R j).F with
  | .app k _=>((lksA ops oi).all fun t=>match lk t e0 with | some x=>x.fre k | none=>true) &&
   (H.all fun b=>match lk b s0 with | some B=>B.fre k | none=>true) &&
   ((List.range ops.length).all fun m=>match ops[m]? with
     | some om=>(match om.dst with | some t => !(lksA ops oi).contains t || (R m).X.fre k | none=>true) &&
      (match (R m).F.tgt (base + m) with | some b => !H.contains b || freF k (R m).F | none=>true)
     | none=>true)
  | _=>true)
def HH (ops : List Oper) (R : Nat → Rec) (e0 : Env) (i : Nat) (oi : Oper) : List Nat:=hndO (envD ops R yes e0 i) oi.op
def chkW (ops : List Oper) (base : Nat) (e0 : Env) (s0 : St) (R : Nat → Rec) : Bool :=
 (List.range ops.length).all fun i=>match ops[i]? with
  | some oi=>(List.range ops.length).all fun j=>match ops[j]? with
   | some oj=>Nat.beq i j || ((!Nat.blt j i || !((R j).F.tgt (base + j) == some (base + i))) && (reach ops ops.length i j || reach ops ops.length j i || indB ops R base e0 s0 (HH ops R e0 i oi) i j oi oj))
   | none=>true
  | none=>true
theorem bjk_of_fre {F : Eff} {B : Box} (h : (match F with | .app k _=>B.fre k | _=>true) = true) : B.jk F.junks = B:=by
 cases F with
 | app k b=>exact bfre_jk h
 | _=>exact bjk_none B
theorem indB_spec {H : List Nat} {i j : Nat} {oi oj : Oper} (h : indB ops R base e0 s0 H i j oi oj = true) : IndP ops R base e0 s0 H i j oi oj:=by
 unfold indB at h
 simp only [Bool.and_eq_true] at h
 obtain ⟨⟨⟨h1,h2⟩,h3⟩,h4⟩:=h
 have a1 : ∀ t,oj.dst = some t → t ∉ lksA ops oi ∧ oi.dst ≠ some t:=fun t ht=>by
  rw [ht] at h1
  simp only [Bool.and_eq_true,Bool.not_eq_true'] at h1
  refine ⟨fun hm=>?_,fun hd=>?_⟩
  · rw [List.contains_iff_mem.2 hm] at h1; cases h1.1
  · rw [hd] at h1; simp at h1
 have a2 : (R j).X.jk (R i).F.junks = (R j).X ∧ ∀ B,(R j).F.box = some B → B.jk (R i).F.junks = B:=by
  cases hF : (R i).F with
  | app k b =>
   rw [hF] at h2
   simp only [Bool.and_eq_true] at h2
   refine ⟨fre_jk h2.1,fun B hB=>?_⟩
   have:=h2.2
   unfold freF at this
   rw [hB] at this
   exact bfre_jk this
  | _=>exact ⟨SV.jk_none _,fun B _=>bjk_none B⟩
 have a3 : ∀ b,(R j).F.tgt (base + j) = some b → b ∉ H ∧ (R i).F.tgt (base + i) ≠ some b ∧ b ≠ base + i:=fun b hb=>by
  rw [hb] at h3
  simp only [Bool.and_eq_true,Bool.not_eq_true'] at h3
  refine ⟨fun hm=>?_,fun hd=>?_,fun hd=>?_⟩
  · rw [List.contains_iff_mem.2 hm] at h3; cases h3.1.1
  · rw [hd] at h3; simp at h3
  · rw [hd] at h3; simp at h3
 cases hF : (R j).F with
 | app k b =>
  rw [hF] at h4
  simp only [Bool.and_eq_true] at h4
  obtain ⟨⟨h4,h5⟩,h6⟩:=h4
  have g6 : ∀ m om,ops[m]? = some om → (∀ t,om.dst = some t → t ∈ lksA ops oi → (R m).X.fre k = true) ∧ (∀ b,(R m).F.tgt (base + m) = some b → b ∈ H → freF k (R m).F = true):=fun m om hm=>by
   have:=List.all_eq_true.1 h6 m (List.mem_range.2 (List.getElem?_eq_some_iff.1 hm).1)
   rw [hm] at this
   simp only [Bool.and_eq_true] at this
   refine ⟨fun t ht hmem=>?_,fun b hb hmem=>?_⟩
   · have h7:=this.1
     rw [ht] at h7
     simp only [Bool.or_eq_true,Bool.not_eq_true'] at h7
     rcases h7 with h7 | h7
     · rw [List.contains_iff_mem.2 hmem] at h7; cases h7
     · exact h7
   · have h7:=this.2
     rw [hb] at h7
     simp only [Bool.or_eq_true,Bool.not_eq_true'] at h7
     rcases h7 with h7 | h7
     · rw [List.contains_iff_mem.2 hmem] at h7; cases h7
     · exact h7
  refine ⟨fun t ht=>(a1 t ht).1,fun t ht=>(a1 t ht).2,a2.1,a2.2,a3,fun t ht x hx=>?_,fun m om t hm hd ht=>?_,fun b hb B hB=>?_,fun m om b hm hb hmem B hB=>?_⟩
  · rw [hF]
    have:=List.all_eq_true.1 h4 t ht
    rw [hx] at this
    exact fre_jk this
  · rw [hF]; exact fre_jk ((g6 m om hm).1 t hd ht)
  · rw [hF]
    have:=List.all_eq_true.1 h5 b hb
    rw [hB] at this
    exact bfre_jk this
  · rw [hF]
    have:=(g6 m om hm).2 b hb hmem
    unfold freF at this
    rw [hB] at this
    exact bfre_jk this
 | _=>exact ⟨fun t ht=>(a1 t ht).1,fun t ht=>(a1 t ht).2,a2.1,a2.2,a3,fun t ht x hx=>by rw [hF]; exact SV.jk_none x,fun m om t hm hd ht=>by rw [hF]; exact SV.jk_none _,fun b hb B hB=>by rw [hF]; exact bjk_none B,fun m om b hm hb hmem B hB=>by rw [hF]; exact bjk_none B⟩
theorem chkW_spec (h : chkW ops base e0 s0 R = true) {i j : Nat} {oi oj : Oper} (hi : ops[i]? = some oi) (hj : ops[j]? = some oj) (hne : i ≠ j) :
 (j < i → (R j).F.tgt (base + j) ≠ some (base + i)) ∧ (reach ops ops.length i j = false → reach ops ops.length j i = false → IndP ops R base e0 s0 (HH ops R e0 i oi) i j oi oj):=by
 have h1:=List.all_eq_true.1 h i (List.mem_range.2 (List.getElem?_eq_some_iff.1 hi).1)
 rw [hi] at h1
 have h2:=List.all_eq_true.1 h1 j (List.mem_range.2 (List.getElem?_eq_some_iff.1 hj).1)
 rw [hj] at h2
 simp only [Bool.or_eq_true,Bool.and_eq_true,Bool.not_eq_true'] at h2
 rcases h2 with h2 | h2
 · exact absurd (Nat.eq_of_beq_eq_true h2) hne
 · refine ⟨fun hlt hd=>?_,fun r1 r2=>?_⟩
   · rcases h2.1 with h3 | h3
     · rw [blt_iff.2 hlt] at h3; cases h3
     · rw [hd] at h3; simp at h3
   · rcases h2.2 with (h3 | h3) | h3
     · rw [r1] at h3; cases h3
     · rw [r2] at h3; cases h3
     · exact indB_spec h3
theorem edgesB_spec (h : edgesB ops = true) {i : Nat} {o : Oper} (ho : ops[i]? = some o) : ∀ e ∈ o.after,Region.binds .any e = true → e.on < i:=fun e he hb=>by
 have h1:=List.all_eq_true.1 h i (List.mem_range.2 (List.getElem?_eq_some_iff.1 ho).1)
 rw [ho] at h1
 have:=List.all_eq_true.1 h1 e (by simpa using he)
 simp only [hb,Bool.not_true,Bool.false_or] at this
 exact blt_iff.1 this
theorem reach_lt (h : edgesB ops = true) : ∀ n j i,reach ops n j i = true → i < j
 | 0,j,i,hr=>by simp [reach] at hr
 | n + 1,j,i,hr=>by
  unfold reach at hr
  split at hr
  · rename_i o ho
    obtain ⟨e,he,h2⟩:=List.any_eq_true.1 hr
    simp only [Bool.and_eq_true,Bool.or_eq_true] at h2
    have hl:=edgesB_spec h ho e (by simpa using he) h2.1
    rcases h2.2 with h3 | h3
    · rw [← Nat.eq_of_beq_eq_true h3]; exact hl
    · exact Nat.lt_trans (reach_lt h n _ _ h3) hl
  · cases hr

structure AnsW where
 d : Ans
 r : List (Nat × (Nat × List Go.Sw.D))
def callR (P : Program) (Γ : Gl) (g : Bool) (k : Nat) (L : List Go.Sw.D) (op : Op) (e : Env) (s : St) : Option Prop :=
 match op with
 | .call c=>match c.callee with
  | .value (.func f)=>match SV.toDs s (opns (vals e c.args.toList)) with
   | some ds=>some (oks g (vals e c.args.toList) ∧ SV.ownss (opns (vals e c.args.toList)) = [] ∧ g = true ∧ SFn P Γ f (ds.map .d) [] (.own 0) [(0,.row k L)])
   | none=>none
  | _=>none
 | _=>none
def stepW (P : Program) (Γ : Gl) (ans : AnsW) (i : Nat) (g : Bool) (o : Oper) (e : Env) (s : St) (nm : Nat) : Option (Prop × SV × Eff) :=
 match lk i ans.r with
 | some kl=>(callR P Γ g kl.1 kl.2 o.op e s).map fun p=>(p,.own nm,.new (.row kl.1 kl.2))
 | none=>match lk i ans.d with
 | some ret=>(callA P Γ g ret o.op e s).map fun r=>(r.1,r.2,.none)
 | none=>bif pureOp o.op || writeOp o.op then match stepO P g o e s nm with
  | some (p,x,_,s1)=>(effO o.op e x s s1 nm).map fun F=>(p,x,F)
  | none=>none else none
theorem callA_lat {g : Bool} {ret : Go.Sw.D} {op : Op} {e e' : Env} {s s' : St} {q : Prop × SV} (hv : ∀ y ∈ op.operands.toList,val e' y = val e y) (hs : ∀ y ∈ op.operands.toList,SameH (opn (val e y)) s s')
 (h : callA P Γ g ret op e s = some q) : callA P Γ g ret op e' s' = some q:=by
 unfold callA at h ⊢
 split at h
 · rename_i c
   obtain ⟨cl,args,ats⟩:=c
   simp only [Op.operands,Call.operands] at hv hs h ⊢
   split at h
   · rename_i f
     have hva : vals e' args.toList = vals e args.toList:=vals_env fun z hz=>hv z (by simp at hz ⊢; exact .inr hz)
     simp only [hva]
     cases hd : SV.toDs s (opns (vals e args.toList)) with
     | none=>rw [hd] at h; cases h
     | some ds =>
      rw [hd] at h
      rw [toDs_lat (fun b hb B hB=>by
       obtain ⟨y,hy,hb'⟩:=hnds_vals hb
       exact hs y (by simp at hy ⊢; exact .inr hy) b hb' B hB) hd]
      exact h
   · cases h
 · rename_i t x
   cases x <;> first | exact h | cases h
 · cases h
theorem callR_lat {g : Bool} {k : Nat} {L : List Go.Sw.D} {op : Op} {e e' : Env} {s s' : St} {q : Prop} (hv : ∀ y ∈ op.operands.toList,val e' y = val e y) (hs : ∀ y ∈ op.operands.toList,SameH (opn (val e y)) s s')
 (h : callR P Γ g k L op e s = some q) : callR P Γ g k L op e' s' = some q:=by
 unfold callR at h ⊢
 split at h
 · rename_i c
   obtain ⟨cl,args,ats⟩:=c
   simp only [Op.operands,Call.operands] at hv hs h ⊢
   split at h
   · rename_i f
     have hva : vals e' args.toList = vals e args.toList:=vals_env fun z hz=>hv z (by simp at hz ⊢; exact .inr hz)
     simp only [hva]
     cases hd : SV.toDs s (opns (vals e args.toList)) with
     | none=>rw [hd] at h; cases h
     | some ds =>
      rw [hd] at h
      rw [toDs_lat (fun b hb B hB=>by
       obtain ⟨y,hy,hb'⟩:=hnds_vals hb
       exact hs y (by simp at hy ⊢; exact .inr hy) b hb' B hB) hd]
      exact h
   · cases h
 · cases h
theorem argF_of {sc : St} : ∀ {l : List SV} {ds : List Go.Sw.D},SV.toDs sc l = some ds → SV.ownss l = [] → argF sc [] l (ds.map .d)
 | [],ds,h,_=>by
  simp only [SV.toDs,Option.some.injEq] at h
  subst h; trivial
 | x :: l,ds,h,ho=>by
  simp only [SV.toDs] at h
  simp only [SV.ownss,List.append_eq_nil_iff] at ho
  cases h1 : SV.toD sc x with
  | none=>rw [h1] at h; simp at h
  | some d1 =>
   cases h2 : SV.toDs sc l with
   | none=>rw [h1,h2] at h; simp at h
   | some d2 =>
    rw [h1,h2] at h
    simp only [Option.some.injEq] at h
    subst h
    exact ⟨⟨h1,ho.1⟩,argF_of h2 ho.2⟩
theorem rens_d {σ : Nat → Nat} : ∀ l : List Go.Sw.D,SV.rens σ (l.map SV.d) = l.map SV.d
 | []=>rfl
 | x :: l=>by simp only [List.map_cons,SV.rens,SV.ren,rens_d l]
theorem callR_ok {k : Nat} {L : List Go.Sw.D} {o : Oper} {e : Env} {s : St} {nm : Nat} {p : Prop} (ho : o.op.operands.toList.all opdOK = true) (hn : lk nm s = none) (h : callR P Γ true k L o.op e s = some p) (hp : p) {β : Nat → Value} {a : Act} {w : World} (inv : InvB C β e s a w)
 (K : Act → World → Prop) (Q : Exit → Act → World → Prop) (hK : ∀ β' v w',InvB C β' e ((nm,.row k L) :: s) a w' → Rp w' C.F β' ((nm,.row k L) :: s) (.s (.own nm) v) → K (a.put o.dst v) w') : o.wp P a w K Q:=by
 obtain ⟨dst,op,ty,pos,af,gd⟩:=o
 cases op with
 | call c =>
  obtain ⟨cl,args,ats⟩:=c
  simp only [callR] at h
  cases cl with
  | value y =>
   cases y with
   | func f =>
    simp only at h
    split at h
    · rename_i ds hds
      simp only [Option.some.injEq] at h
      subst h
      obtain ⟨h1,h2, -,h3⟩:=hp
      have ha : args.toList.all opdOK = true:=by
       simp only [Op.operands,Call.operands,Array.toList_append,List.all_append,Bool.and_eq_true] at ho
       exact ho.2
      have h4:=SFn.up nm h3
      rw [rens_d] at h4
      simp only [renS,SV.ren,Box.ren,Nat.zero_add] at h4
      unfold Oper.wp
      rw [run_call h3.1]
      refine (callS_ok inv (s:=[]) trivial trivial (show sameD s [] [(nm,Box.row k L)] from ⟨by rw [hn]; rfl,trivial⟩) (oks_rp inv args.toList ha h1) (argF_of hds h2) h4).mono ?_
      rintro en w' ⟨v, β',rfl,inv',hr⟩
      have hX : (inX (rowsOf [])) = fun _=>false:=by funext i; rfl
      rw [hX] at inv' hr
      have hlk : ∀ i,lk i ((nm,Box.row k L) :: s) = lk i (mrg [(nm,Box.row k L)] (jkS (fun _=>false) s)):=fun i=>by
       rw [lk_mrg]
       by_cases hi : i = nm
       · subst hi; rw [lk_cons_same,lk_cons_same]
       · rw [lk_cons_ne hi,lk_cons_ne hi,lk_jkS]
         cases hl : lk i s with
         | none=>rfl
         | some b=>simp [lk,bjk_none]
      have inv2:=inv'.same hlk
      refine hK β' v w' (inv2.withEnv inv2.size inv2.defers fun t x hx=>inv2.env t x ?_) (Rp.keep0 (ext_same hlk) hr)
      rw [lk_jkE,hx]
      simp [SV.jk_none]
    · cases h
   | _=>cases h
  | _=>cases h
 | _=>cases h
theorem stepW_ok {ans : AnsW} {i : Nat} {o : Oper} {e e' : Env} {s s' : St} {nm : Nat} {p : Prop} {x : SV} {F : Eff} (ho : o.op.operands.toList.all opdOK = true) (hn : lk nm s = none) (hn' : lk nm s' = none)
 (hv : ∀ y ∈ o.op.operands.toList,val e' y = val e y) (hs : ∀ y ∈ o.op.operands.toList,SameH (opn (val e y)) s s')
 (h : stepW P Γ ans i true o e s nm = some (p,x,F)) (hp : p) {β : Nat → Value} {a : Act} {w : World} (inv : InvB C β e' s' a w)
 (K : Act → World → Prop) (Q : Exit → Act → World → Prop) (hK : ∀ β' v w',InvB C β' (F.env e') (F.st nm s') a w' → Rp w' C.F β' (F.st nm s') (.s x v) → K (a.put o.dst v) w') : o.wp P a w K Q:=by
 unfold stepW at h
 split at h
 · rename_i kl hr
   obtain ⟨q,h1,h2⟩:=Option.map_eq_some_iff.1 h
   simp only [Prod.mk.injEq] at h2
   obtain ⟨rfl,rfl,rfl⟩:=h2
   exact callR_ok ho hn' (callR_lat hv hs h1) hp inv K Q hK
 rename_i hr0
 split at h
 · rename_i ret hr
   obtain ⟨q,h1,h2⟩:=Option.map_eq_some_iff.1 h
   simp only [Prod.mk.injEq] at h2
   obtain ⟨rfl,rfl,rfl⟩:=h2
   have h3:=callA_lat hv hs h1
   have h4 : stepA P Γ ans.d i true o e' s' = some (q.1,q.2):=by unfold stepA; rw [hr]; exact h3
   exact stepA_ok ho h4 hp inv K Q fun v w' hb hrp=>hK β v w' (inv.grow hb) hrp
 · cases hw : (pureOp o.op || writeOp o.op) with
   | false=>rw [hw] at h; cases h
   | true =>
    rw [hw,cond_true] at h
    split at h
    · rename_i p' x' e1 s1 hst
      obtain ⟨F',h1,h2⟩:=Option.map_eq_some_iff.1 h
      simp only [Prod.mk.injEq] at h2
      obtain ⟨rfl,rfl,rfl⟩:=h2
      obtain ⟨F2,g1, -,g3⟩:=stepO_lat hn hw hv hs hst
      rw [h1] at g1
      cases g1
      exact stepN_ok hn' ho g3 hp β a w inv K Q fun β' v w' inv' _ hrp=>hK β' v w' inv' hrp
    · cases h
theorem stepW_idle {ans : AnsW} {i : Nat} {o : Oper} {e : Env} {s : St} {nm : Nat} {p : Prop} {x : SV} {F : Eff} (hn : lk nm s = none) (h : stepW P Γ ans i false o e s nm = some (p,x,F)) (hp : p) : F = .none:=by
 unfold stepW at h
 split at h
 · obtain ⟨q,h1,h2⟩:=Option.map_eq_some_iff.1 h
   simp only [Prod.mk.injEq] at h2
   obtain ⟨rfl, -, -⟩:=h2
   unfold callR at h1
   (repeat' split at h1)
   all_goals first
    | (cases h1; done)
    | (simp only [Option.some.injEq] at h1; subst h1; exact absurd hp.2.2.1 (by simp))
 split at h
 · obtain ⟨q,h1,h2⟩:=Option.map_eq_some_iff.1 h
   simp only [Prod.mk.injEq] at h2
   exact h2.2.2.symm
 · cases hw : (pureOp o.op || writeOp o.op) with
   | false=>rw [hw] at h; cases h
   | true =>
    rw [hw,cond_true] at h
    split at h
    · rename_i p' x' e1 s1 hst
      obtain ⟨F',h1,h2⟩:=Option.map_eq_some_iff.1 h
      simp only [Prod.mk.injEq] at h2
      obtain ⟨rfl,rfl,rfl⟩:=h2
      obtain ⟨F2,g1,g2, -⟩:=stepO_lat (e':=e) (s':=s) hn hw (fun _ _=>rfl) (fun _ _ _ _ _ h=>h) hst
      rw [h1] at g1
      cases g1
      exact (g2 hp).resolve_left (by simp)
    · cases h
def StepV (P : Program) (Γ : Gl) (ans : AnsW) (ops : List Oper) (base i : Nat) (o : Oper) (e : Env) (s : St) (r : Rec) : Prop :=
 match o.guard with
 | none => ∃ p,stepW P Γ ans i true o e s (base + i) = some (p,r.X,r.F) ∧ p
 | some (j,want) => ∃ g p x,gVal e ops j want = some g ∧ stepW P Γ ans i g o e s (base + i) = some (p,x,r.F) ∧ p ∧ r.X = .grd g x
def RL (acc : List Rec) (n : Nat) : Rec:=(acc[n]?).getD default
def vcW (P : Program) (Γ : Gl) (ans : AnsW) (ops : List Oper) (base : Nat) (fin : (Nat → Rec) → Bool) : Nat → List Oper → Env → St → List Rec → (Exit → Env → St → Prop) → Prop
 | _,[],e,s,acc,K=>fin (RL acc) = true ∧ K .normal e s
 | i, o :: rest,e,s,acc,K=>match o.guard with
  | none=>match stepW P Γ ans i true o e s (base + i) with
   | some (p,x,F)=>p ∧ vcW P Γ ans ops base fin (i + 1) rest (putO o.dst x (F.env e)) (F.st (base + i) s) (acc ++ [⟨x,F⟩]) K
   | none=>False
  | some (j,want)=>match gVal e ops j want with
   | some g=>match stepW P Γ ans i g o e s (base + i) with
    | some (p,x,F)=>p ∧ vcW P Γ ans ops base fin (i + 1) rest (putO o.dst (.grd g x) (F.env e)) (F.st (base + i) s) (acc ++ [⟨.grd g x,F⟩]) K
    | none=>False
   | none=>False
theorem envD_congrR {R' : Nat → Rec} : ∀ n,(∀ j,j < n → R j = R' j) → envD ops R D e0 n = envD ops R' D e0 n
 | 0,_=>rfl
 | n + 1,h=>by
  unfold envD
  rw [envD_congrR n fun j hj=>h j (by omega),h n (by omega)]
theorem stD_congrR {R' : Nat → Rec} : ∀ n,(∀ j,j < n → R j = R' j) → stD ops R D base s0 n = stD ops R' D base s0 n
 | 0,_=>rfl
 | n + 1,h=>by
  unfold stD
  rw [stD_congrR n fun j hj=>h j (by omega),h n (by omega)]
theorem envD_end : ∀ n,ops.length ≤ n → envD ops R D e0 n = envD ops R D e0 ops.length
 | 0,hn=>by rw [show ops.length = 0 by omega]
 | n + 1,hn=>by
  by_cases hi : ops.length = n + 1
  · rw [hi]
  · rw [← envD_end n (by omega)]
    conv=>lhs; unfold envD
    rw [List.getElem?_eq_none (show ops.length ≤ n by omega)]
theorem stD_end : ∀ n,ops.length ≤ n → stD ops R D base s0 n = stD ops R D base s0 ops.length
 | 0,hn=>by rw [show ops.length = 0 by omega]
 | n + 1,hn=>by
  by_cases hi : ops.length = n + 1
  · rw [hi]
  · rw [← stD_end n (by omega)]
    conv=>lhs; unfold stD
    rw [List.getElem?_eq_none (show ops.length ≤ n by omega)]
theorem RL_app {acc : List Rec} {r : Rec} {j : Nat} (h : j < acc.length) : RL (acc ++ [r]) j = RL acc j:=by
 unfold RL
 rw [List.getElem?_append_left h]
theorem RL_last {acc : List Rec} {r : Rec} : RL (acc ++ [r]) acc.length = r:=by
 simp [RL]
theorem vcW_run {ans : AnsW} {fin : (Nat → Rec) → Bool} {K : Exit → Env → St → Prop} : ∀ (l : List Oper) (i : Nat) (acc : List Rec),acc.length = i → (∀ j,l[j]? = ops[i + j]?) →
 vcW P Γ ans ops base fin i l (envD ops (RL acc) yes e0 i) (stD ops (RL acc) yes base s0 i) acc K →
 ∃ R : Nat → Rec,(∀ j,j < i → R j = RL acc j) ∧ (∀ j o,i ≤ j → ops[j]? = some o → StepV P Γ ans ops base j o (envD ops R yes e0 j) (stD ops R yes base s0 j) (R j)) ∧ fin R = true ∧
   K .normal (envD ops R yes e0 ops.length) (stD ops R yes base s0 ops.length)
 | [], i,acc,ha,hl,h=>by
  have hlen : ops.length ≤ i:=by
   have:=hl 0
   simpa using this.symm
  refine ⟨RL acc,fun _ _=>rfl,(fun j o hj ho=>?_),h.1,?_⟩
  · have:=(List.getElem?_eq_some_iff.1 ho).1
    omega
  · rw [← envD_end i hlen, ← stD_end i hlen]; exact h.2
 | o :: rest,i,acc,ha,hl,h=>by
  have ho : ops[i]? = some o:=by simpa using (hl 0).symm
  have hl' : ∀ j,rest[j]? = ops[i + 1 + j]? := fun j=>by have:=hl (j + 1); simpa [Nat.add_assoc,Nat.add_comm 1 j] using this
  have step : ∀ r : Rec,StepV P Γ ans ops base i o (envD ops (RL acc) yes e0 i) (stD ops (RL acc) yes base s0 i) r →
   vcW P Γ ans ops base fin (i + 1) rest (putO o.dst r.X (r.F.env (envD ops (RL acc) yes e0 i))) (r.F.st (base + i) (stD ops (RL acc) yes base s0 i)) (acc ++ [r]) K →
   ∃ R : Nat → Rec,(∀ j,j < i → R j = RL acc j) ∧ (∀ j o,i ≤ j → ops[j]? = some o → StepV P Γ ans ops base j o (envD ops R yes e0 j) (stD ops R yes base s0 j) (R j)) ∧ fin R = true ∧
     K .normal (envD ops R yes e0 ops.length) (stD ops R yes base s0 ops.length):=fun r hr hrest=>by
   have hlast : RL (acc ++ [r]) i = r:=by rw [← ha]; exact RL_last
   have hz1 : envD ops (RL (acc ++ [r])) yes e0 (i + 1) = putO o.dst r.X (r.F.env (envD ops (RL acc) yes e0 i)):=by
    conv=>lhs; unfold envD
    rw [ho]
    simp only [yes,cond_true,hlast]
    rw [envD_congrR (R':=RL acc) i fun j hj=>RL_app (by omega)]
   have hz2 : stD ops (RL (acc ++ [r])) yes base s0 (i + 1) = r.F.st (base + i) (stD ops (RL acc) yes base s0 i):=by
    conv=>lhs; unfold stD
    rw [ho]
    simp only [yes,cond_true,hlast]
    rw [stD_congrR (R':=RL acc) i fun j hj=>RL_app (by omega)]
   obtain ⟨R,h1,h2,h3,h4⟩:=vcW_run rest (i + 1) (acc ++ [r]) (by simp [ha]) hl' (by rw [hz1,hz2]; exact hrest)
   have hR : ∀ j,j < i → R j = RL acc j:=fun j hj=>by rw [h1 j (by omega)]; exact RL_app (by omega)
   refine ⟨R,hR,fun j o' hj ho'=>?_,h3,h4⟩
   by_cases hji : j = i
   · subst hji
     rw [ho] at ho'
     cases ho'
     rw [envD_congrR j hR,stD_congrR j hR,h1 j (by omega),hlast]
     exact hr
   · exact h2 j o' (by omega) ho'
  unfold vcW at h
  split at h
  · rename_i hg
    split at h
    · rename_i p x F hs
      exact step ⟨x,F⟩ (by unfold StepV; rw [hg]; exact ⟨p,hs,h.1⟩) h.2
    · exact h.elim
  · rename_i j want hg
    split at h
    · rename_i g hv
      split at h
      · rename_i p x F hs
        exact step ⟨.grd g x,F⟩ (by unfold StepV; rw [hg]; exact ⟨g,p,x,hv,hs,h.1,rfl⟩) h.2
      · exact h.elim
    · exact h.elim
theorem val_lk {e e' : Env} {T : List Tmp} (h : ∀ t ∈ T,lk t e' = lk t e) {y : Operand} (hy : ∀ t,y = .tmp t → t ∈ T) : val e' y = val e y:=by
 cases y with
 | tmp t=>simp only [val,h t (hy t rfl)]
 | _=>rfl
theorem looks_opd {o : Oper} {y : Operand} (hy : y ∈ o.op.operands.toList) {t : Tmp} (h : y = .tmp t) : t ∈ lksA ops o:=by
 subst h
 simp only [lksA,Oper.looksAt,List.mem_append,List.mem_filterMap]
 exact .inl ⟨_,hy,rfl⟩
theorem gVal_lk {e e' : Env} {o : Oper} {j : Nat} {want : Bool} (hg : o.guard = some (j,want)) (h : ∀ t ∈ lksA ops o,lk t e' = lk t e) : gVal e' ops j want = gVal e ops j want:=by
 unfold gVal
 split
 · rename_i oj hj
   split
   · rename_i t ht
     rw [h t (by simp only [lksA,Oper.looksAt,List.mem_append,hg]; exact .inr (by simp [hj,ht]))]
   · rfl
 · rfl
theorem hnds_mem {e : Env} : ∀ {l : List Operand} {y : Operand} {b : Nat},y ∈ l → b ∈ (opn (val e y)).hnd → b ∈ SV.hnds (opns (vals e l))
 | z :: l,y,b,hy,hb=>by
  simp only [vals,opns,SV.hnds,List.mem_append]
  rcases List.mem_cons.1 hy with rfl | hy
  · exact .inl hb
  · exact .inr (hnds_mem hy hb)

theorem drawW_any {ans : AnsW} {K : Exit → Env → St → Prop} (hB : regOK N ops = true) (hE : edgesB ops = true) (hC : chkW ops base e0 s0 R = true) (hfr : ∀ m,lk (base + m) s0 = none)
 (hstep : ∀ j o,ops[j]? = some o → StepV P Γ ans ops base j o (envD ops R yes e0 j) (stD ops R yes base s0 j) (R j)) (hK : K .normal (envD ops R yes e0 ops.length) (stD ops R yes base s0 ops.length)) :
 ∀ (fuel : Nat) (S : List Nat) (listed : Array Bool) (β : Nat → Value) (a : Act) (w : World),listed.size = ops.length → Closed ops listed → (∀ i,i < ops.length → listed.getD i false = false → i ∈ S) → S.length ≤ fuel →
   InvB C β (envD ops R (fun i=>listed.getD i false) e0 ops.length) (stD ops R (fun i=>listed.getD i false) base s0 ops.length) a w →
   wpAny P .any ops.toArray (fun ex a w => ∃ β e s,InvB C β e s a w ∧ K ex e s) fuel listed a w:=by
 have done : ∀ (listed : Array Bool) (β : Nat → Value) (a : Act) (w : World),(∀ i,i < ops.length → listed.getD i false = true) →
  InvB C β (envD ops R (fun i=>listed.getD i false) e0 ops.length) (stD ops R (fun i=>listed.getD i false) base s0 ops.length) a w → ∃ β e s,InvB C β e s a w ∧ K .normal e s:=by
  intro listed β a w hall inv
  rw [envD_congr (D':=yes) ops.length (fun j hj=>hall j hj),stD_congr (D':=yes) ops.length (fun j hj=>hall j hj)] at inv
  exact ⟨β,_,_,inv,hK⟩
 have nr : ∀ (listed : Array Bool),listed.size = ops.length → Closed ops listed → Region.ready .any ops.toArray listed = [] → ∀ i,i < ops.length → listed.getD i false = true:=by
  intro listed hsz hc hr i
  induction i using Nat.strongRecOn with
  | _ i ih =>
   intro hi
   cases hli : listed.getD i false with
   | true=>rfl
   | false =>
    exfalso
    have ho : ops[i]? = some ops[i]:=by simp [hi]
    have hm : i ∈ Region.ready .any ops.toArray listed:=by
     refine mem_ready.2 ⟨?_,ops[i],by simp [hi],fun e he hb=>?_⟩
     · have : i < listed.size:=by omega
       simp [this] at hli ⊢; exact hli
     · have:=edgesB_spec hE ho e he hb
       exact ih e.on this (by omega)
    rw [hr] at hm; cases hm
 intro fuel
 induction fuel with
 | zero =>
  intro S listed β a w hsz hc hS hSl inv
  have hS0 : S = []:=List.eq_nil_of_length_eq_zero (by omega)
  subst hS0
  have hall : ∀ i,i < ops.length → listed.getD i false = true:=fun i hi=>by
   cases h : listed.getD i false with
   | true=>rfl
   | false=>exact absurd (hS i hi h) (by simp)
  refine ⟨?_,done listed β a w hall inv⟩
  cases hr : Region.ready .any ops.toArray listed with
  | nil=>rfl
  | cons j r =>
   have hm : j ∈ Region.ready .any ops.toArray listed:=by rw [hr]; simp
   obtain ⟨h1,o,h2, -⟩:=mem_ready.1 hm
   have hj : j < ops.length:=by
    have:=(Array.getElem?_eq_some_iff.1 h2).1
    simpa using this
   have:=hall j hj
   have hjs : j < listed.size:=by omega
   simp [hjs] at h1 this
   rw [h1] at this; cases this
 | succ fuel ih =>
  intro S listed β a w hsz hc hS hSl inv
  refine ⟨fun hr=>done listed β a w (nr listed hsz hc hr) inv,fun i hi=>?_⟩
  obtain ⟨h1,o,h2,hall⟩:=mem_ready.1 hi
  have ho : ops[i]? = some o:=by simpa using h2
  have hilt : i < ops.length:=(List.getElem?_eq_some_iff.1 ho).1
  have his : i < listed.size:=by omega
  have hnot : listed.getD i false = false:=by simp [his] at h1 ⊢; exact h1
  have hiS:=hS i hilt hnot
  have hok : opOK N o = true:=List.all_eq_true.1 hB o (List.mem_of_getElem? ho)
  simp only [opOK,Bool.and_eq_true] at hok
  -- those that are listed and those ahead of it in the text: the others neither wait for it nor it for them
  have hind : ∀ n on,ops[n]? = some on → (listed.getD n false) ≠ Nat.blt n i → n ≠ i ∧ reach ops ops.length i n = false ∧ reach ops ops.length n i = false:=fun n on hon hne=>by
   have r1 : n = i → False:=fun h=>by
    subst h
    have : Nat.blt n n = false:=by
     cases hb : Nat.blt n n with
     | false=>rfl
     | true=>have:=blt_iff.1 hb; omega
    rw [hnot,this] at hne; exact hne rfl
   refine ⟨r1,?_,?_⟩
   · cases hr : reach ops ops.length i n with
     | false=>rfl
     | true =>
      have q1:=reach_ready hc ho hall hr
      have q2:=blt_iff.2 (reach_lt hE _ _ _ hr)
      rw [q1,q2] at hne; exact absurd rfl hne
   · cases hr : reach ops ops.length n i with
     | false=>rfl
     | true =>
      have q2:=reach_lt hE _ _ _ hr
      cases hln : listed.getD n false with
      | true=>have:=reach_closed hc _ n i hln hr; rw [hnot] at this; cases this
      | false =>
       have : Nat.blt n i = false:=by
        cases hb : Nat.blt n i with
        | false=>rfl
        | true=>have:=blt_iff.1 hb; omega
       rw [hln,this] at hne; exact absurd rfl hne
  have hindP : ∀ n on,ops[n]? = some on → (listed.getD n false) ≠ Nat.blt n i → IndP ops R base e0 s0 (HH ops R e0 i o) i n o on:=fun n on hon hne=>by
   obtain ⟨g1,g2,g3⟩:=hind n on hon hne
   exact (chkW_spec hC ho hon (Ne.symm g1)).2 g2 g3
  have htxe : envD ops R (fun n=>Nat.blt n i) e0 ops.length = envD ops R yes e0 i:=by
   rw [envD_stop (i:=i) ops.length (by omega) (fun j hj=>by
    cases hb : Nat.blt j i with
    | false=>rfl
    | true=>have:=blt_iff.1 hb; omega)]
   exact envD_congr i fun j hj=>blt_iff.2 hj
  have htxs : stD ops R (fun n=>Nat.blt n i) base s0 ops.length = stD ops R yes base s0 i:=by
   rw [stD_stop (i:=i) ops.length (by omega) (fun j hj=>by
    cases hb : Nat.blt j i with
    | false=>rfl
    | true=>have:=blt_iff.1 hb; omega)]
   exact stD_congr i fun j hj=>blt_iff.2 hj
  have hve : ∀ t ∈ lksA ops o,lk t (envD ops R (fun i=>listed.getD i false) e0 ops.length) = lk t (envD ops R yes e0 i):=fun t ht=>by
   rw [← htxe]; exact view_env hindP ops.length t ht
  have hvs : ∀ b ∈ HH ops R e0 i o,lk b (stD ops R (fun i=>listed.getD i false) base s0 ops.length) = lk b (stD ops R yes base s0 i):=fun t ht=>by
   rw [← htxs]; exact view_st hindP ops.length t ht
  have hfr1 : lk (base + i) (stD ops R (fun i=>listed.getD i false) base s0 ops.length) = none:=fresh_st (hfr i) (fun n on hon hln=>by
   have hni : n ≠ i:=fun h=>by subst h; rw [hnot] at hln; cases hln
   by_cases hlt : n < i
   · exact (chkW_spec hC ho hon (Ne.symm hni)).1 hlt
   · intro ht
     have := hindP n on hon (by
      rw [hln]
      have : Nat.blt n i = false:=by
       cases hb : Nat.blt n i with
       | false=>rfl
       | true=>have:=blt_iff.1 hb; omega
      rw [this]; simp)
     exact (this.e _ ht).2.2 rfl) ops.length
  have hfr2 : lk (base + i) (stD ops R yes base s0 i) = none:=by
   rw [← htxs]
   exact fresh_st (hfr i) (fun n on hon hln=>(chkW_spec hC ho hon (by have:=blt_iff.1 hln; omega)).1 (blt_iff.1 hln)) ops.length
  have hv : ∀ y ∈ o.op.operands.toList,val (envD ops R (fun i=>listed.getD i false) e0 ops.length) y = val (envD ops R yes e0 i) y:=fun y hy=>val_lk hve fun t ht=>looks_opd hy ht
  have hs : ∀ y ∈ o.op.operands.toList,SameH (opn (val (envD ops R yes e0 i) y)) (stD ops R yes base s0 i) (stD ops R (fun i=>listed.getD i false) base s0 ops.length):=fun y hy b hb B hB=>by
   rw [hvs b (hnds_mem hy hb)]; exact hB
  have hsz' : (listed.setIfInBounds i true).size = ops.length:=by simpa using hsz
  have hD' : ∀ j,(listed.setIfInBounds i true).getD j false = if j = i then true else listed.getD j false:=fun j=>by
   by_cases hj : j = i
   · subst hj; simp [his]
   · rw [if_neg hj,getD_set_ne false (Ne.symm hj)]
  have hc' : Closed ops (listed.setIfInBounds i true):=fun j oj hj hlj e he hb=>by
   rw [hD'] at hlj ⊢
   by_cases hji : j = i
   · subst hji
     rw [ho] at hj; cases hj
     split
     · rfl
     · exact hall e he hb
   · rw [if_neg hji] at hlj
     split
     · rfl
     · exact hc j oj hj hlj e he hb
  have hS' : ∀ j,j < ops.length → (listed.setIfInBounds i true).getD j false = false → j ∈ S.erase i:=fun j hj hlj=>by
   rw [hD'] at hlj
   by_cases hji : j = i
   · rw [if_pos hji] at hlj; cases hlj
   · rw [if_neg hji] at hlj
     exact (List.mem_erase_of_ne hji).2 (hS j hj hlj)
  have hSl' : (S.erase i).length ≤ fuel:=by
   have:=List.length_erase_of_mem hiS
   omega
  have hcomm : ∀ n on,i < n → ops[n]? = some on → listed.getD n false = true → IndP ops R base e0 s0 (HH ops R e0 i o) i n o on ∧ IndP ops R base e0 s0 (HH ops R e0 n on) n i on o:=fun n on hlt hon hln=>by
   have hb : Nat.blt n i = false:=by
    cases hb : Nat.blt n i with
    | false=>rfl
    | true=>have:=blt_iff.1 hb; omega
   obtain ⟨g1,g2,g3⟩:=hind n on hon (by rw [hln,hb]; simp)
   exact ⟨(chkW_spec hC ho hon (by omega)).2 g2 g3,(chkW_spec hC hon ho (by omega)).2 g3 g2⟩
  have hle : ∀ t,lk t (envD ops R (fun i_1=>(listed.setIfInBounds i true).getD i_1 false) e0 ops.length) = lk t (putO o.dst (R i).X ((R i).F.env (envD ops R (fun i=>listed.getD i false) e0 ops.length))):=fun t=>by
   have hH : ∀ n on,i < n → ops[n]? = some on → listed.getD n false = true → IndP ops R base e0 s0 ((fun n=>match ops[n]? with | some on=>HH ops R e0 n on | none=>[]) i) i n o on ∧ IndP ops R base e0 s0 ((fun n=>match ops[n]? with | some on=>HH ops R e0 n on | none=>[]) n) n i on o:=fun n on hlt hon hln=>by
    simp only [ho,hon]
    exact hcomm n on hlt hon hln
   exact ins_env (base:=base) (s0:=s0) (H:=fun n=>match ops[n]? with | some on=>HH ops R e0 n on | none=>[]) (D:=fun i=>listed.getD i false) ho hnot hD' hH t ops.length hilt
  have hls : ∀ t,lk t (stD ops R (fun i_1=>(listed.setIfInBounds i true).getD i_1 false) base s0 ops.length) = lk t ((R i).F.st (base + i) (stD ops R (fun i=>listed.getD i false) base s0 ops.length)):=fun t=>by
   have hH : ∀ n on,i < n → ops[n]? = some on → listed.getD n false = true → IndP ops R base e0 s0 ((fun n=>match ops[n]? with | some on=>HH ops R e0 n on | none=>[]) i) i n o on ∧ IndP ops R base e0 s0 ((fun n=>match ops[n]? with | some on=>HH ops R e0 n on | none=>[]) n) n i on o:=fun n on hlt hon hln=>by
    simp only [ho,hon]
    exact hcomm n on hlt hon hln
   exact ins_st (e0:=e0) (H:=fun n=>match ops[n]? with | some on=>HH ops R e0 n on | none=>[]) (D:=fun i=>listed.getD i false) ho hnot hD' hH t ops.length hilt
  have next : ∀ β' v w',InvB C β' ((R i).F.env (envD ops R (fun i=>listed.getD i false) e0 ops.length)) ((R i).F.st (base + i) (stD ops R (fun i=>listed.getD i false) base s0 ops.length)) a w' →
   Rp w' C.F β' ((R i).F.st (base + i) (stD ops R (fun i=>listed.getD i false) base s0 ops.length)) (.s (R i).X v) →
   wpAny P .any ops.toArray (fun ex a w => ∃ β e s,InvB C β e s a w ∧ K ex e s) fuel (listed.setIfInBounds i true) (a.put o.dst v) w':=by
   intro β' v w' inv' hr
   have inv1:=(inv'.put o.dst hok.1 hr).same hls
   exact ih (S.erase i) _ β' _ _ hsz' hc' hS' hSl' (inv1.withEnv inv1.size inv1.defers fun t x hx=>by rw [hle] at hx; exact inv1.env t x hx)
  have hst:=hstep i o ho
  unfold StepV at hst
  unfold wpOp
  rw [h2]
  simp only
  split at hst
  · rename_i hg
    obtain ⟨p,hsW,hp⟩:=hst
    rw [if_pos (by simp [Region.wanted,hg])]
    exact .inl (stepW_ok hok.2 hfr2 hfr1 hv hs hsW hp inv _ _ next)
  · rename_i j want hg
    obtain ⟨g,p,x,hgv,hsW,hp,hY⟩:=hst
    have hgv':=(gVal_lk hg hve).trans hgv
    have hw:=gVal_ok inv hg hgv'
    rw [hw]
    cases g with
    | true =>
     simp only [if_true]
     exact .inl (stepW_ok hok.2 hfr2 hfr1 hv hs hsW hp inv _ _ (fun β' v w' inv' hr=>next β' v w' inv' (by rw [hY]; exact .grdT hr)))
    | false =>
     simp only [Bool.false_eq_true,if_false]
     have hF:=stepW_idle hfr2 hsW hp
     refine next β undef w ?_ (by rw [hY]; exact .grdF)
     rw [hF]; exact inv
theorem le_nx {i : Nat} {b : Box} : ∀ {s : St},lk i s = some b → i < nx s
 | [],h=>by cases h
 | (j, c) :: s,h=>by
  unfold lk at h
  cases hb : Nat.beq i j with
  | true =>
   have:=Nat.eq_of_beq_eq_true hb
   subst this
   simp only [nx]
   cases hc : Nat.ble (nx s) i with
   | true=>simp
   | false =>
    have : ¬ nx s ≤ i:=fun hle=>by rw [Nat.ble_eq_true_of_le hle] at hc; cases hc
    simp only [cond_false]; omega
  | false =>
   rw [hb,cond_false] at h
   have:=le_nx h
   simp only [nx]
   cases hc : Nat.ble (nx s) j with
   | true=>have:=Nat.le_of_ble_eq_true hc; simp only [cond_true]; omega
   | false=>simpa using this
theorem swp_drawW {K : Exit → Env → St → Prop} {e : Env} {s : St} {id : Nat} {l : List Oper} (hm : P.follows .mixedOrders = true) (hB : regOK N l = true) (hE : edgesB l = true) (ans : AnsW) (base : Nat) (hb : nx s = base)
 (h : ∀ K' : Exit → Env → St → Prop,(∀ e s,K .normal e s → K' .normal e s) → vcW P Γ ans l base (chkW l base e s) 0 l e s [] K') : Swp C (.region id l.toArray true) K e s:=by
 intro β a w inv
 have hv:=h (fun ex e s=>match ex with | .normal=>K .normal e s | _=>False) (fun e s h=>h)
 obtain ⟨R, -,h2,h3,h4⟩:=vcW_run (P:=P) (Γ := Γ) (ops:=l) (e0:=e) (s0:=s) l 0 [] rfl (fun j=>by simp) hv
 have inv1 : InvB C β e s a { w with drawn:=w.drawn + 1 }:=inv.grow ((Below.refl w.heap.size w).drew)
 have hno : ∀ j,(Array.replicate l.toArray.size false).getD j false = false:=fun j=>by
  rcases Nat.lt_or_ge j l.toArray.size with h | h
  · simp at h; simp [h]
  · simp at h; simp [h]
 refine wp_mono (wp_region_any hm (drawW_any (C:=C) (R:=R) (base:=base) (e0:=e) (s0:=s) (K:=fun ex e s=>match ex with | .normal=>K .normal e s | _=>False) hB hE h3 (fun m=>?_) (fun j o ho=>h2 j o (Nat.zero_le _) ho) h4 l.toArray.size (List.range l.length) (Array.replicate l.toArray.size false) β a _ (by simp) (fun j o _ hl=>?_) (fun i hi _=>List.mem_range.2 hi) (by simp) ?_)) ?_
 · cases hl : lk (base + m) s with
   | none=>rfl
   | some b=>have:=le_nx hl; omega
 · exfalso
   rw [hno] at hl; cases hl
 · rw [envD_stop (i:=0) l.length (Nat.zero_le _) (fun j _=>hno j),stD_stop (i:=0) l.length (Nat.zero_le _) (fun j _=>hno j)]
   exact inv1
 · rintro ex a w ⟨β,e,s,g1,g2⟩
   cases ex with
   | normal=>exact ⟨β,e,s,g1,g2⟩
   | _=>exact g2.elim
end
end Go.Sw
namespace Go.Sw
open Go.RowKit
section
variable {P : Program}
def consB (P : Program) : List Field → Nat → Nat → Bool
 | [],o,n=>Nat.beq o n
 | f :: fs,o,n=>Nat.beq f.offset o && consB P fs (o + P.cellsOf f.type) n
def okT (P : Program) (T : List TypeId) (t : TypeId) : Bool:=match P.underlying t with
 | some .bool | some (.int _) | some .string=>true
 | some (.slice e)=>T.contains e && Nat.blt 0 (P.cellsOf e)
 | some (.struct fs)=>fs.toList.all (fun f=>T.contains f.type) && consB P fs.toList 0 (P.cellsOf t)
 | _=>false
def mkD (P : Program) (t : TypeId) (xs : List D) : D:=match P.underlying t with
 | some (.struct _)=>.agg xs
 | _=>xs.headD default
def TyFs (R : TypeId → List D → Prop) : List Field → List D → Prop
 | [],ds=>ds = []
 | f :: fs,ds => ∃ a b,ds = a ++ b ∧ R f.type a ∧ TyFs R fs b
def Ty (P : Program) : Nat → TypeId → List D → Prop
 | 0,_,_=>False
 | n + 1,t,ds=>match P.underlying t with
  | some .bool => ∃ b,ds = [.v (.bool b)]
  | some (.int k) => ∃ i,ds = [.v (.int k i)] ∧ (Lit.int k i).wf = true
  | some .string => ∃ s : ByteArray,ds = [.v (.string s)] ∧ s.size ≤ reachBytes
  | some (.slice e) => ∃ L,ds = [.slc L] ∧ L.length * P.bytesOf e ≤ reachBytes ∧ ∀ x ∈ L, ∃ xs,Ty P n e xs ∧ x = mkD P e xs
  | some (.struct fs)=>TyFs (Ty P n) fs.toList ds
  | _=>False
theorem okT_mem {T : List TypeId} (hT : T.all (okT P T) = true) {t : TypeId} (ht : t ∈ T) : okT P T t = true:=List.all_eq_true.1 hT t ht
theorem mkD_cells {T : List TypeId} (hT : T.all (okT P T) = true) {n : Nat} {t : TypeId} (ht : t ∈ T) {xs : List D} (h : Ty P n t xs) : (mkD P t xs).cells = xs:=by
 have hk:=okT_mem hT ht
 cases n with
 | zero=>exact h.elim
 | succ n =>
  unfold Ty at h
  unfold okT at hk
  unfold mkD
  split at hk
  · rename_i hu; rw [hu] at h ⊢; obtain ⟨b,rfl⟩:=h; rfl
  · rename_i hu; rw [hu] at h ⊢; obtain ⟨b,rfl, -⟩:=h; rfl
  · rename_i hu; rw [hu] at h ⊢; obtain ⟨b,rfl, -⟩:=h; rfl
  · rename_i hu; rw [hu] at h ⊢; obtain ⟨b,rfl, -⟩:=h; rfl
  · rename_i hu; rw [hu]; rfl
  · cases hk
abbrev M0 : Nat → Prop:=fun _=>False
theorem cs_of {w : World} : ∀ {ds : List D} {us : List Value} {b o : Nat},RpD w M0 (.ds ds us) → (∀ j v,us[j]? = some v → w.cell? ⟨b,o + j,none⟩ = some v) → RpD w M0 (.cs ds b o)
 | [],_,b,o,.dsn,h=>.csn b o
 | x :: l,u :: us,b,o,.dsc hx ht,h=>.csc (fun h=>h) (h 0 u rfl) hx (cs_of ht fun j v hj=>by rw [show o + 1 + j = o + (j + 1) by omega]; exact h (j + 1) v hj)
theorem cell_spot {w : World} {a : Addr} {v : Value} (h : w.cell? a = some v) : a.spot = none:=by
 cases hsp : a.spot with
 | none=>rfl
 | some s =>
  unfold World.cell? at h
  split at h
  · simp [hsp] at h
  · cases h
theorem cells_get {w : World} {b0 : Nat} {a : Addr} {k : Nat} {us : List Value} (h : w.cells? b0 a k = some us) : us.length = k ∧ ∀ j v,us[j]? = some v → w.cell? ⟨a.block,a.off + j,none⟩ = some v:=by
 unfold World.cells? at h
 split at h
 · have hl:=mapM_some_length h
   simp only [List.length_range] at hl
   refine ⟨hl,fun j v hv=>?_⟩
   have hj : j < k:=by have:=(List.getElem?_eq_some_iff.1 hv).1; omega
   have hg:=mapM_some_get h j j (by simp [hj])
   rw [hv] at hg
   have hs:=cell_spot hg
   unfold Addr.add at hg hs
   split at hg
   · rename_i h0
     subst h0
     rw [if_pos rfl] at hs
     cases a
     simp only at hs
     subst hs
     exact hg
   · exact hg
 · cases h
theorem add_block (a : Addr) (n : Nat) : (a.add n).block = a.block ∧ (a.add n).off = a.off + n:=by
 unfold Addr.add
 split
 · rename_i h; subst h; exact ⟨rfl,rfl⟩
 · exact ⟨rfl,rfl⟩
theorem wAll_mem {H : Type} {e : TypeId} {N : Nat} : ∀ {l : List (DataW H)} {d : DataW H},(DataW.weightsAll P e l).all (· ≤ N) = true → d ∈ l → (d.weights P e).all (· ≤ N) = true
 | x :: l,d,h,hm=>by
  simp only [DataW.weightsAll,List.all_append,Bool.and_eq_true] at h
  rcases List.mem_cons.1 hm with rfl | hm
  · exact h.1
  · exact wAll_mem h.2 hm
theorem wEach_get {H : Type} {N : Nat} : ∀ {ts : List TypeId} {l : List (DataW H)} (i : Nat) {t : TypeId} {d : DataW H},(DataW.weightsEach P ts l).all (· ≤ N) = true → ts[i]? = some t → l[i]? = some d → (d.weights P t).all (· ≤ N) = true
 | [],l,i,t,d,h,h1,h2=>by simp at h1
 | t' :: ts,[],i,t,d,h,h1,h2=>by simp at h2
 | t' :: ts,x :: l,0,t,d,h,h1,h2=>by
  simp only [List.getElem?_cons_zero,Option.some.injEq] at h1 h2
  subst h1 h2
  simp only [DataW.weightsEach,List.all_append,Bool.and_eq_true] at h
  exact h.1
 | t' :: ts,x :: l,i + 1,t,d,h,h1,h2=>by
  simp only [List.getElem?_cons_succ] at h1 h2
  simp only [DataW.weightsEach,List.all_append,Bool.and_eq_true] at h
  exact wEach_get i h.2 h1 h2
theorem fields_ok {w : World} {R : TypeId → List D → Prop} {cs : List Value} {n : Nat} (hn : cs.length = n) : ∀ (fs : List Field) (o : Nat),consB P fs o n = true →
 (∀ f ∈ fs, ∃ ds,RpD w M0 (.ds ds ((cs.drop f.offset).take (P.cellsOf f.type))) ∧ R f.type ds) → ∃ ds,RpD w M0 (.ds ds (cs.drop o)) ∧ TyFs R fs ds
 | [],o,h,_=>by
  have : o = n:=Nat.eq_of_beq_eq_true h
  subst this
  subst hn
  exact ⟨[],by rw [List.drop_length]; exact .dsn,rfl⟩
 | f :: fs,o,h,hf=>by
  simp only [consB,Bool.and_eq_true] at h
  have ho : f.offset = o:=Nat.eq_of_beq_eq_true h.1
  obtain ⟨a,ha,hR⟩:=hf f (by simp)
  obtain ⟨b,hb,hT⟩:=fields_ok hn fs _ h.2 fun g hg=>hf g (by simp [hg])
  refine ⟨a ++ b,?_,a,b,rfl,hR,hT⟩
  rw [ho] at ha
  have:=RpD.ds_app ha hb
  rw [← List.drop_drop,List.take_append_drop] at this
  exact this
variable {H : Type} {enc : TypeId × Value → H}
theorem open_ok {T : List TypeId} (hT : T.all (okT P T) = true) {w : World} {b0 : Nat} {sp : Nat → Bool} {held : Bool} : ∀ (fuel : Nat) (t : TypeId) (cs : List Value) (x : DataW H × List MemPlace),t ∈ T →
 DataW.trod enc P w b0 sp held fuel t cs = some x → (x.1.weights P t).all (· ≤ reachBytes) = true → ∃ ds,RpD w M0 (.ds ds cs) ∧ Ty P fuel t ds
 | 0,t,cs,x,ht,h,hw=>by simp [DataW.trod] at h
 | fuel + 1, t, cs,x,ht,h,hw=>by
  have hk:=okT_mem hT ht
  unfold okT at hk
  unfold Ty
  split at hk
  · rename_i hu
    try rw [hu]
    obtain ⟨b,rfl, -⟩:=DataW.trod_bool hu h
    exact ⟨[.v (.bool b)],.dsc (.v _ rfl) .dsn,b,rfl⟩
  · rename_i k hu
    try rw [hu]
    obtain ⟨b,rfl, -,hwf⟩:=DataW.trod_int hu h
    exact ⟨[.v (.int k b)],.dsc (.v _ rfl) .dsn,b,rfl,hwf⟩
  · rename_i hu
    try rw [hu]
    obtain ⟨s,rfl,rfl,hs⟩:=DataW.trod_string hu h
    refine ⟨[.v (.string s)],.dsc (.v _ rfl) .dsn,s,rfl,?_⟩
    have hw' : decide (s.data.toList.length ≤ reachBytes) = true:=by
     unfold DataW.weights at hw
     simp only [List.all_cons,List.all_nil,Bool.and_true] at hw
     exact hw
    have h1:=of_decide_eq_true hw'
    have h2 : s.data.toList.length = s.size:=Array.length_toList
    rw [h2] at h1
    exact h1
  · rename_i e hu
    try rw [hu]
    simp only [Bool.and_eq_true] at hk
    have he : e ∈ T:=List.contains_iff_mem.1 hk.1
    have hpos : 0 < P.cellsOf e:=by simpa [Nat.blt_eq] using hk.2
    rcases DataW.trod_slice hu h with ⟨rfl,rfl⟩ | ⟨a,len,cap,elems,rest,n,hf,rfl,rfl, -,hcap, -,hlen,hel, -⟩
    · exact ⟨[.slc []],.dsc (.slc0 _ _) .dsn,[],rfl,by simp,fun x hx=>by cases hx⟩
    · obtain rfl : n = fuel:=by omega
      simp only [DataW.weights,hu,List.all_cons,List.all_append,Bool.and_eq_true,decide_eq_true_eq,List.length_map] at hw
      obtain ⟨hwl,hwe, -⟩:=hw
      have one : ∀ i,i < len → ∃ us ds,w.cells? b0 (a.add (i * P.cellsOf e)) (P.cellsOf e) = some us ∧ RpD w M0 (.ds ds us) ∧ Ty P n e ds:=fun i hi=>by
       have:=hel i hi
       obtain ⟨y,hy⟩ : ∃ y,elems[i]? = some y:=⟨elems[i],by simp [hlen,hi]⟩
       rw [hy] at this
       cases hc : w.cells? b0 (a.add (i * P.cellsOf e)) (P.cellsOf e) with
       | none=>rw [hc] at this; cases this
       | some us =>
        rw [hc] at this
        obtain ⟨ds,h1,h2⟩:=open_ok hT n e us y he this (wAll_mem hwe (List.mem_map.2 ⟨y,List.mem_of_getElem? hy,rfl⟩))
        exact ⟨us,ds,rfl,h1,h2⟩
      have row : ∀ r i,i + r = len → ∃ L : List D,L.length = r ∧ RpD w M0 (.es (P.cellsOf e) L a.block (a.off + i * P.cellsOf e)) ∧ ∀ x ∈ L, ∃ xs,Ty P n e xs ∧ x = mkD P e xs:=by
       intro r
       induction r with
       | zero=>intro i hi; exact ⟨[],rfl,.esn _ _ _,fun x hx=>by cases hx⟩
       | succ r ih =>
        intro i hi
        obtain ⟨us,ds,hc,h1,h2⟩:=one i (by omega)
        obtain ⟨L,g1,g2,g3⟩:=ih (i + 1) (by omega)
        have hcl:=mkD_cells hT he h2
        obtain ⟨c1,c2⟩:=cells_get hc
        rw [(add_block a _).1,(add_block a _).2] at c2
        refine ⟨mkD P e ds :: L,by simp [g1],.esc ?_ ?_ ?_,fun x hx=>?_⟩
        · rw [hcl, ← RpD.ds_len h1]; exact c1
        · rw [hcl]; exact cs_of h1 c2
        · rw [show a.off + i * P.cellsOf e + P.cellsOf e = a.off + (i + 1) * P.cellsOf e by rw [Nat.add_mul]; omega]; exact g2
        · rcases List.mem_cons.1 hx with rfl | hx
          · exact ⟨ds,h2,rfl⟩
          · exact g3 x hx
      obtain ⟨L,g1,g2,g3⟩:=row len 0 (by omega)
      have hLl : L.length * P.bytesOf e ≤ reachBytes:=by
       refine Nat.le_trans (Nat.mul_le_mul_right _ ?_) hwl
       omega
      refine ⟨[.slc L],.dsc ?_ .dsn,L,rfl,hLl,g3⟩
      rcases Nat.eq_zero_or_pos len with h0 | h0
      · have hL0 : L = []:=List.eq_nil_of_length_eq_zero (by omega)
        rw [hL0,h0]
        exact .slc0 _ _
      · obtain ⟨us,ds,hc,h1,h2⟩:=one 0 h0
        obtain ⟨c1, -⟩:=cells_get hc
        have hsp : a.spot = none:=by
         unfold World.cells? at hc
         split at hc
         · have hg:=mapM_some_get hc 0 0 (by simp [hpos])
           cases hu0 : us[0]? with
           | none =>
            have hus : us = []:=by simpa using hu0
            rw [hus] at c1
            exact absurd c1.symm (by simp; omega)
           | some v0 =>
            rw [hu0] at hg
            have:=cell_spot hg
            simpa [Addr.add] using this
         · cases hc
        obtain ⟨bb,oo,ss⟩:=a
        simp only at hsp
        subst hsp
        simp only [Nat.zero_mul,Nat.add_zero] at g2
        exact .slc g1.symm hcap g2
  · rename_i fs hu
    try rw [hu]
    simp only [Bool.and_eq_true,List.all_eq_true] at hk
    obtain ⟨xs,n,hf,rfl,hl,hxl,hget⟩:=DataW.trod_struct hu h
    obtain rfl : n = fuel:=by omega
    simp only [DataW.weights,hu] at hw
    obtain ⟨ds,h1,h2⟩:=fields_ok (P:=P) (w:=w) (R:=Ty P n) hl fs.toList 0 hk.2 fun f hf=>by
     obtain ⟨i,hi,hfi⟩:=List.getElem_of_mem hf
     have hi2 : fs[i]? = some f:=by
      have : i < fs.size:=by simpa using hi
      rw [Array.getElem?_eq_getElem this]
      simpa using hfi
     have hx:=hget i f hi2
     have hlt : i < xs.length:=by
      have : i < fs.size:=by simpa using hi
      omega
     obtain ⟨y,hy⟩ : ∃ y,xs[i]? = some y:=⟨xs[i],by simp [hlt]⟩
     rw [hy] at hx
     exact open_ok hT n f.type _ y (List.contains_iff_mem.1 (hk.1 f hf)) hx (wEach_get i hw (by
      have:=congrArg (Option.map Field.type) hi2
      simpa using this) (by simp [hy]))
    exact ⟨ds,by simpa using h1,h2⟩
  · cases hk
theorem not_agg {W : World} {r : Reach} {base : Nat} {t : TypeId} {v : Value} (hv : Value.okWide P W r base t v) (h : ∀ fs,P.underlying t ≠ some (.struct fs)) (hk : P.underlying t = some .bool ∨ (∃ k,P.underlying t = some (.int k)) ∨ P.underlying t = some .string ∨ ∃ e,P.underlying t = some (.slice e)) :
 ∀ cs,v ≠ .agg cs:=by
 rintro cs rfl
 rcases hk with h1 | ⟨k,h1⟩ | h1 | ⟨e,h1⟩ <;> simp [Value.okWide,h1,Cell.okWide,Cell.ok] at hv
theorem open_top {T : List TypeId} (hT : T.all (okT P T) = true) {W : World} {r : Reach} {base b0 : Nat} {sp : Nat → Bool} {held : Bool} {t : TypeId} {v : Value} {d : DataW H} {p : List MemPlace} (ht : t ∈ T) (hv : Value.okWide P W r base t v)
 (h : DataW.Trod enc P W b0 sp held t v d p) (hw : (d.weights P t).all (· ≤ reachBytes) = true) : ∃ m xs,Ty P m t xs ∧ RpD W M0 (.d (mkD P t xs) v):=by
 obtain ⟨m,hm⟩:=h
 obtain ⟨ds,h1,h2⟩:=open_ok hT m t _ _ ht hm hw
 refine ⟨m,ds,h2,?_⟩
 have hk:=okT_mem hT ht
 have single : (∃ y,ds = [y] ∧ mkD P t ds = y) → (∀ cs,v ≠ .agg cs) → RpD W M0 (.d (mkD P t ds) v):=by
  rintro ⟨y,rfl,hy⟩ hne
  rw [hy]
  have hc : v.cells.toList = [v]:=by
   cases v <;> first | rfl | exact absurd rfl (hne _)
  rw [hc] at h1
  cases h1 with
  | dsc h _=>exact h
 cases m with
 | zero=>exact h2.elim
 | succ m =>
  unfold Ty at h2
  unfold okT at hk
  split at hk
  · rename_i hu
    rw [hu] at h2
    obtain ⟨b,rfl⟩:=h2
    exact single ⟨_,rfl,by simp [mkD,hu]⟩ (not_agg hv (by simp [hu]) (.inl hu))
  · rename_i k hu
    rw [hu] at h2
    obtain ⟨b,rfl, -⟩:=h2
    exact single ⟨_,rfl,by simp [mkD,hu]⟩ (not_agg hv (by simp [hu]) (.inr (.inl ⟨_,hu⟩)))
  · rename_i hu
    rw [hu] at h2
    obtain ⟨b,rfl, -⟩:=h2
    exact single ⟨_,rfl,by simp [mkD,hu]⟩ (not_agg hv (by simp [hu]) (.inr (.inr (.inl hu))))
  · rename_i e hu
    rw [hu] at h2
    obtain ⟨b,rfl, -⟩:=h2
    exact single ⟨_,rfl,by simp [mkD,hu]⟩ (not_agg hv (by simp [hu]) (.inr (.inr (.inr ⟨_,hu⟩))))
  · rename_i fs hu
    have hm' : mkD P t ds = .agg ds:=by simp [mkD,hu]
    rw [hm']
    simp only [Value.okWide,hu] at hv
    obtain ⟨cs,rfl, -⟩:=hv
    have : (Value.agg cs).cells.toList = cs.toList:=rfl
    rw [this] at h1
    have:=RpD.agg h1
    simpa using this
  · cases hk
end
end Go.Sw
namespace Go.Sw
open Go.RowKit
section
variable {P : Program}
theorem ty_int {m : Nat} {t : TypeId} {k : IntKind} (hu : P.underlying t = some (.int k)) {ds : List D} (h : Ty P m t ds) : ∃ i,ds = [.v (.int k i)] ∧ (Lit.int k i).wf = true:=by
 cases m with
 | zero=>exact h.elim
 | succ m=>unfold Ty at h; rw [hu] at h; exact h
theorem ty_str {m : Nat} {t : TypeId} (hu : P.underlying t = some .string) {ds : List D} (h : Ty P m t ds) : ∃ s : ByteArray,ds = [.v (.string s)] ∧ s.size ≤ reachBytes:=by
 cases m with
 | zero=>exact h.elim
 | succ m=>unfold Ty at h; rw [hu] at h; exact h
theorem ty_slc {m : Nat} {t e : TypeId} (hu : P.underlying t = some (.slice e)) {ds : List D} (h : Ty P m t ds) : ∃ L m',m = m' + 1 ∧ ds = [.slc L] ∧ L.length * P.bytesOf e ≤ reachBytes ∧ ∀ x ∈ L, ∃ xs,Ty P m' e xs ∧ x = mkD P e xs:=by
 cases m with
 | zero=>exact h.elim
 | succ m=>unfold Ty at h; rw [hu] at h; obtain ⟨L,h1,h2,h3⟩:=h; exact ⟨L,m,rfl,h1,h2,h3⟩
theorem ty_struct {m : Nat} {t : TypeId} {fs : Array Field} (hu : P.underlying t = some (.struct fs)) {ds : List D} (h : Ty P m t ds) : ∃ m',m = m' + 1 ∧ TyFs (Ty P m') fs.toList ds:=by
 cases m with
 | zero=>exact h.elim
 | succ m=>unfold Ty at h; rw [hu] at h; exact ⟨m,rfl,h⟩
theorem mkD_struct {t : TypeId} {fs : Array Field} (hu : P.underlying t = some (.struct fs)) (xs : List D) : mkD P t xs = .agg xs:=by simp [mkD,hu]
theorem mkD_one {t : TypeId} (hu : ∀ fs,P.underlying t ≠ some (.struct fs)) (x : D) : mkD P t [x] = x:=by
 unfold mkD
 split
 · rename_i h; exact absurd h (hu _)
 · rfl
theorem map_of {α β : Type} {f : α → β} {p : α → Prop} : ∀ {L : List β},(∀ x ∈ L, ∃ y,x = f y ∧ p y) → ∃ l : List α,L = l.map f ∧ ∀ y ∈ l,p y
 | [],_=>⟨[],rfl,fun y h=>by cases h⟩
 | x :: L,h=>by
  obtain ⟨y,h1,h2⟩:=h x (by simp)
  obtain ⟨l,h3,h4⟩:=map_of (L:=L) fun z hz=>h z (by simp [hz])
  refine ⟨y :: l,by rw [h1,h3]; rfl,fun z hz=>?_⟩
  rcases List.mem_cons.1 hz with rfl | hz
  · exact h2
  · exact h4 z hz
theorem calls_of_dfn {Γ : Gl} {f : FuncId} {ds : List D} {u : Value} (h : DFn P Γ f ds (.v u)) {w : World} {us : List Value} (hG : Γ.G w) (hN : Γ.NG ≤ w.heap.size) (hu : RpD w M0 (.ds ds us)) :
 Calls P f us.toArray w fun e w'=>e = .returned u ∧ Below w.heap.size w w' :=
 (h.2 M0 w us hG hN (fun b h=>h.elim) hu).mono fun e w' ⟨v,h1,h2,h3⟩=>by
  cases h3
  exact ⟨h1,h2⟩
end
end Go.Sw
namespace Go.Sw
open Go.RowKit
section
variable {P : Program} {N : Nat} {Γ : Gl} {C : Cx P N Γ}
theorem ext_nilrow {F : Nat → Prop} {β : Nat → Value} {s : St} {w : World} {n k : Nat} (hn : lk n s = none) : Ext (fun _=>false) F w β s w (bset β n (.slice none 0 0)) ((n,.row k []) :: s) where
 heap:=fun _ _ _=>rfl
 mutb := fun b hb h=>by
  rcases h with h | ⟨i,b',h1,h2⟩
  · exact .inl h
  · by_cases hi : i = n
    · subst hi
      rw [bset_same] at h2
      cases h2
    · rw [lk_cons_ne hi] at h1
      rw [bset_ne hi] at h2
      exact .inr ⟨i,b',h1,h2⟩
 cells:=fun i cs _ h=>by
  have hi : i ≠ n:=fun h'=>by subst h'; rw [hn] at h; cases h
  exact ⟨bset_ne hi,cs,by rw [lk_cons_ne hi]; exact h⟩
 row:=fun i k L _ h=>by
  have hi : i ≠ n:=fun h'=>by subst h'; rw [hn] at h; cases h
  exact ⟨bset_ne hi,L,by rw [lk_cons_ne hi]; exact h,Nat.le_refl _⟩
 mp := fun i M _ h=>by
  have hi : i ≠ n:=fun h'=>by subst h'; rw [hn] at h; cases h
  exact ⟨bset_ne hi,M,by rw [lk_cons_ne hi]; exact h⟩
theorem InvB.nilrow {β : Nat → Value} {e : Env} {s : St} {a : Act} {w : World} (inv : InvB C β e s a w) {n k : Nat} (hn : lk n s = none) (hk : 0 < k) : InvB C (bset β n (.slice none 0 0)) e ((n,.row k []) :: s) a w:=by
 have hx:=ext_nilrow (F:=C.F) (β := β) (w:=w) (k:=k) hn
 have hblk : ∀ j bj b,lk j s = some bj → blk (β j) = some b → b < w.heap.size:=fun j bj b h1 h2=>(inv.wr.boxes j bj h1).blk_lt h2
 have side : ∀ i bx b,lk i ((n,Box.row k []) :: s) = some bx → blk (bset β n (.slice none 0 0) i) = some b → i ≠ n ∧ lk i s = some bx ∧ blk (β i) = some b:=fun i bx b h1 h2=>by
  by_cases hi : i = n
  · subst hi
    rw [bset_same] at h2
    cases h2
  · rw [lk_cons_ne hi] at h1
    rw [bset_ne hi] at h2
    exact ⟨hi,h1,h2⟩
 refine inv.step0 hx ⟨fun i bx h=>?_,fun i j b1 b2 b h1 h2 h3 h4=>?_,fun i bx b h1 h2=>?_,inv.wr.low⟩ ⟨inv.since.os,inv.since.tape,inv.since.output,inv.since.size,inv.since.heap,fun i bx b h1 h2=>?_,fun i c1 c2 h1 h2=>?_,fun i bx h=>?_⟩ (Nat.le_refl _) (fun b hb=>rfl) (fun i bx b h1 h2=>?_)
 · by_cases hi : i = n
   · subst hi
     rw [lk_cons_same] at h
     cases h
     exact ⟨hk,(fun x hx=>by cases hx),0,[],(by rw [bset_same]; exact World.ownsRow_nil w 0 0 k),.dsn,(fun u hu=>by cases hu)⟩
   · rw [lk_cons_ne hi] at h
     exact (inv.wr.boxes i bx h).keep hx (bset_ne hi) (fun b hb=>rfl)
 · obtain ⟨-,g1,g2⟩:=side i b1 b h1 h3
   obtain ⟨-,g3,g4⟩:=side j b2 b h2 h4
   exact inv.wr.inj i j b1 b2 b g1 g3 g2 g4
 · obtain ⟨-,g1,g2⟩:=side i bx b h1 h2
   exact inv.wr.apart i bx b g1 g2
 · obtain ⟨-,g1,g2⟩:=side i bx b h1 h2
   exact inv.since.boxes i bx b g1 g2
 · by_cases hi : i = n
   · subst hi
     rw [lk_cons_same] at h2; cases h2
   · rw [lk_cons_ne hi] at h2
     rw [bset_ne hi]
     exact inv.since.cells i c1 c2 h1 h2
 · have:=inv.since.keep i bx h
   by_cases hi : i = n
   · subst hi; rw [lk_cons_same]; simp
   · rw [lk_cons_ne hi]; exact this
 · obtain ⟨-,g1,g2⟩:=side i bx b h1 h2
   exact inv.base i bx b g1 g2
variable {K : Exit → Env → St → Prop} {e : Env} {s : St} {c : Code}
theorem sub_nil (t n k : Nat) (ht : lk t e = some .nil) (hn : lk n s = none) (hk : 0 < k) : Sub C e s (put t (.own n) e) ((n,.row k []) :: s):=fun β a w inv=>by
 have inv1:=inv.nilrow hn hk
 refine ⟨_,inv1.withEnv inv1.size inv1.defers fun u x hx=>?_⟩
 rw [lk_put] at hx
 split at hx
 · rename_i hu
   subst hu
   cases hx
   obtain ⟨h1,h2⟩:=inv.env t .nil ht
   refine ⟨h1,?_⟩
   generalize hv : a.tmps.getD t undef = v at h2
   cases h2
   have:=Rp.own (w:=w) (F:=C.F) (β := bset β n (.slice none 0 0)) (lk_cons_same n (Box.row k []) s)
   rwa [bset_same] at this
 · exact inv1.env u x hx
theorem rp_upd {w : World} {F : Nat → Prop} {β : Nat → Value} {s : St} {y : SV} : ∀ {cs : List SV} {us : List Value} {off : Nat},Rp w F β s (.ss cs us) → cs[off]? = some .nil → Rp w F β s (.s y (.slice none 0 0)) → Rp w F β s (.ss (upd cs off [y]) us)
 | _ :: l,_ :: us,0,.ssc h ht,hc,hy=>by
  simp only [List.getElem?_cons_zero,Option.some.injEq] at hc
  subst hc
  cases h
  simpa [upd] using Rp.ssc hy ht
 | x :: l,u :: us,off + 1,.ssc h ht,hc,hy=>by
  have:=rp_upd (off:=off) ht (by simpa using hc) hy
  have e1 : upd (x :: l) (off + 1) [y] = x :: upd l off [y]:=by simp [upd,Nat.add_assoc,Nat.add_comm 1]
  rw [e1]
  exact .ssc h this
theorem sub_nilB (i off n k : Nat) {cs : List SV} (hl : lk i s = some (.cells cs)) (hc : cs[off]? = some .nil) (hn : lk n s = none) (hk : 0 < k) : Sub C e s e (put i (.cells (upd cs off [.own n])) ((n,.row k []) :: s)):=fun β a w inv=>by
 have inv1:=inv.nilrow hn hk
 have hi : i ≠ n:=fun h'=>by subst h'; rw [hn] at hl; cases hl
 have own : ∀ s',(∀ j,j ≠ i → lk j s' = lk j ((n,Box.row k []) :: s)) → Rp w C.F (bset β n (.slice none 0 0)) s' (.s (.own n) (.slice none 0 0)):=fun s' hs=>by
  have:=Rp.own (w:=w) (F:=C.F) (β := bset β n (.slice none 0 0)) (i:=n) (k:=k) (L:=[]) (s:=s') (by rw [hs n (Ne.symm hi),lk_cons_same])
  rwa [bset_same] at this
 let s2:=put i (Box.cells (upd cs off [.own n])) ((n,Box.row k []) :: s)
 have hne : ∀ j,j ≠ i → lk j s2 = lk j ((n,Box.row k []) :: s):=fun j hj=>lk_put_ne _ hj _
 have hsame : lk i s2 = some (.cells (upd cs off [.own n])):=lk_put_same i _ _
 have hold : lk i ((n,Box.row k []) :: s) = some (.cells cs):=by rw [lk_cons_ne hi]; exact hl
 have back : ∀ j bx,lk j s2 = some bx → ∃ b,lk j ((n,Box.row k []) :: s) = some b:=fun j bx hj=>by
  by_cases h1 : j = i
  · subst h1; exact ⟨_,hold⟩
  · rw [hne j h1] at hj; exact ⟨_,hj⟩
 have hx : Ext (fun _=>false) C.F w (bset β n (.slice none 0 0)) ((n,Box.row k []) :: s) w (bset β n (.slice none 0 0)) s2:=by
  refine ⟨fun _ _ _=>rfl,fun b _ hm=>?_,fun j c _ hj=>⟨rfl,?_⟩,fun j k2 L _ hj=>⟨rfl,L,?_,Nat.le_refl _⟩,fun j M _ hj=>⟨rfl,M,?_⟩⟩
  · rcases hm with hm | ⟨j,bx,h1,h2⟩
    · exact .inl hm
    · obtain ⟨b',g⟩:=back j bx h1
      exact .inr ⟨j,b',g,h2⟩
  · by_cases h1 : j = i
    · subst h1; exact ⟨_,hsame⟩
    · exact ⟨c,by rw [hne j h1]; exact hj⟩
  · by_cases h1 : j = i
    · subst h1; rw [hold] at hj; cases hj
    · rw [hne j h1]; exact hj
  · by_cases h1 : j = i
    · subst h1; rw [hold] at hj; cases hj
    · rw [hne j h1]; exact hj
 refine ⟨_,inv1.step0 (s':=s2) hx ⟨fun j bx hj=>?_,fun j1 j2 b1 b2 b h1 h2=>?_,fun j bx b h1=>?_,inv1.wr.low⟩ ⟨inv1.since.os,inv1.since.tape,inv1.since.output,inv1.since.size,inv1.since.heap,fun j bx b h1 h2=>?_,fun j c1 c2 h1 h2=>?_,fun j bx hj=>?_⟩ (Nat.le_refl _) (fun b hb=>rfl) (fun j bx b h1 h2=>?_)⟩
 · by_cases h1 : j = i
   · subst h1
     rw [hsame] at hj
     cases hj
     obtain ⟨b,t,us,q1,q2,q3,q4⟩:=inv1.wr.boxes j _ hold
     exact ⟨b,t,us,q1,q2,rp_upd (Rp.keep0s hx q3) hc (own s2 hne),q4⟩
   · rw [hne j h1] at hj
     exact (inv1.wr.boxes j bx hj).keep hx rfl (fun b hb=>rfl)
 · obtain ⟨c1,g1⟩:=back j1 b1 h1
   obtain ⟨c2,g2⟩:=back j2 b2 h2
   exact inv1.wr.inj j1 j2 c1 c2 b g1 g2
 · obtain ⟨c1,g1⟩:=back j bx h1
   exact inv1.wr.apart j c1 b g1
 · obtain ⟨c1,g1⟩:=back j bx h1
   exact inv1.since.boxes j c1 b g1 h2
 · by_cases hj : j = i
   · subst hj; exact inv1.since.cells j c1 cs h1 hold
   · rw [hne j hj] at h2; exact inv1.since.cells j c1 c2 h1 h2
 · have:=inv1.since.keep j bx hj
   by_cases h1 : j = i
   · subst h1; rw [hsame]; simp
   · rw [hne j h1]; exact this
 · obtain ⟨c1,g1⟩:=back j bx h1
   exact inv1.base j c1 b g1 h2

theorem equal_nil {t el : TypeId} (hu : P.underlying t = some (.slice el)) (a0 : Option Addr) (n c0 : Nat) (w : World) : (Op.equal t (.slice a0 n c0) (.slice none 0 0)).run P w = .ok a0.isNone w:=by
 change (Op.equalIn (9999 + 1) t (.slice a0 n c0) (.slice none 0 0)).run P w = _
 unfold Op.equalIn
 cases a0 <;> simp [run_underlying hu]
theorem swp_nil (t n k : Nat) (ht : lk t e = some .nil) (hn : lk n s = none) (hk : 0 < k) (h : Swp C c K (put t (.own n) e) ((n,.row k []) :: s)) : Swp C c K e s:=fun β a w inv=>let ⟨β',i⟩:=sub_nil t n k ht hn hk β a w inv; h β' a w i
theorem swp_nilB (i off n k : Nat) {cs : List SV} (hl : lk i s = some (.cells cs)) (hc : cs[off]? = some .nil) (hn : lk n s = none) (hk : 0 < k) (h : Swp C c K e (put i (.cells (upd cs off [.own n])) ((n,.row k []) :: s))) : Swp C c K e s:=fun β a w inv=>let ⟨β',i⟩:=sub_nilB i off n k hl hc hn hk β a w inv; h β' a w i
theorem stop_nilcmp {ops rest : List Oper} {dst : Option Tmp} {t t2 ty el : TypeId} {x : Operand} {pos : String} {af : Array Edge} {l : List D} (hu : P.underlying t = some (.slice el))
 (hB : regOK N (⟨dst,.binOp .eql t x (.const (.slice none 0 0)) t2,ty,pos,af,none⟩ :: rest) = true) (hx : opn (val e x) = .d (.slc l)) (hk : ok1 true (val e x))
 (h : ∀ b : Bool,(l ≠ [] → b = false) → vcOps C ops rest (putO dst (.d (.v (.bool b))) e) s K) : Stop C ops (⟨dst,.binOp .eql t x (.const (.slice none 0 0)) t2,ty,pos,af,none⟩ :: rest) e s K:=by
 intro β a w inv
 simp only [regOK,List.all_cons,Bool.and_eq_true,opOK] at hB
 obtain ⟨⟨hdst,ho⟩,hB'⟩:=hB
 have hox : opdOK x = true:=by simp [Op.operands] at ho; exact ho.1
 have hq:=opn_rp (val_rp inv x hox) hk
 rw [hx] at hq
 obtain ⟨a0,n,c0,hv,hl⟩ : ∃ (a0 : Option Addr) (n c0 : Nat),a.eval x = .slice a0 n c0 ∧ (l ≠ [] → a0.isSome = true):=by
  generalize a.eval x = u at hq
  cases hq with
  | d hq=>cases hq with
   | slc0 a0 c0=>exact ⟨a0,0,c0,rfl,fun h=>absurd rfl h⟩
   | slc hn hc he=>exact ⟨_,_,_,rfl,fun _=>rfl⟩
 have ih:=vcOps_ok (ops:=ops) hB' (h a0.isNone (fun hne=>by have:=hl hne; cases a0 <;> simp_all))
 refine wpList_plain rfl fun K' hK'=>?_
 unfold Oper.wp
 have hrun : (execOp a.eval ⟨dst,.binOp .eql t x (.const (.slice none 0 0)) t2,ty,pos,af,none⟩).run P w = .ok (.value (.bool a0.isNone)) w:=by
  have he : a.eval (.const (.slice none 0 0)) = .slice none 0 0:=rfl
  simp only [execOp,hv,he,eqGuard,binOp,Sem.run_bind,Sem.run_pure,Result.andThen_ok,equal_nil hu]
  rfl
 rw [hrun]
 exact hK' _ _ (ih β _ _ (inv.put dst hdst (.d (.v _ rfl))))

theorem stop_callV {ops rest : List Oper} {x : Operand} {sc : St} {caps : List SV} {f : FuncId} {dst : Option Tmp} {args : Array Operand} {ats : Array TypeId} {ty : TypeId} {pos : String} {af : Array Edge}
 (hB : regOK N (⟨dst,.call ⟨.value x,args,ats⟩,ty,pos,af,none⟩ :: rest) = true) (hx : val e x = .clo f caps) {as : List SV} {s s' : St} {ret : SV} (hk : oks true (vals e args.toList)) (ha : argF sc s (opns (vals e args.toList) ++ caps) as) (hsub : subC sc s) (hcl : hinB s s) (hsame : sameD sc s s')
 (hf : SFn P Γ f as s ret s') (h : vcOps C ops rest (putO dst ret (jkE (inX (rowsOf s)) e)) (mrg s' (jkS (inX (rowsOf s)) sc)) K) : Stop C ops (⟨dst,.call ⟨.value x,args,ats⟩,ty,pos,af,none⟩ :: rest) e sc K:=by
 intro β a w inv
 simp only [regOK,List.all_cons,Bool.and_eq_true,opOK] at hB
 obtain ⟨⟨hdst,ho⟩,hB'⟩:=hB
 have ho' : opdOK x = true ∧ args.toList.all opdOK = true:=by
  simp only [Op.operands,Call.operands,Array.toList_append,List.all_append,Bool.and_eq_true] at ho
  exact ⟨by simpa using ho.1,ho.2⟩
 have ih:=vcOps_ok (ops:=ops) hB' h
 have hxr:=oks_rp inv [x] (by simp [ho'.1]) (by simp [vals,hx,oks,ok1])
 have hxv : opn (val e x) = .clo f caps:=by rw [hx]; rfl
 simp only [vals,opns,hxv,List.map_cons,List.map_nil] at hxr
 generalize hev : a.eval x = u at hxr
 cases hxr with
 | ssc hxr _ =>
  cases hxr with
  | @clo _ _ us hcs =>
   refine wpList_plain rfl fun K' hK'=>?_
   unfold Oper.wp
   rw [run_callC hf.1 a w hev]
   have hall:=Rp.ss_app (oks_rp inv args.toList ho'.2 hk) hcs
   refine (callS_ok inv hsub hcl hsame hall ha hf).mono ?_
   rintro en w' ⟨v, β',rfl,inv',hr⟩
   exact hK' _ _ (ih β' _ _ (inv'.put dst hdst hr))
end
end Go.Sw
namespace Go.Sw

theorem LM : (0 < 1) ∧ (∀ h : Decidable True, @decide True h = true) ∧ (∀ h : Decidable False, @decide False h = false)
 ∧ (∀ {α : Type} (a b : α),(bif true then a else b) = a) ∧ (∀ {α : Type} (a b : α),(bif false then a else b) = b)
 ∧ (∀ {α : Type} (a b : α),(some a).getD b = a) ∧ (∀ {α : Type} (b : α),(none : Option α).getD b = b)
 ∧ (∀ {α β : Type} (a : α) (f : α → β),(some a).map f = some (f a)) ∧ (∀ {α β : Type} (f : α → β),(none : Option α).map f = none)
 ∧ (∀ {α β : Type} (f : α → β) (a : α) (l : List α),(a :: l).map f = f a :: l.map f) ∧ (∀ {α β : Type} (f : α → β),([] : List α).map f = [])
 ∧ (∀ {α : Type} (l : List α),l.toArray.toList = l)
 ∧ (∀ p : Prop,(True ∧ p) = p) ∧ (∀ p : Prop,(p ∧ True) = p) ∧ (∀ p : Prop,(p ∧ p) = p) ∧ (∀ p : Prop,(p → p) = True)
 ∧ (∀ {α : Type} [BEq α] [ReflBEq α] (a : α),(a == a) = true)
 ∧ (∀ {α : Type} (l : List α),l.drop 0 = l) ∧ (∀ {α : Type} (a : α) (l : List α) (i : Nat),(a :: l).drop (i + 1) = l.drop i) ∧ (∀ {α : Type} (i : Nat),([] : List α).drop i = [])
 ∧ (∀ {α : Type} (a : α) (l : List α) (i : Nat),(a :: l).take (i + 1) = a :: l.take i) ∧ (∀ {α : Type} (l : List α),l.take 0 = []) ∧ (∀ {α : Type} (i : Nat),([] : List α).take i = [])
 ∧ (∀ {α : Type} (a : α) (l : List α),(a :: l).length = l.length + 1) ∧ (∀ {α : Type},([] : List α).length = 0)
 ∧ (∀ n : Nat,n ≤ n) ∧ (∀ {α : Type} (a : α) (l r : List α),a :: l ++ r = a :: (l ++ r)) ∧ (∀ {α : Type} (l : List α),[] ++ l = l) ∧ (∀ {α : Type} (l : List α),l ++ [] = l)
 ∧ (∀ {α : Type} (a : α) (l : List α),(a :: l)[0]? = some a) ∧ (∀ {α : Type} (a : α) (l : List α) (i : Nat),(a :: l)[i + 1]? = l[i]?)
 ∧ (∀ n : Nat,0 + n = n) ∧ (∀ n : Nat,n + 0 = n) ∧ (((0 : Nat) : Int) = 0)
 ∧ (∀ {α : Type} {h : Decidable True} (a b : α), @ite α True h a b = a) ∧ (∀ {α : Type} {h : Decidable False} (a b : α), @ite α False h a b = b)
 ∧ (∀ {α : Type} (a b : α),(a ≠ b) = ¬ (a = b)) ∧ ((¬ False) = True) ∧ ((¬ True) = False):=by
 (repeat' refine And.intro ?_ ?_) <;> intros <;> first | rfl | (simp; done)

section
open Go.RowKit
variable {P : Program} {N : Nat} {Γ : Gl} {C : Cx P N Γ} {K : Exit → Env → St → Prop} {e : Env} {s : St}
theorem stop_guard {ops rest : List Oper} {dst : Option Tmp} {op : Op} {ty : TypeId} {pos : String} {af : Array Edge} {j : Nat} {want : Bool} (hv : gVal e ops j want = some true) (h : Stop C ops (⟨dst,op,ty,pos,af,none⟩ :: rest) e s K) :
 Stop C ops (⟨dst,op,ty,pos,af,some (j,want)⟩ :: rest) e s K:=fun β a w inv=>by
 have hw:=gVal_ok (o:=⟨dst,op,ty,pos,af,some (j,want)⟩) inv rfl hv
 have h1:=h β a w inv
 unfold wpList at h1 ⊢
 rw [if_pos hw]
 rw [if_pos (show Region.wanted (⟨dst,op,ty,pos,af,none⟩ : Oper) (yielded ops.toArray a.tmps) = true from rfl)] at h1
 exact h1
theorem stop_unmet {ops rest : List Oper} {dst : Option Tmp} {op : Op} {ty : TypeId} {pos : String} {af : Array Edge} {j : Nat} {want : Bool} (hB : regOK N (⟨dst,op,ty,pos,af,some (j,want)⟩ :: rest) = true) (hv : gVal e ops j want = some false) (h : vcOps C ops rest (putO dst (.grd false .nil) e) s K) :
 Stop C ops (⟨dst,op,ty,pos,af,some (j,want)⟩ :: rest) e s K:=fun β a w inv=>by
 simp only [regOK,List.all_cons,Bool.and_eq_true,opOK] at hB
 have hw:=gVal_ok (o:=⟨dst,op,ty,pos,af,some (j,want)⟩) inv rfl hv
 exact wpList_skip hw (vcOps_ok (ops:=ops) hB.2 h β _ w (inv.put dst hB.1.1 .grdF))

theorem rowkeepI {β : Nat → Value} {a : Act} {w w' : World} (inv : InvB C β e s a w) {i k : Nat} {L L' : List D} (hl : lk i s = some (.row k L)) (hlen : L.length ≤ L'.length)
 (hos : w'.os = w.os) (htape : w'.tape = w.tape) (hout : w'.output = w.output) (hsize : w.heap.size ≤ w'.heap.size) (hheap : ∀ b,b < w.heap.size → blk (β i) ≠ some b → w'.heap[b]? = w.heap[b]?)
 (hk0 : 0 < k) (hk : ∀ x ∈ L',x.cells.length = k) {el : TypeId} {xs : List Value} (hown : w'.ownsRow 0 el k (β i) L'.length xs) (hxs : RpD w (Mut C.F β s) (.ds (L'.flatMap D.cells) xs)) (hone : ∀ u ∈ xs,u.oneCell' = true) :
 InvB C β e (put i (.row k L') s) a w':=by
 have get : ∀ j bx,lk j (put i (.row k L') s) = some bx → (j = i ∧ bx = .row k L') ∨ (j ≠ i ∧ lk j s = some bx):=fun j bx h=>by
  by_cases hj : j = i
  · subst hj
    rw [lk_put_same] at h
    exact .inl ⟨rfl,(Option.some.inj h).symm⟩
  · rw [lk_put_ne _ hj] at h
    exact .inr ⟨hj,h⟩
 have old : ∀ j bx,lk j (put i (.row k L') s) = some bx → ∃ b2,lk j s = some b2:=fun j bx h=>by
  rcases get j bx h with ⟨rfl, -⟩ | ⟨-,h⟩
  · exact ⟨_,hl⟩
  · exact ⟨_,h⟩
 have hx : Ext (fun _=>false) C.F w β s w' β (put i (.row k L') s):=by
  refine ⟨fun b hb hm=>hheap b hb (fun h=>hm (.inr ⟨i,_,hl,h⟩)),fun b hb hm=>?_,fun j cs _ h=>⟨rfl,cs,?_⟩,fun j k2 L2 _ h=>⟨rfl,?_⟩,fun j M _ h=>⟨rfl,M,?_⟩⟩
  · rcases hm with hm | ⟨j,bx,h1,h2⟩
    · exact .inl hm
    · obtain ⟨b2,h3⟩:=old j bx h1
      exact .inr ⟨j,b2,h3,h2⟩
  · have hj : j ≠ i:=fun q=>by subst q; rw [hl] at h; cases h
    rw [lk_put_ne _ hj,h]
  · by_cases hj : j = i
    · subst hj
      rw [hl] at h
      cases h
      exact ⟨L',lk_put_same _ _ _,hlen⟩
    · exact ⟨L2,by rw [lk_put_ne _ hj,h],Nat.le_refl _⟩
  · have hj : j ≠ i:=fun q=>by subst q; rw [hl] at h; cases h
    rw [lk_put_ne _ hj,h]
 refine inv.step0 hx ⟨fun j bx h=>?_,fun j1 j2 b1 b2 b h1 h2 h3 h4=>?_,fun j bx b h h2=>?_,fun b h=>Nat.lt_of_lt_of_le (inv.wr.low b h) hsize⟩ ⟨hos.trans inv.since.os,htape.trans inv.since.tape,hout.trans inv.since.output,Nat.le_trans inv.since.size hsize,fun b hb h=>?_,fun j bx b h h2=>?_,fun j c1 c2 h h2=>?_,fun j bx h=>?_⟩ hsize (fun b hb=>hheap b (Nat.lt_of_lt_of_le hb inv.big) (fun h=>by have:=inv.base i _ b hl h; omega)) (fun j bx b h h2=>?_)
 · rcases get j bx h with ⟨rfl,rfl⟩ | ⟨hj,h⟩
   · exact ⟨hk0,hk,el,xs,hown,hxs.keep hx.heap hx.mutb,hone⟩
   · have hb:=inv.wr.boxes j bx h
     have hsame : ∀ b,blk (β j) = some b → w'.heap[b]? = w.heap[b]? := fun b hb2=>hheap b (hb.blk_lt hb2) (fun he=>hj (inv.wr.inj j i _ _ b h hl hb2 he))
     cases bx with
     | cells cs =>
      obtain ⟨bb,t,us,h1,h2,h3,h4⟩:=hb
      exact ⟨bb,t,us,h1,by rw [hsame bb (by rw [h1]; rfl)]; exact h2,Rp.keep0s hx h3,h4⟩
     | row k2 L2 =>
      obtain ⟨g0,hk2,el2,xs2,q1,q2,q3⟩:=hb
      refine ⟨g0,hk2,el2,xs2,⟨q1.1,?_⟩,q2.keep hx.heap hx.mutb,q3⟩
      rcases q1.2 with h | ⟨gg,cap,cur,e1,e2,e3,e4⟩
      · exact .inl h
      · exact .inr ⟨gg,cap,cur,e1,e2,by rw [hsame gg (by rw [e1]; rfl)]; exact e3,e4⟩
     | mp M =>
      obtain ⟨bb,h1,h2⟩:=hb
      exact ⟨bb,h1,by rw [hsame bb (by rw [h1]; rfl)]; exact h2⟩
 · obtain ⟨c1,g1⟩:=old j1 b1 h1
   obtain ⟨c2,g2⟩:=old j2 b2 h2
   exact inv.wr.inj j1 j2 c1 c2 b g1 g2 h3 h4
 · obtain ⟨c1,g1⟩:=old j bx h
   exact inv.wr.apart j c1 b g1 h2
 · rw [hheap b (Nat.lt_of_lt_of_le hb inv.since.size) (fun q=>?_)]
   · exact inv.since.heap b hb h
   · rcases inv.since.boxes i _ b hl q with h2 | ⟨j,by',h2,h3⟩
     · omega
     · exact h j by' h2 h3
 · obtain ⟨c1,g1⟩:=old j bx h
   exact inv.since.boxes j c1 b g1 h2
 · rcases get j _ h2 with ⟨-,q⟩ | ⟨-,g1⟩
   · cases q
   · exact inv.since.cells j c1 c2 h g1
 · have:=inv.since.keep j bx h
   by_cases hj : j = i
   · subst hj; rw [lk_put_same]; simp
   · rw [lk_put_ne _ hj]; exact this
 · obtain ⟨c1,g1⟩:=old j bx h
   exact inv.base j c1 b g1 h2
end
section
open Go.RowKit
variable {P : Program} {Γ : Gl}
end
end Go.Sw
namespace Go.Sw
open Go.RowKit

section
variable {P : Program} {Q Q' : Exit → Act → World → Prop}
end
section
variable {P : Program} {N : Nat} {Γ : Gl} {C : Cx P N Γ} {K' : Exit → Env → St → Prop} {e : Env} {s : St}
end
end Go.Sw
namespace Go.Sw
open Go.RowKit
mutual
def D.val : D → Value
 | .v u=>u
 | .agg cs=>.agg (D.vals cs).toArray
 | .tup cs=>.tuple (D.vals cs).toArray
 | .slc _=>undef
 | .ptr _=>undef
def D.vals : List D → List Value
 | []=>[]
 | x :: l=>x.val :: D.vals l
end
mutual
def D.lean : D → Bool
 | .v u=>u.oneCell'
 | .agg cs=>D.leans cs
 | .tup cs=>D.leans cs
 | .slc _=>false
 | .ptr _=>false
def D.leans : List D → Bool
 | []=>true
 | x :: l=>x.lean && D.leans l
end
mutual
theorem RpD.val {w : World} {M : Nat → Prop} : ∀ {x : D} {u : Value},x.lean = true → RpD w M (.d x u) → u = x.val
 | .v _,_,_,.v _ _=>rfl
 | .agg cs,_,h,.agg hh=>by rw [RpD.vals h hh]; rfl
 | .tup cs,_,h,.tup hh=>by rw [RpD.vals h hh]; rfl
theorem RpD.vals {w : World} {M : Nat → Prop} : ∀ {l : List D} {us : List Value},D.leans l = true → RpD w M (.ds l us) → us = D.vals l
 | [],_,_,.dsn=>rfl
 | x :: l,_,h,.dsc hx ht=>by
  simp only [D.leans,Bool.and_eq_true] at h
  rw [RpD.val h.1 hx,RpD.vals h.2 ht]; rfl
end
mutual
theorem RpD.ofVal {w : World} {M : Nat → Prop} : ∀ {x : D},x.lean = true → RpD w M (.d x x.val)
 | .v u,h=>.v u h
 | .agg cs,h=>.agg (RpD.ofVals h)
 | .tup cs,h=>.tup (RpD.ofVals h)
theorem RpD.ofVals {w : World} {M : Nat → Prop} : ∀ {l : List D},D.leans l = true → RpD w M (.ds l (D.vals l))
 | [],_=>.dsn
 | x :: l,h=>by
  simp only [D.leans,Bool.and_eq_true] at h
  exact .dsc (RpD.ofVal h.1) (RpD.ofVals h.2)
end
theorem dfn_of {P : Program} {Γ : Gl} {f : FuncId} {args : List D} {ret : D} (he : entB P f = true) (ha : D.leans args = true) (hr : ret.lean = true)
 (h : ∀ w, Γ.G w → Calls P f (D.vals args).toArray w fun e w'=>e = .returned ret.val ∧ Below w.heap.size w w') : DFn P Γ f args ret:=by
 refine ⟨he,fun F w us hG hN hF hu=>?_⟩
 rw [RpD.vals ha hu]
 exact (h w hG).mono fun e w' ⟨h1,h2⟩=>⟨_,h1,h2,RpD.ofVal hr⟩

def chainOf (u : Value) : List PanicEntry:=[{ v:=u,recovered:=false }]
def XFn (P : Program) (Γ : Gl) (f : FuncId) (args : List SV) (s : St) (u : Value) (s' : St) : Prop:=GFn (fun e _=>e = .panicked (chainOf u)) P Γ f args s .junk s'
theorem XFn.up {P : Program} {Γ : Gl} {f : FuncId} {args : List SV} {s s' : St} {u : Value} (k : Nat) (h : XFn P Γ f args s u s') : XFn P Γ f (SV.rens (· + k) args) (renS (· + k) s) u (renS (· + k) s'):=GFn.ren (σ := (· + k)) (fun i j h=>by simpa using h) h

section
variable {P : Program} {N : Nat} {Γ : Gl} {C : Cx P N Γ} {K : Exit → Env → St → Prop} {e : Env} {s : St}
def KpanS (C : Cx P N Γ) (u : Value) (s' : St) : Exit → Env → St → Prop
 | .panic ch,e,s=>ch = chainOf u ∧ keepS C.s0 s' ∧ subS s s' s'
 | _,_,_=>False
theorem xfn_of_swp {f : FuncId} {fn : Func} {c : Code} (hf : P.funcs[f]? = some fn) (hb : fn.body = some c) (hname : (fn.name == "runtime.NumGoroutine") = false) (hN : fn.ntmps = N) {args : List SV} {u : Value} {s s' : St}
 (hlen : args.length ≤ N) (h : ∀ C : Cx P N Γ,C.s0 = s → Swp C c (KpanS C u s') (argS 0 args) s) : XFn P Γ f args s u s':=by
 refine ⟨by simp [entB,hf,hb,hname],fun F β w us hG hNG hW hl hbase hargs=>?_⟩
 have hul:=hargs.ss_len
 let C : Cx P N Γ := ⟨F, β,s,w,[],hl⟩
 have inv : InvB C β (argS 0 args) s { tmps:=us.toArray ++ Array.replicate (fn.ntmps - us.toArray.size) undef,defers:=[] } w:=by
  refine ⟨hW,hbase,fun t x hx=>?_,by simp [hul,hN]; omega,rfl,hG,hNG,⟨rfl,rfl,rfl,Nat.le_refl _,fun _ _ _=>rfl,fun i bx b h h2=>.inr ⟨i,bx,h,h2⟩,fun i c1 c2 h h2=>rfl,fun i bx h=>by rw [h]; simp⟩⟩
  obtain ⟨j,h1,h2⟩:=lk_argS hx
  have hj : j < args.length:=(List.getElem?_eq_some_iff.1 h2).1
  obtain ⟨u,h3,h4⟩:=Rp.ss_get j hargs h2
  obtain rfl : t = j:=by omega
  refine ⟨by omega,?_⟩
  have : (us.toArray ++ Array.replicate (fn.ntmps - us.toArray.size) undef).getD t undef = u:=by
   have ht : t < us.toArray.size:=by simp [hul]; exact hj
   rw [Array.getD_eq_getD_getElem?,Array.getElem?_append_left ht]
   simp [h3]
  rw [this]
  exact h4
 refine calls_of_wp hf hb (wp_mono (h C rfl _ _ _ inv) ?_)
 rintro ex a w' ⟨β1,e,s1,inv',hk⟩
 cases ex with
 | panic ch =>
  obtain ⟨rfl,k1,k2⟩:=hk
  have i2:=sub_ok (e':=[]) rfl k1 k2 trivial inv'
  exact ⟨inv'.defers,.nilIface, β1,rfl,i2.wr,.junk,⟨i2.since.os,i2.since.tape,i2.since.output,i2.since.size,i2.since.heap,i2.since.boxes,i2.since.cells,i2.since.keep⟩,i2.glob,i2.base⟩
 | _=>exact hk.elim
theorem swp_regionX {id : Nat} {l : List Oper} (hB : regOK N l = true) (hG : gcB l = true) (h : ∀ K' : Exit → Env → St → Prop,(∀ e s,K .normal e s → K' .normal e s) → (∀ ch e s,K (.panic ch) e s → K' (.panic ch) e s) → vcOps C l l e s K') : Swp C (.region id l.toArray false) K e s :=
 fun β a w inv=>wp_region_lit (vcOps_ok hB (h K (fun _ _ h=>h) (fun _ _ _ h=>h)) β a w inv)
theorem stop_mki {ops rest : List Oper} {dst : Option Tmp} {t ty : TypeId} {x : Operand} {pos : String} {af : Array Edge} {z : D} {td : TypeDesc} (hu : P.underlying t = some td) (hi : (match td with | .interface _=>false | _=>true) = true)
 (hB : regOK N (⟨dst,.makeInterface t x,ty,pos,af,none⟩ :: rest) = true) (hk : ok1 true (val e x)) (hz : (opn (val e x)).toD s = some z) (hl : z.lean = true)
 (h : vcOps C ops rest (putO dst (.d (.v (.iface t z.val))) e) s K) : Stop C ops (⟨dst,.makeInterface t x,ty,pos,af,none⟩ :: rest) e s K:=by
 intro β a w inv
 simp only [regOK,List.all_cons,Bool.and_eq_true,opOK] at hB
 obtain ⟨⟨hdst,ho⟩,hB'⟩:=hB
 have hox : opdOK x = true:=by simp [Op.operands] at ho; exact ho
 have ih:=vcOps_ok (ops:=ops) hB' h
 have hr:=opn_rp (val_rp inv x hox) hk
 have hv : a.eval x = z.val:=RpD.val hl (toD_rpv inv _ z _ hr hz)
 refine wpList_plain rfl fun K' hK'=>?_
 unfold Oper.wp
 have hrun : (execOp a.eval ⟨dst,.makeInterface t x,ty,pos,af,none⟩).run P w = .ok (.value (.iface t z.val)) w:=by
  simp only [execOp,Instr.makeInterface]
  rw [← hv]
  cases td <;> first | (simp at hi; done) | (simp [Sem.run_bind,run_underlying hu]; done)
 rw [hrun]
 exact hK' _ _ (ih β _ _ (inv.put dst hdst (.d (.v _ rfl))))
theorem stop_panic {ops rest : List Oper} {dst : Option Tmp} {t ty : TypeId} {x : Operand} {v : Value} {pos : String} {af : Array Edge} (hx : opdOK x = true) (hv : val e x = .d (.v (.iface t v))) (h : K (.panic (chainOf (.iface t v))) e s) :
 Stop C ops (⟨dst,.panic x,ty,pos,af,none⟩ :: rest) e s K:=by
 intro β a w inv
 have hr:=val_rp inv x hx
 rw [hv] at hr
 have he : a.eval x = .iface t v:=by
  generalize a.eval x = y at hr
  cases hr with
  | d h=>cases h; rfl
 unfold wpList
 rw [if_pos (show Region.wanted (⟨dst,.panic x,ty,pos,af,none⟩ : Oper) _ = true from rfl)]
 refine .inl ?_
 unfold Oper.wp
 have hrun : (execOp a.eval ⟨dst,.panic x,ty,pos,af,none⟩).run P w = .halt (.panic (.iface t v)) w:=by
  simp only [execOp,Instr.panic]
  rw [he]
  rfl
 rw [hrun]
 exact ⟨β,e,s,inv,h⟩
theorem stop_callX {ops rest : List Oper} {e : Env} {sc : St} {K : Exit → Env → St → Prop} {f : FuncId} {dst : Option Tmp} {args : Array Operand} {ats : Array TypeId} {ty : TypeId} {pos : String} {af : Array Edge}
 (hB : regOK N (⟨dst,.call ⟨.value (.func f),args,ats⟩,ty,pos,af,none⟩ :: rest) = true) {as : List SV} {s s' : St} {u : Value} (hk : oks true (vals e args.toList)) (ha : argF sc s (opns (vals e args.toList)) as) (hsub : subC sc s) (hcl : hinB s s) (hsame : sameD sc s s')
 (hf : XFn P Γ f as s u s') (h : K (.panic (chainOf u)) (jkE (inX (rowsOf s)) e) (mrg s' (jkS (inX (rowsOf s)) sc))) : Stop C ops (⟨dst,.call ⟨.value (.func f),args,ats⟩,ty,pos,af,none⟩ :: rest) e sc K:=by
 intro β a w inv
 simp only [regOK,List.all_cons,Bool.and_eq_true,opOK] at hB
 obtain ⟨⟨hdst,ho⟩,hB'⟩:=hB
 have hao : args.toList.all opdOK = true:=by
  simp only [Op.operands,Call.operands,Array.toList_append,List.all_append,Bool.and_eq_true] at ho
  exact ho.2
 unfold wpList
 rw [if_pos (show Region.wanted (⟨dst,.call ⟨.value (.func f),args,ats⟩,ty,pos,af,none⟩ : Oper) _ = true from rfl)]
 refine .inl ?_
 unfold Oper.wp
 rw [run_call hf.1]
 refine (callG_ok inv hsub hcl hsame (oks_rp inv args.toList hao hk) ha hf).mono ?_
 rintro en w' ⟨v, β',rfl,inv',hr⟩
 exact ⟨β',_,_,inv',h⟩
theorem stop_cS {ops rest : List Oper} {e : Env} {sc : St} {K : Exit → Env → St → Prop} {f : FuncId} {dst : Option Tmp} {args : Array Operand} {ats : Array TypeId} {ty : TypeId} {pos : String} {af : Array Edge}
 (hB : regOK N (⟨dst,.call ⟨.value (.func f),args,ats⟩,ty,pos,af,none⟩ :: rest) = true) {as : List SV} {s s' : St} {ret : SV} (hc : oks true (vals e args.toList) ∧ argF sc s (opns (vals e args.toList)) as ∧ subC sc s ∧ hinB s s ∧ sameD sc s s')
 (hf : SFn P Γ f as s ret s') (h : vcOps C ops rest (putO dst ret (jkE (inX (rowsOf s)) e)) (mrg s' (jkS (inX (rowsOf s)) sc)) K) : Stop C ops (⟨dst,.call ⟨.value (.func f),args,ats⟩,ty,pos,af,none⟩ :: rest) e sc K :=
 stop_callS hB hc.1 hc.2.1 hc.2.2.1 hc.2.2.2.1 hc.2.2.2.2 hf h
theorem stop_cX {ops rest : List Oper} {e : Env} {sc : St} {K : Exit → Env → St → Prop} {f : FuncId} {dst : Option Tmp} {args : Array Operand} {ats : Array TypeId} {ty : TypeId} {pos : String} {af : Array Edge}
 (hB : regOK N (⟨dst,.call ⟨.value (.func f),args,ats⟩,ty,pos,af,none⟩ :: rest) = true) {as : List SV} {s s' : St} {u : Value} (hc : oks true (vals e args.toList) ∧ argF sc s (opns (vals e args.toList)) as ∧ subC sc s ∧ hinB s s ∧ sameD sc s s')
 (hf : XFn P Γ f as s u s') (h : K (.panic (chainOf u)) (jkE (inX (rowsOf s)) e) (mrg s' (jkS (inX (rowsOf s)) sc))) : Stop C ops (⟨dst,.call ⟨.value (.func f),args,ats⟩,ty,pos,af,none⟩ :: rest) e sc K :=
 stop_callX hB hc.1 hc.2.1 hc.2.2.1 hc.2.2.2.1 hc.2.2.2.2 hf h
end
abbrev tyOf {P : Prop} (_ : P) : Prop:=P
theorem tyOk {P : Prop} (h : P) : tyOf h:=h
theorem UN : tyOf (
 And.intro @SV.jk.eq_12 (And.intro @SV.sc.eq_10 (And.intro @Box.jk.eq_3 (And.intro @lookO.eq_1 (And.intro @lookO.eq_2 (And.intro @entO.eq_1 (And.intro @entO.eq_2 (And.intro @entM.eq_1 (And.intro @entM.eq_2 (And.intro
 @valV.eq_1 (And.intro @vcOps.eq_1 (And.intro @vcOps.eq_2 (And.intro @stepO.eq_1 (And.intro @val.eq_1 (And.intro @val.eq_2 (And.intro @val.eq_3 (And.intro @val.eq_4 (And.intro @vals.eq_1 (And.intro @vals.eq_2 (And.intro
 @lk.eq_1 (And.intro @lk.eq_2 (And.intro @put.eq_1 (And.intro @put.eq_2 (And.intro @putO.eq_1 (And.intro @putO.eq_2 (And.intro @opn.eq_1 (And.intro @opn.eq_2 (And.intro @opns.eq_1 (And.intro @opns.eq_2 (And.intro @ok1.eq_1
 (And.intro @ok1.eq_2 (And.intro @oks.eq_1 (And.intro @oks.eq_2 (And.intro @okp.eq_1 (And.intro @okp.eq_2 (And.intro @pickV.eq_1 (And.intro @pickV.eq_2 (And.intro @ofV.eq_1 (And.intro @ofV.eq_2 (And.intro @ofV.eq_3
 (And.intro @ofV.eq_4 (And.intro @leafS.eq_1 (And.intro @leafS.eq_2 (And.intro @scs.eq_1 (And.intro @scs.eq_2 (And.intro @SV.sc.eq_1 (And.intro @SV.sc.eq_2 (And.intro @SV.sc.eq_3 (And.intro @SV.sc.eq_4 (And.intro
 @SV.sc.eq_5 (And.intro @SV.sc.eq_6 (And.intro @SV.sc.eq_7 (And.intro @SV.sc.eq_8 (And.intro @SV.sc.eq_9 (And.intro @SV.cells.eq_1 (And.intro @SV.cells.eq_2 (And.intro @SV.cells.eq_3 (And.intro @nx.eq_1 (And.intro @nx.eq_2
 (And.intro @loadC.eq_1 (And.intro @loadC.eq_2 (And.intro @upd.eq_1 (And.intro @bin.eq_1 (And.intro @bin.eq_2 (And.intro @bin.eq_3 (And.intro @bin.eq_4 (And.intro @bin.eq_5 (And.intro @bin.eq_6 (And.intro @bin.eq_7
 (And.intro @bin.eq_8 (And.intro @bin.eq_9 (And.intro @bin.eq_10 (And.intro @bin.eq_11 (And.intro @bin.eq_12 (And.intro @binS.eq_1 (And.intro @binS.eq_2 (And.intro @binS.eq_3 (And.intro @binS.eq_4 (And.intro @binS.eq_5
 (And.intro @binS.eq_6 (And.intro @binS.eq_7 (And.intro @binS.eq_8 (And.intro @binB.eq_1 (And.intro @binB.eq_2 (And.intro @binB.eq_3 (And.intro @eqA.eq_1 (And.intro @aggOf.eq_1 (And.intro @aggOf.eq_2 (And.intro @aggOf.eq_3
 (And.intro @leavesV.eq_1 (And.intro @leavesV.eq_2 (And.intro @leavesV.eq_3 (And.intro @eqV.eq_1 (And.intro @eqV.eq_2 (And.intro @eqV.eq_3 (And.intro @eqV.eq_4 (And.intro @eqL.eq_1 (And.intro @eqL.eq_2 (And.intro @eqL.eq_3
 (And.intro @un1.eq_1 (And.intro @un1.eq_2 (And.intro @un1.eq_3 (And.intro @cnv.eq_1 (And.intro @cnv.eq_2 (And.intro @cnv.eq_3 (And.intro @bnd.eq_1 (And.intro @bnd.eq_2 (And.intro @slO.eq_1 (And.intro @slO.eq_2 (And.intro
 @lenV.eq_1 (And.intro @lenV.eq_2 (And.intro @lenV.eq_3 (And.intro @lenV.eq_4 (And.intro @lenT.eq_1 (And.intro @lenT.eq_2 (And.intro @mkF.eq_1 (And.intro @mkF.eq_2 (And.intro @callO.eq_1 (And.intro @bltO.eq_1 (And.intro
 @bltO.eq_2 (And.intro @bltO.eq_3 (And.intro @lenO.eq_1 (And.intro @lenO.eq_2 (And.intro @appO.eq_1 (And.intro @appO.eq_2 (And.intro @srcO.eq_1 (And.intro @srcO.eq_2 (And.intro @srcO.eq_3 (And.intro @srcO.eq_4 (And.intro
 @notI.eq_1 (And.intro @notI.eq_2 (And.intro @jkE.eq_1 (And.intro @jkE.eq_2 (And.intro @jkS.eq_1 (And.intro @jkS.eq_2 (And.intro @SV.jk.eq_1 (And.intro @SV.jk.eq_2 (And.intro @SV.jk.eq_3 (And.intro @SV.jk.eq_4 (And.intro
 @SV.jk.eq_5 (And.intro @SV.jk.eq_6 (And.intro @SV.jk.eq_7 (And.intro @SV.jk.eq_8 (And.intro @SV.jk.eq_9 (And.intro @SV.jk.eq_10 (And.intro @SV.jk.eq_11 (And.intro @SV.jks.eq_1 (And.intro @SV.jks.eq_2 (And.intro
 @Box.jk.eq_1 (And.intro @Box.jk.eq_2 (And.intro @buildO.eq_1 (And.intro @fillO.eq_1 (And.intro @fillO.eq_2 (And.intro @bslO.eq_1 (And.intro @elemsO.eq_1 (And.intro @elemsO.eq_2 (And.intro @SV.toD.eq_1 (And.intro
 @SV.toD.eq_2 (And.intro @SV.toD.eq_3 (And.intro @SV.toD.eq_4 (And.intro @SV.toD.eq_5 (And.intro @SV.toD.eq_6 (And.intro @SV.toDs.eq_1 (And.intro @SV.toDs.eq_2 (And.intro @SV.owns.eq_1 (And.intro @SV.owns.eq_2 (And.intro
 @SV.owns.eq_3 (And.intro @SV.owns.eq_4 (And.intro @SV.ownss.eq_1 (And.intro @SV.ownss.eq_2 (And.intro @D.cells.eq_1 (And.intro @D.cells.eq_2 (And.intro @gVal.eq_1 (And.intro @offE.eq_1 (And.intro @offE.eq_2 (And.intro
 @offS.eq_1 (And.intro @offS.eq_2 (And.intro @D.fits.eq_1 (And.intro @dscs.eq_1 (And.intro @dscs.eq_2 (And.intro @dscs.eq_3 (And.intro @dscs.eq_4 (And.intro @nbeq (And.intro @nble
 (@Int.cast_ofNat_Int))))))))))))))))))))))))))))))))))))))))))))))))))))))))))))))))))))))))))))))))))))))))))))))))))))))))))))))))))))))))))))))))))))))))))))))))))))))))))))))))))))))))))))))))))))))))):=tyOk _
theorem UA : tyOf (
 And.intro @hin.eq_12 (And.intro @subC.eq_4 (And.intro @hinB.eq_4 (And.intro @sameD.eq_5 (And.intro @argF.eq_1 (And.intro @argF.eq_2 (And.intro @argF.eq_3 (And.intro @argOne.eq_1 (And.intro @argOne.eq_2 (And.intro
 @hin.eq_1 (And.intro @hin.eq_2 (And.intro @hin.eq_3 (And.intro @hin.eq_4 (And.intro @hin.eq_5 (And.intro @hin.eq_6 (And.intro @hin.eq_7 (And.intro @hin.eq_8 (And.intro @hin.eq_9 (And.intro @hin.eq_10 (And.intro @hin.eq_11
 (And.intro @hins.eq_1 (And.intro @hins.eq_2 (And.intro @subC.eq_1 (And.intro @subC.eq_2 (And.intro @subC.eq_3 (And.intro @hinB.eq_1 (And.intro @hinB.eq_2 (And.intro @hinB.eq_3 (And.intro @sameD.eq_1 (And.intro @sameD.eq_2
 (And.intro @sameD.eq_3 (And.intro @sameD.eq_4 (And.intro @newS.eq_1 (And.intro @newS.eq_2 (And.intro @Option.isSome_some.{0} (@Option.isNone_none.{0})))))))))))))))))))))))))))))))))))):=tyOk _
theorem UM : tyOf (
 And.intro @rowsOf.eq_4 (And.intro @mrg.eq_1 (And.intro @mrg.eq_2 (And.intro @rowsOf.eq_1 (And.intro @rowsOf.eq_2 (And.intro @rowsOf.eq_3 (And.intro @inX.eq_1 (@inX.eq_2)))))))):=tyOk _
theorem US : tyOf (
 And.intro @FZ.eq_13 (And.intro @BoxW.eq_4 (And.intro @keepS.eq_1 (And.intro @keepS.eq_2 (And.intro @subS.eq_1 (And.intro @subS.eq_2 (And.intro @subE.eq_1 (And.intro @subE.eq_2 (And.intro @BoxW.eq_1 (And.intro @BoxW.eq_2
 (And.intro @BoxW.eq_3 (And.intro @FZs.eq_1 (And.intro @FZs.eq_2 (And.intro @FZs.eq_3 (And.intro @FZ.eq_1 (And.intro @FZ.eq_2 (And.intro @FZ.eq_3 (And.intro @FZ.eq_4 (And.intro @FZ.eq_5 (And.intro @FZ.eq_6 (And.intro
 @FZ.eq_7 (And.intro @FZ.eq_8 (And.intro @FZ.eq_9 (And.intro @FZ.eq_10 (And.intro @FZ.eq_11 (And.intro @FZ.eq_12 (And.intro @offl.eq_1 (And.intro @offl.eq_2 (@Option.isSome_some.{0}))))))))))))))))))))))))))))):=tyOk _
end Go.Sw
namespace Go.Sw
open Go.RowKit

section
variable {P : Program} {N : Nat} {Γ : Gl} {C : Cx P N Γ} {K : Exit → Env → St → Prop} {e : Env} {s : St}
theorem stop_val {ops rest : List Oper} {dst : Option Tmp} {op : Op} {ty : TypeId} {pos : String} {af : Array Edge} (z : D) (hB : regOK N (⟨dst,op,ty,pos,af,none⟩ :: rest) = true) (hl : z.lean = true)
 (hrun : ∀ (a : Act) (w : World),(∀ x d,opdOK x = true → val e x = .d d → d.lean = true → a.eval x = d.val) → (execOp a.eval ⟨dst,op,ty,pos,af,none⟩).run P w = .ok (.value z.val) w)
 (h : vcOps C ops rest (putO dst (.d z) e) s K) : Stop C ops (⟨dst,op,ty,pos,af,none⟩ :: rest) e s K:=by
 intro β a w inv
 simp only [regOK,List.all_cons,Bool.and_eq_true,opOK] at hB
 obtain ⟨⟨hdst,ho⟩,hB'⟩:=hB
 have ih:=vcOps_ok (ops:=ops) hB' h
 refine wpList_plain rfl fun K' hK'=>?_
 unfold Oper.wp
 rw [hrun a w fun x d hx hv hd=>by
  have hr:=val_rp inv x hx
  rw [hv] at hr
  generalize a.eval x = y at hr
  cases hr with
  | d h=>exact RpD.val hd h]
 exact hK' _ _ (ih β _ _ (inv.put dst hdst (.d (RpD.ofVal hl))))
theorem kseq_p {b : Code} {ch : List PanicEntry} (h : K (.panic ch) e s) : Kseq C b K (.panic ch) e s:=h
theorem kblk_p {id : Nat} {ch : List PanicEntry} (h : K (.panic ch) e s) : Kblk id K (.panic ch) e s:=h
theorem kloop_p {α : Type} {E : α → Env} {S : α → St} {I : α → Prop} {μ : α → Nat} {x : α} {ch : List PanicEntry} (h : K (.panic ch) e s) : Kloop C E S I μ x K (.panic ch) e s:=h
theorem swp_midK {x b : Code} (E : Env) (S : St) (h : Swp C x (fun ex e s=>ex = .normal ∧ Sub C e s E S) e s) (h2 : Swp C b K E S) : Swp C x (Kseq C b K) e s:=fun β a w inv =>
 wp_mono (h β a w inv) fun ex a w ⟨β,e,s,i,hx,hs⟩=>by
  subst hx
  refine ⟨β,e,s,i,fun β a w i=>?_⟩
  obtain ⟨β',i'⟩:=hs β a w i
  exact h2 β' a w i'
end
end Go.Sw
namespace Go.Sw
open Go.RowKit

section
variable {P : Program} {N : Nat} {Γ : Gl} {C : Cx P N Γ} {K : Exit → Env → St → Prop} {e : Env} {s : St}
def Sany (C : Cx P N Γ) (ops : List Oper) (n : Nat) (ls : Array Bool) (e : Env) (s : St) (K : Exit → Env → St → Prop) : Prop :=
 ∀ β a w,InvB C β e s a w → wpAny P .any ops.toArray (fun ex a w => ∃ β e s,InvB C β e s a w ∧ K ex e s) n ls a w
theorem swp_any {id : Nat} {l : List Oper} (hm : P.follows .mixedOrders = true) (h : ∀ K' : Exit → Env → St → Prop,(∀ e s,K .normal e s → K' .normal e s) → (∀ ch e s,K (.panic ch) e s → K' (.panic ch) e s) → Sany C l l.toArray.size (Array.replicate l.toArray.size false) e s K') :
 Swp C (.region id l.toArray true) K e s:=fun β a w inv =>
 wp_region_any hm (h K (fun _ _ h=>h) (fun _ _ _ h=>h) β a _ (inv.grow ((Below.refl w.heap.size w).drew)))
theorem swp_anyK {id : Nat} {l : List Oper} (hm : P.follows .mixedOrders = true) (hE : ∀ c e s,K (.panic c) e s → K (.panic c) [] s)
 (h : ∀ K' : Exit → Env → St → Prop,(∀ e s,K .normal e s → K' .normal e s) → (∀ ch e s,K (.panic ch) e s → K' (.panic ch) e s) → (∀ c e s,K' (.panic c) e s → K' (.panic c) [] s) → Sany C l l.toArray.size (Array.replicate l.toArray.size false) e s K') :
 Swp C (.region id l.toArray true) K e s:=fun β a w inv =>
 wp_region_any hm (h K (fun _ _ h=>h) (fun _ _ _ h=>h) hE β a _ (inv.grow ((Below.refl w.heap.size w).drew)))
def Aop (C : Cx P N Γ) (o : Oper) (e : Env) (s : St) (J : Env → St → Prop) (K : Exit → Env → St → Prop) : Prop :=
 ∀ β a w,InvB C β e s a w → ∀ K' : Act → World → Prop,(∀ β a w e s,InvB C β e s a w → J e s → K' a w) → o.wp P a w K' (fun ex a w => ∃ β e s,InvB C β e s a w ∧ K ex e s)
theorem any_all {ops : List Oper} {rs : List Nat} {n : Nat} {ls : Array Bool} (hr : Region.ready .any ops.toArray ls = rs) (hne : rs ≠ [])
 (h : ∀ i ∈ rs, ∃ o,ops[i]? = some o ∧ o.guard = none ∧ Aop C o e s (fun e s=>Sany C ops n (ls.setIfInBounds i true) e s K) K) : Sany C ops (n + 1) ls e s K:=fun β a w inv =>
 wpAny_all hr hne fun i hi=>by
  obtain ⟨o,ho,hg,hA⟩:=h i hi
  unfold wpOp
  rw [show ops.toArray[i]? = some o by simpa using ho]
  simp only
  rw [if_pos (show Region.wanted o (yielded ops.toArray a.tmps) = true by simp [Region.wanted,hg])]
  exact .inl (hA β a w inv _ fun β a w e s i2 hJ=>hJ β a w i2)
theorem any_done {ops : List Oper} {n : Nat} {ls : Array Bool} (hr : Region.ready .any ops.toArray ls = []) (h : K .normal e s) : Sany C ops n ls e s K:=fun β a w inv=>wpAny_done hr ⟨β,e,s,inv,h⟩ n
theorem any_move {ops : List Oper} {i n : Nat} {ls : Array Bool} {dst : Option Tmp} {x : Operand} {ty : TypeId} {pos : String} {af : Array Edge} (ho : ops[i]? = some ⟨dst,.move x,ty,pos,af,none⟩) (hs : Region.noSelect ops.toArray = true)
 (hf : Region.free .any ops.toArray ls i = true) (hr : (Region.ready .any ops.toArray ls).contains i = true) (hx : opdOK x = true) (hd : dst.all (fun d=>decide (d < N)) = true) (hK : ∀ c e' s',K (.panic c) e' s' → K (.panic c) [] s')
 (h : Sany C ops n (ls.setIfInBounds i true) (putO dst (val e x) e) s K) : Sany C ops (n + 1) ls e s K:=fun β a w inv =>
 wpAny_take (oi:=⟨dst,.move x,ty,pos,af,none⟩) (v:=a.eval x) (by simpa using ho) hs hf hr (fun c a' w' ⟨β2,e2,s2,i2,hk⟩=>⟨β2,[],s2,by
  have hz : a'.tmps.size = N:=by
   have:=i2.size
   cases dst with
   | none=>exact this
   | some d=>simpa [Act.put] using this
  have hdf : a'.defers = C.ds:=by
   have:=i2.defers
   cases dst with
   | none=>exact this
   | some d=>simpa [Act.put] using this
  exact ⟨i2.wr,i2.base,fun t x h=>(by cases h),hz,hdf,i2.glob,i2.big,i2.since⟩,hK _ _ _ hk⟩) (.inl ⟨rfl,fun w=>rfl⟩) (h β _ w (inv.put dst hd (val_rp inv x hx)))
theorem aop_step {J : Env → St → Prop} {o : Oper} {p : Prop} {x : SV} {e' : Env} {s' : St} (hd : o.dst.all (fun d=>decide (d < N)) = true) (ho : o.op.operands.toList.all opdOK = true) (hs : stepO P true o e s = some (p,x,e',s')) (hp : p)
 (hJ : J (putO o.dst x e') s') : Aop C o e s J K:=fun β a w inv K' hK'=>stepO_ok ho hs hp β a w inv K' _ fun β' v w' inv' _ hr=>hK' β' _ _ _ _ (inv'.put o.dst hd hr) hJ
end
end Go.Sw
