/- global.IsRole, labels, shaped; a symbolic walk. -/
-- TYPESA
import Derived.Test.YtlnmkdbcdcknjaaDoorU2
import Derived.Test.YtlnmkdbcdcknjaaDoorSwD
set_option linter.unusedVariables false
set_option linter.unusedSimpArgs false
namespace Go.Proofs.YtlnmkdbcdcknjaaDoor.GG
open Go.RowKit Go.Sw

inductive Gt where
 | mk (k : Int) (fr to : ByteArray) (so : Int) (nm : ByteArray) (ls : List ByteArray) (kids : List Gt)
mutual
def Gt.d : Gt → D
 | .mk k fr to so nm ls l=>.agg [.v (.int .i64 k),.v (.string fr),.v (.string to),.v (.int .i64 so),.v (.string nm),.slc (ls.map fun b=>.v (.string b)),.slc (Gt.ds l)]
def Gt.ds : List Gt → List D
 | []=>[]
 | x :: l=>Gt.d x :: Gt.ds l
end
theorem Gt.ds_len : ∀ l : List Gt,(Gt.ds l).length = l.length
 | []=>rfl
 | x :: l=>by simp [Gt.ds,Gt.ds_len l]
theorem Gt.ds_get : ∀ (l : List Gt) (j : Nat) (x : Gt),l[j]? = some x → (Gt.ds l).getD j default = x.d
 | y :: l,0,x,h=>by simp at h;subst h;simp [Gt.ds]
 | y :: l,j + 1,x,h=>by
  have:=Gt.ds_get l j x (by simpa using h)
  simpa [Gt.ds] using this
def isRoleB (s : ByteArray) : Bool:=bif bif (s.size : Int) == 1 then decide ((97 : Int) ≤ ((s.data.toList.getD 0 0).toNat : Nat)) else false then decide ((((s.data.toList.getD 0 0).toNat : Nat) : Int) ≤ 104) else false
set_option maxHeartbeats 4000000 in
set_option maxRecDepth 100000 in
theorem isRole_fn (Γ : Gl) (s : ByteArray) : DFn Tryd.prog Γ 42 [sD s] (.v (.bool (isRoleB s))):=by
 unfold isRoleB
 by_cases h1 : (s.size : Int) = 1
 · have g1 : ((s.size : Int) == 1) = true:=by simpa using h1
   have g2 : (0 : Int) < (s.size : Int):=by omega
   refine fn_of_swp (N:=16) Tryd.func42 rfl (by decide) rfl rfl (by simp) (fun C h0=>?_)
   simp only [argE]
   repeat' (first|(with_reducible apply zz1)|((with_reducible apply zz2);rfl;intro K' hK';simp only [WA,simprocAttr,g1,g2,Int.le_refl,Bool.not_true,Bool.not_false,cond_true,cond_false];(repeat (constructor;focus (clear hK';intros;simp_all;done)));(try (apply hK';clear hK' K')))|((with_reducible apply zz3);rfl;all_goals (intro h;try exact absurd h (by decide))))
   simp only [Kret,retL,retOne,oneV,WA,simprocAttr,g1]
 · have g1 : ((s.size : Int) == 1) = false:=by simpa using h1
   refine fn_of_swp (N:=16) Tryd.func42 rfl (by decide) rfl rfl (by simp) (fun C h0=>?_)
   simp only [argE]
   repeat' (first|(with_reducible apply zz1)|((with_reducible apply zz2);rfl;intro K' hK';simp only [WA,simprocAttr,g1,Bool.not_true,Bool.not_false,cond_true,cond_false,false_implies,Bool.false_eq_true];(repeat (constructor;focus (clear hK';intros;simp_all;done)));(try (apply hK';clear hK' K')))|((with_reducible apply zz3);rfl;all_goals (intro h;try exact absurd h (by decide))))
   simp only [Kret,retL,retOne,oneV,WA,simprocAttr,g1]
end Go.Proofs.YtlnmkdbcdcknjaaDoor.GG
