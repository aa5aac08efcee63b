/- graph.name; a symbolic walk. -/
-- TYPESC
import Derived.Test.YtgecnlcbdbaneaaDoorKB1
import Derived.Test.YtgecnlcbdbaneaaDoorU6
set_option linter.unusedVariables false
set_option linter.unusedSimpArgs false
namespace Go.Sw
open Go.RowKit
section
variable {P : Program} {N : Nat} {Γ : Gl} {C : Cx P N Γ} {K : Exit → Env → St → Prop} {e : Env} {s : St}
theorem stop_rune {ops rest : List Oper} {dst : Option Tmp} {src dt ty : TypeId} {x : Operand} {pos : String} {af : Array Edge} {k k' : IntKind} {n : Int} (hs : P.underlying src = some (.int k')) (hd : P.underlying dt = some .string)
 (hB : regOK N (⟨dst,.convert src dt x,ty,pos,af,none⟩ :: rest) = true) (hx : opn (val e x) = .d (.v (.int k n))) (hk : ok1 true (val e x))
 (h : vcOps C ops rest (putO dst (.d (.v (.string (Utf8.encode n)))) e) s K) : Stop C ops (⟨dst,.convert src dt x,ty,pos,af,none⟩ :: rest) e s K:=by
 refine vcOps_ok hB ?_
 unfold vcOps
 have hst : stepO P true ⟨dst,.convert src dt x,ty,pos,af,none⟩ e s = some (ok1 true (val e x),.d (.v (.string (Utf8.encode n))),e,s):=by
  show (cnv P src dt (opn (val e x))).map _ = _
  rw [hx,cnv.eq_3 P src dt k n k' hs hd]
  rfl
 simp only [hst]
 exact ⟨hk,h⟩
theorem stop_runeT (m : Nat) {ops rest : List Oper} {dst : Option Tmp} {src dt ty : TypeId} {x : Operand} {pos : String} {af : Array Edge} {k k' : IntKind} {n : Int} (hs : P.underlying src = some (.int k')) (hd : P.underlying dt = some .string)
 (hB : regOK N (⟨dst,.convert src dt x,ty,pos,af,none⟩ :: rest) = true) (hx : opn (val e x) = .d (.v (.int k n))) (hk : ok1 true (val e x))
 (h : vcTo C ops m rest (putO dst (.d (.v (.string (Utf8.encode n)))) e) s K) : Stop C ops (⟨dst,.convert src dt x,ty,pos,af,none⟩ :: rest) e s K:=by
 refine vcTo_ok (m + 1) hB ?_
 unfold vcTo
 have hst : stepO P true ⟨dst,.convert src dt x,ty,pos,af,none⟩ e s = some (ok1 true (val e x),.d (.v (.string (Utf8.encode n))),e,s):=by
  show (cnv P src dt (opn (val e x))).map _ = _
  rw [hx,cnv.eq_3 P src dt k n k' hs hd]
  rfl
 simp only [hst]
 exact ⟨hk,h⟩
end
end Go.Sw
namespace Go.Proofs.YtgecnlcbdbaneaaDoor
open Go.RowKit Go.Sw
open Go.Sw renaming swp_seq → zw0, kseq_n → zw6, swp_region → zw17

theorem name_one : ∀ k : Fin 200,k.val < 26 → Utf8.encode (IntKind.i32.wrap (IntKind.i64.wrap (97 + (k.val : Int)))) = nameP k.val:=by decide +kernel
theorem name_two : ∀ k : Fin 200, ¬ k.val < 26 → Utf8.encode (IntKind.i32.wrap (IntKind.i64.wrap (IntKind.i64.wrap (97 + IntKind.i64.wrap ((k.val : Int).tdiv 26)) - 1))) ++ Utf8.encode (IntKind.i32.wrap (IntKind.i64.wrap (97 + (k.val : Int).tmod 26))) = nameP k.val:=by decide +kernel
theorem name_len : ∀ k : Fin 200, ¬ k.val < 26 → (Utf8.encode (IntKind.i32.wrap (IntKind.i64.wrap (IntKind.i64.wrap (97 + IntKind.i64.wrap ((k.val : Int).tdiv 26)) - 1)))).size + (Utf8.encode (IntKind.i32.wrap (IntKind.i64.wrap (97 + (k.val : Int).tmod 26)))).size ≤ maxLen:=by decide +kernel
set_option maxHeartbeats 4000000 in
set_option maxRecDepth 100000 in
theorem name_fn (Γ : Gl) (k : Int) (h0 : 0 ≤ k) (h1 : k < 200) : DFn Tryd.prog Γ 72 [iD k] (sD (nameP k)):=by
 have ek : ((k.toNat : Nat) : Int) = k:=by omega
 have e1:=name_one ⟨k.toNat,by omega⟩
 have e2:=name_two ⟨k.toNat,by omega⟩
 have e3:=name_len ⟨k.toNat,by omega⟩
 simp only [ek] at e1 e2 e3
 refine fn_of_swp (N:=21) Tryd.func72 rfl (by decide) rfl rfl (by simp) (fun C h0=>?_)
 simp only [argE]
 by_cases hk : k < 26
 · have e1:=e1 (by omega)
   repeat (with_reducible refine zw0 ?_)
   (with_reducible refine zw17 ?_ (fun K' hK'=>?_)
    · rfl
    simp only [WC,simprocAttr]
    (repeat (refine And.intro ?_ ?_;focus (clear hK';intros;simp_all;done))))
   refine hK' _ _ ?_
   clear hK' K'
   refine zw6 ?_
   repeat (with_reducible refine zw0 ?_)
   (with_reducible refine zw17 ?_ (fun K' hK'=>?_)
    · rfl
    simp only [WC,simprocAttr,hk]
    (repeat (refine And.intro ?_ ?_;focus (clear hK';intros;simp_all;done))))
   refine hK' _ _ ?_
   clear hK' K'
   refine zw6 ?_
   repeat (with_reducible refine zw0 ?_)
   ((with_reducible refine swp_cond ?_ ?_);rfl;refine ⟨_,rfl,fun h=>?_,fun h=>?_⟩ <;> try exact absurd h (by decide))
   repeat (with_reducible refine zw0 ?_)
   (with_reducible refine swp_regionS (fun K' hK'=>?_))
   refine vcTo_ok 3 rfl ?_
   simp only [WC,simprocAttr,vcTo]
   (repeat (refine And.intro ?_ ?_;focus (clear hK';intros;simp_all;done)))
   refine stop_rune un21 un9 rfl rfl trivial ?_
   -- TRACE
   simp only [WC,simprocAttr,e1]
   (try (refine hK' _ _ ?_;clear hK' K'))
   repeat' (first|(with_reducible apply zz1)|((with_reducible refine zz4 ?_ ?_);rfl)|((with_reducible refine zz2 ?_ (fun K' hK'=>?_));rfl;simp only [WC,simprocAttr];(repeat (refine And.intro ?_ ?_;focus (clear hK';intros;simp_all;done)));(try (refine hK' _ _ ?_;clear hK' K')))|((with_reducible refine zz3 ?_ ?_);rfl;refine ⟨_,rfl,fun h=>?_,fun h=>?_⟩ <;> try exact absurd h (by decide)))
   simp only [Kret,retL,retOne,oneV,WC,simprocAttr]
 · have e2:=e2 (by omega)
   have e3:=e3 (by omega)
   repeat (with_reducible refine zw0 ?_)
   (with_reducible refine zw17 ?_ (fun K' hK'=>?_)
    · rfl
    simp only [WC,simprocAttr]
    (repeat (refine And.intro ?_ ?_;focus (clear hK';intros;simp_all;done))))
   refine hK' _ _ ?_
   clear hK' K'
   refine zw6 ?_
   repeat (with_reducible refine zw0 ?_)
   (with_reducible refine zw17 ?_ (fun K' hK'=>?_)
    · rfl
    simp only [WC,simprocAttr,hk]
    (repeat (refine And.intro ?_ ?_;focus (clear hK';intros;simp_all;done))))
   refine hK' _ _ ?_
   clear hK' K'
   refine zw6 ?_
   repeat (with_reducible refine zw0 ?_)
   ((with_reducible refine swp_cond ?_ ?_);rfl;refine ⟨_,rfl,fun h=>?_,fun h=>?_⟩ <;> try exact absurd h (by decide))
   refine swp_skip ?_
   refine zw6 ?_
   repeat (with_reducible refine zw0 ?_)
   (with_reducible refine swp_regionS (fun K' hK'=>?_))
   refine vcTo_ok 5 rfl ?_
   simp only [WC,simprocAttr,vcTo]
   (repeat (refine And.intro ?_ ?_;focus (clear hK';intros;simp_all;done)))
   refine stop_runeT 4 un21 un9 rfl rfl trivial ?_
   simp only [WC,simprocAttr,vcTo]
   (repeat (refine And.intro ?_ ?_;focus (clear hK';intros;simp_all;done)))
   -- TRACE
   refine stop_rune un21 un9 rfl rfl trivial ?_
   simp only [WC,simprocAttr,e3,e2]
   (try (refine hK' _ _ ?_;clear hK' K'))
   repeat' (first|(with_reducible apply zz1)|((with_reducible refine zz4 ?_ ?_);rfl)|((with_reducible refine zz2 ?_ (fun K' hK'=>?_));rfl;simp only [WC,simprocAttr];(repeat (refine And.intro ?_ ?_;focus (clear hK';intros;simp_all;done)));(try (refine hK' _ _ ?_;clear hK' K')))|((with_reducible refine zz3 ?_ ?_);rfl;refine ⟨_,rfl,fun h=>?_,fun h=>?_⟩ <;> try exact absurd h (by decide)))
   simp only [Kret,retL,retOne,oneV,WC,simprocAttr]
theorem ds_mapT : ∀ l : List Tp,Tp.ds l = l.map Tp.d
 | []=>rfl
 | x :: l=>by simp [Tp.ds,ds_mapT l]
theorem ds_appT (l : List Tp) (x : Tp) : Tp.ds (l ++ [x]) = Tp.ds l ++ [x.d]:=by simp [ds_mapT]
end Go.Proofs.YtgecnlcbdbaneaaDoor
