/- dual.Kind, graph.Check of a graph that is right; a symbolic walk. -/
import Derived.Test.YtgecnlcbdbaneaaDoorH10
import Derived.Test.YtgecnlcbdbaneaaDoorHQ4
import Derived.Test.YtgecnlcbdbaneaaDoorSwD
import Derived.Test.YtgecnlcbdbaneaaDoorU6
-- TYPESA
set_option linter.unusedVariables false
set_option linter.unusedSimpArgs false
namespace Go.Proofs.YtgecnlcbdbaneaaDoor
open Go.RowKit Go.Sw

def dKind (k : Int) : Int:=if k = 2 ∨ k = 4 ∨ k = 6 then k + 1 else if k = 3 ∨ k = 5 ∨ k = 7 then k - 1 else k
def nodeT (k so : Int) (ls : List ByteArray) (m : Nat) : Tp:=.mk k so noB ls (List.replicate m (.mk 1 0 noB [] []))
theorem tchks_ends : ∀ (m : Nat) (b : List ByteArray) (left : Int),(m : Int) ≤ left → (tchks (List.replicate m (.mk 1 0 noB [] [])) b left).1 = 0
 | 0,b,left,h=>by simp [tchks]
 | m + 1,b,left,h=>by
  have e : tchk (.mk 1 0 noB [] []) b left = (0,left - 1):=by
   unfold tchk
   have hs : shapedB (.mk 1 0 noB [] []) = true:=by decide +kernel
   rw [if_neg (by omega),hs,if_neg (by decide),if_neg (by decide),if_neg (by decide)]
   simp [tchks]
  rw [List.replicate_succ]
  unfold tchks
  rw [e]
  rw [if_neg (by simp)]
  exact tchks_ends m b _ (by simp only;omega)
theorem ds_rep : ∀ m : Nat,Tp.ds (List.replicate m (.mk 1 0 noB [] [])) = List.replicate m (.agg [iD 1,iD 0,sD noB,.slc [],.slc []])
 | 0=>rfl
 | m + 1=>by rw [List.replicate_succ,List.replicate_succ, ← ds_rep m];rfl
theorem shaped_of {k so : Int} {ls : List ByteArray} {l : List Tp} (h : shp k so ls l.length) : shapedB (.mk k so noB ls l) = true:=by
 have he : emptyB noB = true:=by decide +kernel
 unfold shapedB kindOf shapeB
 rcases h with ⟨rfl,rfl,rfl,hm⟩ | ⟨hk,⟨h1,h3⟩,rfl,hm⟩ | ⟨hk,rfl,rfl,hm⟩ | ⟨hk,rfl,hl,hm⟩
 · simp [hm,sortB,he]
 · rcases hk with rfl | rfl <;> simp [hm,sortB,he,h1,h3]
 · rcases hk with rfl | rfl <;> simp [hm,sortB,he]
 · rcases hk with rfl | rfl <;> simp [hm,sortB,he,hl]
theorem node_check {k so : Int} {ls : List ByteArray} {m : Nat} (h : shp k so ls m) : tCheck (nodeT k so ls m) = 0:=by
 have hm : m ≤ 6:=by
  rcases h with ⟨-, -, -,h⟩ | ⟨-, -, -,h⟩ | ⟨-, -, -,h⟩ | ⟨-, -,h1,h⟩
  · omega
  · omega
  · omega
  · have:=labels_len h1;omega
 have hk : k ≠ 9 ∧ k ≠ 8:=by
  rcases h with ⟨h, -⟩ | ⟨h, -⟩ | ⟨h, -⟩ | ⟨h, -⟩ <;> omega
 unfold tCheck nodeT
 unfold tchk
 rw [if_neg (by omega),shaped_of (by rw [List.length_replicate];exact h),if_neg (by decide),if_neg hk.1,if_neg hk.2]
 exact tchks_ends m _ _ (by show (m : Int) ≤ 60 - 1;omega)
set_option maxHeartbeats 8000000 in
set_option maxRecDepth 100000 in
theorem gcheck_fn (Γ : Gl) (g : List Nd) (h0g : 0 < g.length) (h2 : g.length ≤ 200) (hg : ∀ n ∈ g,NdG g.length n) (hs : ShG g) : DFn Tryd.prog Γ 50 [.slc (g.map Nd.d)] (iD 0):=by
 have g1 : ((g.length : Int) == 0) = false:=by rw [beq_eq_false_iff_ne];omega
 have g2 : ¬ (200 : Int) < (g.length : Int):=by omega
 refine fn_of_swp (N:=53) Tryd.func50 rfl (by decide) rfl rfl (by simp) (fun C h0=>?_)
 simp only [argE]
 repeat' (first|(with_reducible apply zz1)|((with_reducible apply zz2);rfl;intro K' hK';simp only [WA,simprocAttr,List.length_map,g1,g2];(repeat (constructor;focus (clear hK';intros;simp_all;done)));(try (apply hK';clear hK' K')))|((with_reducible apply zz3);rfl;all_goals (intro h;try exact absurd h (by decide))))
 refine swp_loop (α := Nat) (fun i=>[(0,.d (.slc (g.map Nd.d))),(14,.d (.slc (g.map Nd.d))),(15,.d (iD g.length)),(16,.d (iD i))]) (fun _=>[])
  (fun i=>i ≤ g.length) (fun i=>g.length - i) 0 (Nat.zero_le _) (by refine sub_of h0 ?_ ?_ ?_ <;> simp only [US,WA,simprocAttr,List.length_map]) (fun i hi=>?_)
 have hi : i ≤ g.length:=hi
 have hb0 : (0 : Int) ≤ (i : Int):=by omega
 by_cases hlt : i < g.length
 · obtain ⟨x,hx⟩ : ∃ x,g[i]? = some x:=⟨g[i],by simp [hlt]⟩
   have hxm:=List.mem_of_getElem? hx
   have hget : (g.map Nd.d).getD i default = x.d:=by simp [List.getD,hx]
   have hok:=(hg x hxm).ok
   have hsx:=hs x hxm
   have hto:=hok.to
   have hr:=hok.r
   have hck:=TCheck_fn Γ (nodeT x.k x.so x.ls x.to.length)
   rw [node_check hsx] at hck
   have hb1 : (i : Int) < (g.length : Int):=by omega
   have hw3 : IntKind.i64.wrap ((i : Int) + 1) = ((i + 1 : Nat) : Int):=by rw [wrap_in (by omega) (by omega)];omega
   obtain ⟨k,so,ls,to⟩:=x
   simp only [Nd.d] at hget hto hr hck
   simp only [nodeT,Tp.d,ds_rep] at hck
   repeat' (first|(with_reducible apply zz1)|((with_reducible apply zz2);rfl;intro K' hK';simp only [WA,simprocAttr,Int.toNat_natCast,hget,List.length_map,hb0,hb1];(repeat (constructor;focus (clear hK';intros;simp_all;done)));(try (apply hK';clear hK' K')))|((with_reducible apply zz3);rfl;all_goals (intro h;try exact absurd h (by decide))))
   refine swp_nilB 1 4 2 5 rfl rfl rfl (by decide) ?_
   simp only [WA,simprocAttr]
   refine swp_loop (α := Nat) (fun j=>[(0,.d (.slc (g.map Nd.d))),(14,.d (.slc (g.map Nd.d))),(15,.d (iD g.length)),(16,.d (iD i)),(5,.ref 1 0),(28,.d (.slc (to.map iD))),(29,.d (iD to.length)),(30,.d (iD j))])
    (fun j=>[(1,.cells [.d (iD k),.d (iD so),.d (sD noB),.d (.slc (ls.map sD)),.own 2]),(2,.row 5 (List.replicate j (.agg [iD 1,iD 0,sD noB,.slc [],.slc []])))])
    (fun j=>j ≤ to.length) (fun j=>to.length - j) 0 (Nat.zero_le _) (by refine sub_of h0 ?_ ?_ ?_ <;> simp only [US,WA,simprocAttr,List.replicate_zero]) (fun j hj=>?_)
   have hj : j ≤ to.length:=hj
   have hj0 : (0 : Int) ≤ (j : Int):=by omega
   by_cases hjl : j < to.length
   · obtain ⟨y,hy⟩ : ∃ y,to[j]? = some y:=⟨to[j],by simp [hjl]⟩
     have hyr:=hr y (List.mem_of_getElem? hy)
     have hyg : (to.map iD).getD j default = iD y:=by simp [List.getD,hy]
     have hj1 : (j : Int) < (to.length : Int):=by omega
     have hy0 : ¬ y < 0:=by omega
     have hy1 : ¬ (g.length : Int) ≤ y:=by omega
     have hw2 : IntKind.i64.wrap ((j : Int) + 1) = ((j + 1 : Nat) : Int):=by rw [wrap_in (by omega) (by omega)];omega
     have hm : List.replicate j (D.agg [iD 1,iD 0,sD noB,.slc [],.slc []]) ++ [.agg [iD 1,iD 0,sD noB,.slc [],.slc []]] = List.replicate (j + 1) (.agg [iD 1,iD 0,sD noB,.slc [],.slc []]):=List.replicate_succ'.symm
     have hn3 : (j + 1) * 80 ≤ 140737488355328:=by omega
     have hn4 : j + 1 ≤ maxLen:=by unfold maxLen;omega
     repeat' (first|(with_reducible apply zz1)|((with_reducible apply zz2);rfl;intro K' hK';simp only [WA,simprocAttr,Int.toNat_natCast,hyg,hj0,hj1,hy0,hy1,hn3,hn4,hm,hw2,List.length_replicate,List.length_map,Bool.not_true,Bool.not_false,cond_true,cond_false];(repeat (constructor;focus (clear hK';intros;simp_all;done)));(try (apply hK';clear hK' K')))|((with_reducible apply zz3);rfl;all_goals (intro h;try exact absurd h (by decide))))
     refine ⟨j + 1,(by show j + 1 ≤ to.length;omega),(by show to.length - (j + 1) < to.length - j;omega),by refine sub_of h0 ?_ ?_ ?_ <;> simp only [US,WA,simprocAttr]⟩
   · have hj1 : ¬ (j : Int) < (to.length : Int):=by omega
     have hje : j = to.length:=by omega
     subst hje
     refine swp_frz [2] h0 (by simp only [Option.isSome_some,UF,WA,simprocAttr]) ?_
     simp only [WA,simprocAttr,UF]
     repeat' (first|(with_reducible apply zz1)|((with_reducible apply zz2);rfl;intro K' hK';simp only [WA,simprocAttr,hj1];(repeat (constructor;focus (clear hK';intros;simp_all;done)));(try (apply hK';clear hK' K')))|((with_reducible apply zz3);rfl;all_goals (intro h;try exact absurd h (by decide))))
     refine stop_callF rfl (by simp only [WA,simprocAttr]) rfl rfl (hck) ?_
     simp only [WA,simprocAttr,inX,dropS,bne_self_eq_false]
     (repeat (constructor;focus (clear hK';intros;simp_all;done)))
     (try (apply hK';clear hK' K'))
     repeat' (first|(with_reducible apply zz1)|((with_reducible apply zz2);rfl;intro K' hK';simp only [WA,simprocAttr,hw3];(repeat (constructor;focus (clear hK';intros;simp_all;done)));(try (apply hK';clear hK' K')))|((with_reducible apply zz3);rfl;all_goals (intro h;try exact absurd h (by decide))))
     refine ⟨i + 1,(by show i + 1 ≤ g.length;omega),(by show g.length - (i + 1) < g.length - i;omega),by refine sub_of h0 ?_ ?_ ?_ <;> simp only [US,WA,simprocAttr]⟩
 · have hb1 : ¬ (i : Int) < (g.length : Int):=by omega
   repeat' (first|(with_reducible apply zz1)|((with_reducible apply zz2);rfl;intro K' hK';simp only [WA,simprocAttr,hb1];(repeat (constructor;focus (clear hK';intros;simp_all;done)));(try (apply hK';clear hK' K')))|((with_reducible apply zz3);rfl;all_goals (intro h;try exact absurd h (by decide))))
   simp only [Kret,retL,retOne,oneV,WA,simprocAttr]
end Go.Proofs.YtgecnlcbdbaneaaDoor
/- duetref's small, IsName, IsVar, Labels, part; a symbolic walk. -/
-- TYPESA
namespace Go.Proofs.YtgecnlcbdbaneaaDoor
open Go.RowKit Go.Sw

structure SzN (nm : ByteArray) (ls : List ByteArray) (l : List Tp) : Prop where
 zn : nm.size ≤ 140737488355328
 zl : ls.length ≤ 140737488355328
 zb : ∀ x ∈ ls,x.size ≤ 140737488355328
 zk : l.length ≤ 140737488355328
end Go.Proofs.YtgecnlcbdbaneaaDoor
/- duetref.Type; a symbolic walk. -/
-- TYPESB
namespace Go.Proofs.YtgecnlcbdbaneaaDoor
open Go.RowKit Go.Sw

end Go.Proofs.YtgecnlcbdbaneaaDoor
