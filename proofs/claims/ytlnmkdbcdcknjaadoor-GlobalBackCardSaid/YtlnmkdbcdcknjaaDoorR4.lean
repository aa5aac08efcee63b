/- global.write: the walk (printed by mkr4.py). -/
-- TYPESA
import Derived.Test.YtlnmkdbcdcknjaaDoorR3
set_option linter.unusedVariables false
set_option linter.unusedSimpArgs false
namespace Go.Proofs.YtlnmkdbcdcknjaaDoor.GG
open Go.RowKit Go.Sw

set_option maxHeartbeats 8000000 in
set_option maxRecDepth 100000 in
theorem gwrite_end (Γ : Gl) : DFn Tryd.prog Γ 20 [(Gt.mk 1 noB noB 0 noB [] []).d] (sD ⟨#[101,110,100]⟩):=by
 simp only [Gt.d,Gt.ds,List.map_nil]
 refine fn_of_swp (N:=80) Tryd.func20 rfl (by decide) rfl rfl (by simp) (fun C h0=>?_)
 simp only [argE]
 repeat' (first|(with_reducible apply zz1)|((with_reducible apply zz2);rfl;intro K' hK';simp only [WA,simprocAttr,Int.reduceBEq];(repeat (constructor;focus (clear hK';intros;simp_all;done)));(try (apply hK';clear hK' K')))|((with_reducible apply zz3);rfl;all_goals (intro h;try exact absurd h (by decide))))
 simp only [Kret,retL,retOne,oneV,WA,simprocAttr]
set_option maxHeartbeats 8000000 in
set_option maxRecDepth 100000 in
theorem gwrite_var (Γ : Gl) (nm : ByteArray) : DFn Tryd.prog Γ 20 [(Gt.mk 9 noB noB 0 nm [] []).d] (sD nm):=by
 simp only [Gt.d,Gt.ds,List.map_nil]
 refine fn_of_swp (N:=80) Tryd.func20 rfl (by decide) rfl rfl (by simp) (fun C h0=>?_)
 simp only [argE]
 repeat' (first|(with_reducible apply zz1)|((with_reducible apply zz2);rfl;intro K' hK';simp only [WA,simprocAttr,Int.reduceBEq];(repeat (constructor;focus (clear hK';intros;simp_all;done)));(try (apply hK';clear hK' K')))|((with_reducible apply zz3);rfl;all_goals (intro h;try exact absurd h (by decide))))
 simp only [Kret,retL,retOne,oneV,WA,simprocAttr]
set_option maxHeartbeats 8000000 in
set_option maxRecDepth 100000 in
theorem gwrite_send (Γ : Gl) (hG : GD Tryd.prog Γ 0 22 (.slc (sortsL.map sD))) (fr to : ByteArray) (hf : fr.size ≤ 8) (ht : to.size ≤ 8) (so : Int) (h1 : 1 ≤ so) (h3 : so ≤ 3) (x : Gt) (T : ByteArray) (hT : T.size ≤ 20000) (hx : DFn Tryd.prog Γ 20 [x.d] (sD T)) : DFn Tryd.prog Γ 20 [(Gt.mk 2 fr to so noB [] [x]).d] (sD (fr ++ ⟨#[62]⟩ ++ to ++ ⟨#[58]⟩ ++ sortW so ++ ⟨#[46]⟩ ++ T)):=by
 obtain ⟨hgs,hW, -⟩:=sortW_at h1 h3
 generalize sortW so = W at hgs hW ⊢
 have h0' : (0 : Int) ≤ so:=by omega
 have h4 : so < ((sortsL.map sD).length : Int):=by show so < 4;omega
 have b62 : (⟨#[62]⟩ : ByteArray).size = 1:=rfl
 have b58 : (⟨#[58]⟩ : ByteArray).size = 1:=rfl
 have b46 : (⟨#[46]⟩ : ByteArray).size = 1:=rfl
 have b123 : (⟨#[123]⟩ : ByteArray).size = 1:=rfl
 have b125 : (⟨#[125]⟩ : ByteArray).size = 1:=rfl
 have b4 : (⟨#[114,101,99,32]⟩ : ByteArray).size = 4:=rfl
 have z0 : (fr ++ ⟨#[62]⟩ : ByteArray).size = fr.size + 1:=by rw [ByteArray.size_append,b62]
 have m0 : fr.size + 1 ≤ maxLen:=by unfold maxLen;omega
 have z1 : (fr ++ ⟨#[62]⟩ ++ to : ByteArray).size = fr.size + 1 + to.size:=by rw [ByteArray.size_append,z0]
 have m1 : fr.size + 1 + to.size ≤ maxLen:=by unfold maxLen;omega
 have z2 : (fr ++ ⟨#[62]⟩ ++ to ++ ⟨#[58]⟩ : ByteArray).size = fr.size + 1 + to.size + 1:=by rw [ByteArray.size_append,z1,b58]
 have m2 : fr.size + 1 + to.size + 1 ≤ maxLen:=by unfold maxLen;omega
 have z3 : (fr ++ ⟨#[62]⟩ ++ to ++ ⟨#[58]⟩ ++ W : ByteArray).size = fr.size + 1 + to.size + 1 + W.size:=by rw [ByteArray.size_append,z2]
 have m3 : fr.size + 1 + to.size + 1 + W.size ≤ maxLen:=by unfold maxLen;omega
 have z4 : (fr ++ ⟨#[62]⟩ ++ to ++ ⟨#[58]⟩ ++ W ++ ⟨#[46]⟩ : ByteArray).size = fr.size + 1 + to.size + 1 + W.size + 1:=by rw [ByteArray.size_append,z3,b46]
 have m4 : fr.size + 1 + to.size + 1 + W.size + 1 ≤ maxLen:=by unfold maxLen;omega
 have z5 : (fr ++ ⟨#[62]⟩ ++ to ++ ⟨#[58]⟩ ++ W ++ ⟨#[46]⟩ ++ T : ByteArray).size = fr.size + 1 + to.size + 1 + W.size + 1 + T.size:=by rw [ByteArray.size_append,z4]
 have m5 : fr.size + 1 + to.size + 1 + W.size + 1 + T.size ≤ maxLen:=by unfold maxLen;omega
 obtain ⟨xk,xfr,xto,xso,xnm,xls,xl⟩:=x
 simp only [Gt.d,Gt.ds,List.map_nil] at hx ⊢
 refine fn_of_swp (N:=80) Tryd.func20 rfl (by decide) rfl rfl (by simp) (fun C h0=>?_)
 simp only [argE]
 repeat' (first|(with_reducible apply zz1)|((with_reducible apply zz2);rfl;intro K' hK';simp only [WA,simprocAttr,Int.reduceBEq];(repeat (constructor;focus (clear hK';intros;simp_all;done)));(try (apply hK';clear hK' K')))|((with_reducible apply zz3);rfl;all_goals (intro h;try exact absurd h (by decide))))
 (with_reducible refine swp_draw ?_ ?_ ?_ ( [(7,.slc (sortsL.map sD)),(18,sD T)]) (fun K' hK'=>?_)
  · kernel_rfl
  · rfl
  · rfl
  simp only [WA,simprocAttr,UG,hG,hx,hgs,h0',h4,List.getD_cons_zero,List.length_cons,List.length_nil,b62,b58,b46,b123,b125,b4,z0,z1,z2,z3,z4,z5,m0,m1,m2,m3,m4,m5 ]
  (try (apply hK';clear hK' K')))
 repeat' (first|(with_reducible apply zz1)|((with_reducible apply zz2);rfl;intro K' hK';simp only [WA,simprocAttr];(repeat (constructor;focus (clear hK';intros;simp_all;done)));(try (apply hK';clear hK' K')))|((with_reducible apply zz3);rfl;all_goals (intro h;try exact absurd h (by decide))))
 simp only [Kret,retL,retOne,oneV,WA,simprocAttr]
set_option maxHeartbeats 8000000 in
set_option maxRecDepth 100000 in
theorem gwrite_bind (Γ : Gl) (nm : ByteArray) (hn : nm.size ≤ 8) (x : Gt) (T : ByteArray) (hT : T.size ≤ 20000) (hx : DFn Tryd.prog Γ 20 [x.d] (sD T)) : DFn Tryd.prog Γ 20 [(Gt.mk 8 noB noB 0 nm [] [x]).d] (sD (⟨#[114,101,99,32]⟩ ++ nm ++ ⟨#[46]⟩ ++ T)):=by
 have b62 : (⟨#[62]⟩ : ByteArray).size = 1:=rfl
 have b58 : (⟨#[58]⟩ : ByteArray).size = 1:=rfl
 have b46 : (⟨#[46]⟩ : ByteArray).size = 1:=rfl
 have b123 : (⟨#[123]⟩ : ByteArray).size = 1:=rfl
 have b125 : (⟨#[125]⟩ : ByteArray).size = 1:=rfl
 have b4 : (⟨#[114,101,99,32]⟩ : ByteArray).size = 4:=rfl
 have z0 : (⟨#[114,101,99,32]⟩ ++ nm : ByteArray).size = 4 + nm.size:=by rw [ByteArray.size_append,b4]
 have m0 : 4 + nm.size ≤ maxLen:=by unfold maxLen;omega
 have z1 : (⟨#[114,101,99,32]⟩ ++ nm ++ ⟨#[46]⟩ : ByteArray).size = 4 + nm.size + 1:=by rw [ByteArray.size_append,z0,b46]
 have m1 : 4 + nm.size + 1 ≤ maxLen:=by unfold maxLen;omega
 have z2 : (⟨#[114,101,99,32]⟩ ++ nm ++ ⟨#[46]⟩ ++ T : ByteArray).size = 4 + nm.size + 1 + T.size:=by rw [ByteArray.size_append,z1]
 have m2 : 4 + nm.size + 1 + T.size ≤ maxLen:=by unfold maxLen;omega
 obtain ⟨xk,xfr,xto,xso,xnm,xls,xl⟩:=x
 simp only [Gt.d,Gt.ds,List.map_nil] at hx ⊢
 refine fn_of_swp (N:=80) Tryd.func20 rfl (by decide) rfl rfl (by simp) (fun C h0=>?_)
 simp only [argE]
 repeat' (first|(with_reducible apply zz1)|((with_reducible apply zz2);rfl;intro K' hK';simp only [WA,simprocAttr,Int.reduceBEq];(repeat (constructor;focus (clear hK';intros;simp_all;done)));(try (apply hK';clear hK' K')))|((with_reducible apply zz3);rfl;all_goals (intro h;try exact absurd h (by decide))))
 (with_reducible refine swp_draw ?_ ?_ ?_ ( [(8,sD T)]) (fun K' hK'=>?_)
  · kernel_rfl
  · rfl
  · rfl
  simp only [WA,simprocAttr,UG,hx,List.getD_cons_zero,List.length_cons,List.length_nil,List.map_cons,List.map_nil,b62,b58,b46,b123,b125,b4,z0,z1,z2,m0,m1,m2 ]
  (try (apply hK';clear hK' K')))
 repeat' (first|(with_reducible apply zz1)|((with_reducible apply zz2);rfl;intro K' hK';simp only [WA,simprocAttr];(repeat (constructor;focus (clear hK';intros;simp_all;done)));(try (apply hK';clear hK' K')))|((with_reducible apply zz3);rfl;all_goals (intro h;try exact absurd h (by decide))))
 simp only [Kret,retL,retOne,oneV,WA,simprocAttr]
set_option maxHeartbeats 8000000 in
set_option maxRecDepth 100000 in
theorem gwrite_pick (Γ : Gl) (fr to : ByteArray) (hf : fr.size ≤ 8) (ht : to.size ≤ 8) (ls : List ByteArray) (l : List Gt) (hl6 : ls.length ≤ 6) (hn : l.length = ls.length) (hls : ∀ s ∈ ls,s.size ≤ 8) (hws : ∀ w ∈ wrGs l,w.size ≤ 20000) (hx : ∀ x ∈ l,DFn Tryd.prog Γ 20 [x.d] (sD (wrG x))) (hJ : (joinB (List.zipWith itemB ls (wrGs l))).size ≤ 100000) : DFn Tryd.prog Γ 20 [(Gt.mk 6 fr to 0 noB ls l).d] (sD (fr ++ ⟨#[62]⟩ ++ to ++ ⟨#[123]⟩ ++ joinB (List.zipWith itemB ls (wrGs l)) ++ ⟨#[125]⟩)):=by
 have hll:=Gt.ds_len l
 have hzl : (List.zipWith itemB ls (wrGs l)).length = l.length:=by rw [List.length_zipWith,wrGs_map,List.length_map];omega
 have hjn:=join_fn Γ (List.zipWith itemB ls (wrGs l)) (by rw [hzl];omega) hJ
 simp only [Gt.d]
 refine fn_of_swp (N:=80) Tryd.func20 rfl (by decide) rfl rfl (by simp) (fun C h0=>?_)
 simp only [argE]
 repeat' (first|(with_reducible apply zz1)|((with_reducible apply zz2);rfl;intro K' hK';simp only [WA,simprocAttr,Int.reduceBEq,hll];(repeat (constructor;focus (clear hK';intros;simp_all;done)));(try (apply hK';clear hK' K')))|((with_reducible apply zz3);rfl;all_goals (intro h;try exact absurd h (by decide))))
 refine swp_nil 3 1 1 rfl rfl (by decide) ?_
 simp only [WA,simprocAttr]
 refine swp_loop (α := Nat) (fun j=>[(1,.ref 0 0),(3,.own 1),(34,.d (iD l.length)),(33,.d (.slc (Gt.ds l))),(35,.d (iD j))]) (fun j=>[(0,.cells [.d (iD 6),.d (sD fr),.d (sD to),.d (iD 0),.d (sD noB),.d (.slc (ls.map sD)),.d (.slc (Gt.ds l))]),(1,.row 1 (((List.zipWith itemB ls (wrGs l)).take j).map sD))])
  (fun j=>j ≤ l.length) (fun j=>l.length - j) 0 (Nat.zero_le _) (by refine sub_of h0 ?_ ?_ ?_ <;> simp only [US,WA,simprocAttr,hll]) (fun j hj=>?_)
 have hj : j ≤ l.length:=hj
 have hb0 : (0 : Int) ≤ (j : Int):=by omega
 by_cases hlt : j < l.length
 · obtain ⟨x,hxj⟩ : ∃ x,l[j]? = some x:=⟨l[j],by simp [hlt]⟩
   obtain ⟨s,hsj⟩ : ∃ s,ls[j]? = some s:=⟨ls[j]'(by omega),by simp⟩
   have hwj : (wrGs l)[j]? = some (wrG x):=by rw [wrGs_map,List.getElem?_map,hxj];rfl
   have hstep:=zip_take ls (wrGs l) j s (wrG x) hsj hwj
   have hcall:=hx x (List.mem_of_getElem? hxj)
   have hget:=Gt.ds_get l j x hxj
   have hgs : (ls.map sD).getD j default = sD s:=by simp [List.getD,hsj]
   have hs8:=hls s (List.mem_of_getElem? hsj)
   have hb1 : (j : Int) < (l.length : Int):=by omega
   have hb2 : (j : Int) < (ls.length : Int):=by omega
   have hw3 : IntKind.i64.wrap ((j : Int) + 1) = ((j + 1 : Nat) : Int):=by rw [wrap_in (by omega) (by omega)];omega
   have hwx : (wrG x).size ≤ 20000:=hws _ (List.mem_of_getElem? hwj)
   have htl : ((List.zipWith itemB ls (wrGs l)).take j).length = j:=by rw [List.length_take,hzl];omega
   generalize (List.zipWith itemB ls (wrGs l)) = Z at *
   unfold itemB at hstep
   generalize wrG x = W at hcall hwx hstep hwj
   have b1 : (⟨#[58]⟩ : ByteArray).size = 1:=rfl
   have z1 : (s ++ ⟨#[58]⟩ : ByteArray).size = s.size + 1:=by rw [ByteArray.size_append,b1]
   have m1 : s.size + 1 ≤ maxLen:=by unfold maxLen;omega
   have m2 : s.size + 1 + W.size ≤ maxLen:=by unfold maxLen;omega
   have m3 : (j + 1) * 16 ≤ 140737488355328:=by omega
   have m4 : j + 1 ≤ maxLen:=by unfold maxLen;omega
   obtain ⟨xk,xfr,xto,xso,xnm,xls,xl⟩:=x
   simp only [Gt.d] at hget hcall
   repeat' (first|(with_reducible apply zz1)|((with_reducible apply zz2);rfl;intro K' hK';simp only [WA,simprocAttr,Int.toNat_natCast,hget,hll,hb0,hb1];(repeat (constructor;focus (clear hK';intros;simp_all;done)));(try (apply hK';clear hK' K')))|((with_reducible apply zz3);rfl;all_goals (intro h;try exact absurd h (by decide))))
   (with_reducible refine swp_drawW ?_ ?_ ?_ ( ⟨[(8,sD W)],[]⟩) _ rfl (fun K' hK'=>?_)
    · kernel_rfl
    · rfl
    · rfl
    simp only [WA,simprocAttr,vcW,stepW,callR,effO,srcE,Eff.env,Eff.st,writeOp,callA,pureOp,Bool.or_true,Bool.true_or,Bool.or_self,Bool.or_false,Bool.false_or,D.flat,D.flats,true_or,or_true,forall_const,Int.toNat_natCast,hcall,hgs,hb0,hb1,hb2,List.length_map,htl,b1,z1,m1,m2,m3,m4 ]
    (repeat (constructor;focus (first | (with_reducible assumption) | (clear hK';intros;simp_all;done))))
    (refine And.intro (by kernel_rfl) ?_)
    (try (apply hK';clear hK' K')))
   repeat' (first|(with_reducible apply zz1)|((with_reducible apply zz2);rfl;intro K' hK';simp only [WA,simprocAttr,hw3];(repeat (constructor;focus (clear hK';intros;simp_all;done)));(try (apply hK';clear hK' K')))|((with_reducible apply zz3);rfl;all_goals (intro h;try exact absurd h (by decide))))
   refine ⟨j + 1,(by show j + 1 ≤ l.length;omega),(by show l.length - (j + 1) < l.length - j;omega),by refine sub_of h0 ?_ ?_ ?_ <;> simp only [US,WA,simprocAttr,hstep,List.map_append]⟩
 · have hb1 : ¬ (j : Int) < (l.length : Int):=by omega
   have htk : (List.zipWith itemB ls (wrGs l)).take j = List.zipWith itemB ls (wrGs l):=List.take_of_length_le (by rw [hzl];omega)
   rw [htk]
   generalize joinB (List.zipWith itemB ls (wrGs l)) = J at hjn hJ ⊢
   generalize (List.zipWith itemB ls (wrGs l)) = Z at *
   have b62 : (⟨#[62]⟩ : ByteArray).size = 1:=rfl
   have b58 : (⟨#[58]⟩ : ByteArray).size = 1:=rfl
   have b46 : (⟨#[46]⟩ : ByteArray).size = 1:=rfl
   have b123 : (⟨#[123]⟩ : ByteArray).size = 1:=rfl
   have b125 : (⟨#[125]⟩ : ByteArray).size = 1:=rfl
   have b4 : (⟨#[114,101,99,32]⟩ : ByteArray).size = 4:=rfl
   have z0 : (fr ++ ⟨#[62]⟩ : ByteArray).size = fr.size + 1:=by rw [ByteArray.size_append,b62]
   have m0 : fr.size + 1 ≤ maxLen:=by unfold maxLen;omega
   have z1 : (fr ++ ⟨#[62]⟩ ++ to : ByteArray).size = fr.size + 1 + to.size:=by rw [ByteArray.size_append,z0]
   have m1 : fr.size + 1 + to.size ≤ maxLen:=by unfold maxLen;omega
   have z2 : (fr ++ ⟨#[62]⟩ ++ to ++ ⟨#[123]⟩ : ByteArray).size = fr.size + 1 + to.size + 1:=by rw [ByteArray.size_append,z1,b123]
   have m2 : fr.size + 1 + to.size + 1 ≤ maxLen:=by unfold maxLen;omega
   have z3 : (fr ++ ⟨#[62]⟩ ++ to ++ ⟨#[123]⟩ ++ J : ByteArray).size = fr.size + 1 + to.size + 1 + J.size:=by rw [ByteArray.size_append,z2]
   have m3 : fr.size + 1 + to.size + 1 + J.size ≤ maxLen:=by unfold maxLen;omega
   have z4 : (fr ++ ⟨#[62]⟩ ++ to ++ ⟨#[123]⟩ ++ J ++ ⟨#[125]⟩ : ByteArray).size = fr.size + 1 + to.size + 1 + J.size + 1:=by rw [ByteArray.size_append,z3,b125]
   have m4 : fr.size + 1 + to.size + 1 + J.size + 1 ≤ maxLen:=by unfold maxLen;omega
   repeat' (first|(with_reducible apply zz1)|((with_reducible apply zz2);rfl;intro K' hK';simp only [WA,simprocAttr,hb1,Int.reduceBEq];(repeat (constructor;focus (clear hK';intros;simp_all;done)));(try (apply hK';clear hK' K')))|((with_reducible apply zz3);rfl;all_goals (intro h;try exact absurd h (by decide))))
   -- TRACE
   (with_reducible refine swp_draw ?_ ?_ ?_ ( [(8,sD J)]) (fun K' hK'=>?_)
    · kernel_rfl
    · rfl
    · rfl
    simp only [WA,simprocAttr,UG,hjn,b62,b58,b46,b123,b125,b4,z0,z1,z2,z3,z4,m0,m1,m2,m3,m4 ]
    (try (apply hK';clear hK' K')))
   repeat' (first|(with_reducible apply zz1)|((with_reducible apply zz2);rfl;intro K' hK';simp only [WA,simprocAttr];(repeat (constructor;focus (clear hK';intros;simp_all;done)));(try (apply hK';clear hK' K')))|((with_reducible apply zz3);rfl;all_goals (intro h;try exact absurd h (by decide))))
   simp only [Kret,retL,retOne,oneV,WA,simprocAttr]
theorem gwrite_fn (Γ : Gl) (hG : GD Tryd.prog Γ 0 22 (.slc (sortsL.map sD))) {x : Gt} (h : OkG x) : x.size ≤ 60 → DFn Tryd.prog Γ 20 [x.d] (sD (wrG x)):=by
 induction h with
 | nil=>intro _;rw [wg_end];exact gwrite_end Γ
 | send fr to so x hr h1 h3 hx ih =>
  intro hz
  have hz2 : x.size ≤ 60:=by simp only [Gt.size,Gt.sizes] at hz;omega
  have hT : (wrG x).size ≤ 20000:=by have:=wg_len hx;omega
  have r:=roles_two hr
  rw [wg_send]
  exact gwrite_send Γ hG fr to (by rw [role_size r.1];decide) (by rw [role_size r.2];decide) so h1 h3 x _ hT (ih hz2)
 | pick fr to ls l hr hl hn h ih =>
  intro hz
  have hall:=wg_len (.pick fr to ls l hr hl hn h)
  rw [wg_pick] at hall ⊢
  have hz2 : ∀ x ∈ l,x.size ≤ 60:=fun x hx=>by have:=Gt.size_mem hx;simp only [Gt.size] at hz;omega
  have hJ : (joinB (List.zipWith itemB ls (wrGs l))).size ≤ 100000:=by simp only [ByteArray.size_append] at hall;omega
  have hws : ∀ w ∈ wrGs l,w.size ≤ 20000:=fun w hw=>by
   rw [wrGs_map] at hw
   obtain ⟨x,hx,rfl⟩:=List.mem_map.1 hw
   have:=wg_len (h x hx)
   have:=hz2 x hx
   omega
  have r:=roles_two hr
  exact gwrite_pick Γ fr to (by rw [role_size r.1];decide) (by rw [role_size r.2];decide) ls l (labels_len hl) hn (fun s hs=>(name_size (labels_names hl s hs)).1) hws (fun x hx=>ih x hx (hz2 x hx)) hJ
 | bind nm x hn hx ih =>
  intro hz
  have hz2 : x.size ≤ 60:=by simp only [Gt.size,Gt.sizes] at hz;omega
  have hT : (wrG x).size ≤ 20000:=by have:=wg_len hx;omega
  rw [wg_bind]
  exact gwrite_bind Γ nm (name_size (var_name hn)).1 x _ hT (ih hz2)
 | var nm hn=>intro _;rw [wg_var];exact gwrite_var Γ nm
def wrtG (x : Gt) : ByteArray:=if gCheck x = 0 then wrG x else noB
set_option maxHeartbeats 8000000 in
set_option maxRecDepth 100000 in
theorem GWrite_fn (Γ : Gl) (hG : GD Tryd.prog Γ 0 22 (.slc (sortsL.map sD))) (x : Gt) : DFn Tryd.prog Γ 7 [x.d] (.tup [sD (wrtG x),iD (gCheck x)]):=by
 have hc:=GCheck_fn Γ x
 unfold wrtG
 by_cases h : gCheck x = 0
 · have hw:=gwrite_fn Γ hG (okG_check h).1 (okG_check h).2
   rw [h] at hc
   rw [if_pos h,h]
   generalize wrG x = T at hw ⊢
   clear h
   obtain ⟨k,fr,to,so,nm,ls,l⟩:=x
   simp only [Gt.d] at hc hw ⊢
   refine fn_of_swp (N:=12) Tryd.func7 rfl (by decide) rfl rfl (by simp) (fun C h0=>?_)
   simp only [argE]
   repeat' (first|(with_reducible apply zz1)|((with_reducible apply zz2);rfl;intro K' hK';simp only [WA,simprocAttr];(repeat (constructor;focus (clear hK';intros;simp_all;done)));(try (apply hK';clear hK' K')))|((with_reducible apply zz3);rfl;all_goals (intro h;try exact absurd h (by decide))))
   refine stop_callF rfl (by simp only [WA,simprocAttr]) rfl rfl (hc) ?_
   simp only [WA,simprocAttr,inX,dropS, ]
   (repeat (constructor;focus (clear hK';intros;simp_all;done)))
   (try (apply hK';clear hK' K'))
   repeat' (first|(with_reducible apply zz1)|((with_reducible apply zz2);rfl;intro K' hK';simp only [WA,simprocAttr];(repeat (constructor;focus (clear hK';intros;simp_all;done)));(try (apply hK';clear hK' K')))|((with_reducible apply zz3);rfl;all_goals (intro h;try exact absurd h (by decide))))
   refine stop_callF rfl (by simp only [WA,simprocAttr]) rfl rfl (hw) ?_
   simp only [WA,simprocAttr,inX,dropS, ]
   (repeat (constructor;focus (clear hK';intros;simp_all;done)))
   (try (apply hK';clear hK' K'))
   repeat' (first|(with_reducible apply zz1)|((with_reducible apply zz2);rfl;intro K' hK';simp only [WA,simprocAttr];(repeat (constructor;focus (clear hK';intros;simp_all;done)));(try (apply hK';clear hK' K')))|((with_reducible apply zz3);rfl;all_goals (intro h;try exact absurd h (by decide))))
   simp only [Kret,retL,retOne,oneV,WA,simprocAttr]
 · rw [if_neg h]
   have g0 : (gCheck x != 0) = true:=by simpa using h
   generalize gCheck x = E at *
   obtain ⟨k,fr,to,so,nm,ls,l⟩:=x
   simp only [Gt.d] at hc ⊢
   refine fn_of_swp (N:=12) Tryd.func7 rfl (by decide) rfl rfl (by simp) (fun C h0=>?_)
   simp only [argE]
   repeat' (first|(with_reducible apply zz1)|((with_reducible apply zz2);rfl;intro K' hK';simp only [WA,simprocAttr];(repeat (constructor;focus (clear hK';intros;simp_all;done)));(try (apply hK';clear hK' K')))|((with_reducible apply zz3);rfl;all_goals (intro h;try exact absurd h (by decide))))
   refine stop_callF rfl (by simp only [WA,simprocAttr]) rfl rfl (hc) ?_
   simp only [WA,simprocAttr,inX,dropS, ]
   (repeat (constructor;focus (clear hK';intros;simp_all;done)))
   (try (apply hK';clear hK' K'))
   repeat' (first|(with_reducible apply zz1)|((with_reducible apply zz2);rfl;intro K' hK';simp only [WA,simprocAttr,g0];(repeat (constructor;focus (clear hK';intros;simp_all;done)));(try (apply hK';clear hK' K')))|((with_reducible apply zz3);rfl;all_goals (intro h;try exact absurd h (by decide))))
   simp only [Kret,retL,retOne,oneV,WA,simprocAttr]
end Go.Proofs.YtlnmkdbcdcknjaaDoor.GG
