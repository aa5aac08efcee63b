/- duetkeep.renamedLocal; a symbolic walk. Roles that change places. -/
-- TYPESA
import Derived.Test.YtmohkmfimcnfeaaDoorP15
import Derived.Test.YtmohkmfimcnfeaaDoorG10
set_option linter.unusedVariables false
set_option linter.unusedSimpArgs false
namespace Go.Proofs.YtmohkmfimcnfeaaDoor
open Go.RowKit Go.Sw
open Go.Sw renaming swp_seq → zw0

set_option maxHeartbeats 16000000 in
set_option maxRecDepth 100000 in
theorem renLoc_step (Γ : Gl) (F T : List ByteArray) (h : F.length = T.length) (hF : F.length ≤ 1000) (k : Int) (wi : ByteArray) (so : Int) (nm : ByteArray) (ls : List ByteArray) (l : List Lt) (hl : l.length ≤ 6) (ih : ∀ x ∈ l,DFn Tryd.prog Γ 20 [x.d,.slc (F.map sD),.slc (T.map sD)] (renL (nmF F T) x).d) :
 DFn Tryd.prog Γ 20 [(Lt.mk k wi so nm ls l).d,.slc (F.map sD),.slc (T.map sD)] (renL (nmF F T) (Lt.mk k wi so nm ls l)).d:=by
 have hll:=Lt.ds_len l
 have hx:=indexS_fn Γ F wi (by omega)
 have hin:=idx_in wi.toList F 0
 have hnm : nmF F T wi = if 0 ≤ idxS wi.toList F 0 then T.getD (idxS wi.toList F 0).toNat noB else wi:=rfl
 simp only [renL,Lt.d]
 generalize hW : nmF F T wi = W at *
 generalize hσ : nmF F T = σ at *
 generalize idxS wi.toList F 0 = i at *
 refine fn_of_swp (N:=51) Tryd.func20 rfl (by decide) rfl rfl (by simp) (fun C h0=>?_)
 simp only [argE]
 refine zw0 ?_
 (with_reducible refine swp_region ?_ (fun K' hK'=>?_)
  · rfl
  simp only [WA,simprocAttr]
  (repeat (constructor;focus (clear hK';intros;simp_all;done))))
 refine hK' _ _ ?_
 clear hK' K'
 refine kseq_n ?_
 refine zw0 ?_
 (with_reducible refine swp_region ?_ (fun K' hK'=>?_)
  · rfl
  simp only [WA,simprocAttr]
  (repeat (constructor;focus (clear hK';intros;simp_all;done))))
 refine hK' _ _ ?_
 clear hK' K'
 refine kseq_n ?_
 refine zw0 ?_
 refine swp_midK [(1,.d (.slc (F.map sD))),(2,.d (.slc (T.map sD))),(3,.ref 0 0),(6,.ref 1 0),(7,.ref 2 0)]
  [(0,.cells [.d (iD k),.d (sD wi),.d (iD so),.d (sD nm),.d (.slc (ls.map sD)),.d (.slc (Lt.ds l))]),(1,.cells [.d (iD 0),.d (sD noB),.d (iD 0),.d (sD noB),.nil,.nil]),(2,.cells [.d (iD k),.d (sD W),.d (iD so),.d (sD nm),.d (.slc (ls.map sD)),.nil])] ?_ ?_
 · by_cases hi : 0 ≤ i
   · rw [if_pos hi] at hnm
     have g2 : i < (T.length : Int):=by omega
     obtain ⟨b,hb⟩ : ∃ b,T[i.toNat]? = some b:=⟨T[i.toNat]'(by omega),by simp⟩
     have hget : (T.map sD).getD i.toNat default = sD b:=by simp [List.getD,hb]
     rw [show T.getD i.toNat noB = b from by simp [List.getD,hb]] at hnm
     subst hnm
     repeat' (first|(with_reducible apply zz1)|((with_reducible apply zz2);rfl;intro K' hK';simp only [WA,simprocAttr];(repeat (constructor;focus (clear hK';intros;simp_all;done)));(try (apply hK';clear hK' K')))|((with_reducible apply zz3);rfl;all_goals (intro h;try exact absurd h (by decide))))
     refine stop_callF rfl (by simp only [WA,simprocAttr]) rfl rfl (hx) ?_
     simp only [WA,simprocAttr,inX,dropS, ]
     (repeat (constructor;focus (clear hK';intros;simp_all;done)))
     (try (apply hK';clear hK' K'))
     repeat' (first|(with_reducible apply zz1)|((with_reducible apply zz2);rfl;intro K' hK';simp only [WA,simprocAttr,hi,g2,hget,List.length_map];(repeat (constructor;focus (clear hK';intros;simp_all;done)));(try (apply hK';clear hK' K')))|((with_reducible apply zz3);rfl;all_goals (intro h;try exact absurd h (by decide))))
     refine ⟨rfl,?_⟩
     refine sub_of h0 ?_ ?_ ?_ <;> simp only [US,WA,simprocAttr]
   · rw [if_neg hi] at hnm
     subst hnm
     repeat' (first|(with_reducible apply zz1)|((with_reducible apply zz2);rfl;intro K' hK';simp only [WA,simprocAttr];(repeat (constructor;focus (clear hK';intros;simp_all;done)));(try (apply hK';clear hK' K')))|((with_reducible apply zz3);rfl;all_goals (intro h;try exact absurd h (by decide))))
     refine stop_callF rfl (by simp only [WA,simprocAttr]) rfl rfl (hx) ?_
     simp only [WA,simprocAttr,inX,dropS, ]
     (repeat (constructor;focus (clear hK';intros;simp_all;done)))
     (try (apply hK';clear hK' K'))
     repeat' (first|(with_reducible apply zz1)|((with_reducible apply zz2);rfl;intro K' hK';simp only [WA,simprocAttr,hi];(repeat (constructor;focus (clear hK';intros;simp_all;done)));(try (apply hK';clear hK' K')))|((with_reducible apply zz3);rfl;all_goals (intro h;try exact absurd h (by decide))))
     refine ⟨rfl,?_⟩
     refine sub_of h0 ?_ ?_ ?_ <;> simp only [US,WA,simprocAttr]
 clear hx hin hnm hW
 repeat' (first|(with_reducible apply zz1)|((with_reducible apply zz2);rfl;intro K' hK';simp only [WA,simprocAttr,hll];(repeat (constructor;focus (clear hK';intros;simp_all;done)));(try (apply hK';clear hK' K')))|((with_reducible apply zz3);rfl;all_goals (intro h;try exact absurd h (by decide))))
 refine swp_nilB 2 5 3 6 rfl rfl rfl (by decide) ?_
 simp only [WA,simprocAttr]
 refine swp_loop (α := Nat) (fun j=>[(1,.d (.slc (F.map sD))),(2,.d (.slc (T.map sD))),(6,.ref 1 0),(7,.ref 2 0),(34,.d (.slc (Lt.ds l))),(35,.d (iD l.length)),(36,.d (iD j))])
  (fun j=>[(1,.cells [.d (iD 0),.d (sD noB),.d (iD 0),.d (sD noB),.nil,.nil]),(2,.cells [.d (iD k),.d (sD W),.d (iD so),.d (sD nm),.d (.slc (ls.map sD)),.own 3]),(3,.row 6 (Lt.ds (renLs σ (l.take j))))])
  (fun j=>j ≤ l.length) (fun j=>l.length - j) 0 (Nat.zero_le _) (by simp only [List.take_zero,renLs,Lt.ds];refine sub_of h0 ?_ ?_ ?_ <;> simp only [US,WA,simprocAttr,hll]) (fun j hj=>?_)
 have hj : j ≤ l.length:=hj
 have hb0 : (0 : Int) ≤ (j : Int):=by omega
 by_cases hlt : j < l.length
 · obtain ⟨x,hx⟩ : ∃ x,l[j]? = some x:=⟨l[j],by simp [hlt]⟩
   have hcall:=ih x (List.mem_of_getElem? hx)
   have hget:=Lt.ds_get l j x hx
   have hb1 : (j : Int) < (l.length : Int):=by omega
   have hw3 : IntKind.i64.wrap ((j : Int) + 1) = ((j + 1 : Nat) : Int):=by rw [wrap_in (by omega) (by omega)];omega
   have hsn : Lt.ds (renLs σ (l.take (j + 1))) = Lt.ds (renLs σ (l.take j)) ++ [(renL σ x).d]:=by
    rw [List.take_add_one,hx,renLs_map,renLs_map,List.map_append,Lt.ds_app];rfl
   have hlen2 : (Lt.ds (renLs σ (l.take j))).length = j:=by rw [Lt.ds_len,renLs_map,List.length_map,List.length_take];omega
   have m1 : (j + 1) * 96 ≤ 140737488355328:=by omega
   have m2 : j + 1 ≤ maxLen:=by unfold maxLen;omega
   generalize renL σ x = z at *
   obtain ⟨xk,xw,xs,xn,xls,xl⟩:=x
   obtain ⟨zk,zw,zs,zn,zls,zl⟩:=z
   simp only [Lt.d] at hget hcall hsn
   repeat' (first|(with_reducible apply zz1)|((with_reducible apply zz2);rfl;intro K' hK';simp only [WA,simprocAttr,Int.toNat_natCast,hget,hll,hb0,hb1];(repeat (constructor;focus (clear hK';intros;simp_all;done)));(try (apply hK';clear hK' K')))|((with_reducible apply zz3);rfl;all_goals (intro h;try exact absurd h (by decide))))
   (with_reducible refine swp_drawX ?_ ?_ ?_ (⟨⟨[(5,.agg [iD zk,sD zw,iD zs,sD zn,.slc (zls.map sD),.slc (Lt.ds zl)])],[]⟩,[],[],[],[]⟩) _ rfl (fun K' hK' gops fin hgops hfin=>?_)
    · kernel_rfl
    · rfl
    · rfl
    repeat' first
     | (refine vcX_dead rfl trivial (by simp only [WA,simprocAttr,UX,UA];rfl) (by simp only [List.nil_append,List.cons_append];rfl) (by simp only [Nat.reduceAdd];rfl) ?_)
     | (refine vcX_step rfl rfl trivial (by simp only [WA,simprocAttr,UX,UA,hcall,hlen2,m1,m2 ];rfl) ?_ (by simp only [WA,simprocAttr,UX,UA];rfl) (by simp only [WA,simprocAttr,UX,UA];rfl) (by simp only [List.nil_append,List.cons_append];rfl) (by simp only [Nat.reduceAdd];rfl) ?_;focus (first | trivial | ((repeat' apply And.intro) <;> first | trivial | assumption | (clear hK' hfin hgops;intros;simp_all;done))))
    (refine vcX_nil (by subst hfin;kernel_rfl) ?_)
    clear hfin hgops fin gops
    (try (apply hK';clear hK' K')))
   repeat' (first|(with_reducible apply zz1)|((with_reducible apply zz2);rfl;intro K' hK';simp only [WA,simprocAttr,hw3];(repeat (constructor;focus (clear hK';intros;simp_all;done)));(try (apply hK';clear hK' K')))|((with_reducible apply zz3);rfl;all_goals (intro h;try exact absurd h (by decide))))
   refine ⟨j + 1,(by show j + 1 ≤ l.length;omega),(by show l.length - (j + 1) < l.length - j;omega),by simp only [hsn];refine sub_of h0 ?_ ?_ ?_ <;> simp only [US,WA,simprocAttr]⟩
 · have hb1 : ¬ (j : Int) < (l.length : Int):=by omega
   rw [List.take_of_length_le (by omega)]
   repeat' (first|(with_reducible apply zz1)|((with_reducible apply zz2);rfl;intro K' hK';simp only [WA,simprocAttr,hb1];(repeat (constructor;focus (clear hK';intros;simp_all;done)));(try (apply hK';clear hK' K')))|((with_reducible apply zz3);rfl;all_goals (intro h;try exact absurd h (by decide))))
   simp only [Kret,retL,retOne,oneV,WA,simprocAttr]
theorem renLoc_all (Γ : Gl) (F T : List ByteArray) (h : F.length = T.length) (hF : F.length ≤ 1000) : ∀ (n : Nat) (x : Lt),OkL x → x.size ≤ n → DFn Tryd.prog Γ 20 [x.d,.slc (F.map sD),.slc (T.map sD)] (renL (nmF F T) x).d
 | 0,x,_,hz=>by have:=x.size_pos;omega
 | n + 1,.mk k wi so nm ls l,ho,hz=>by
  obtain ⟨h1,h2,h3⟩:=okL_kids ho
  exact renLoc_step Γ F T h hF k wi so nm ls l h1 fun x hx=>renLoc_all Γ F T h hF n x (h3 x hx) (by have:=Lt.size_mem hx;simp only [Lt.size] at hz;omega)

def fromL : List ByteArray:=[⟨#[97]⟩,⟨#[98]⟩,⟨#[99]⟩,⟨#[100]⟩]
def toL : List ByteArray:=[⟨#[98]⟩,⟨#[97]⟩,⟨#[100]⟩,⟨#[99]⟩]
theorem swap_cases (s : ByteArray) : s = ⟨#[97]⟩ ∨ s = ⟨#[98]⟩ ∨ s = ⟨#[99]⟩ ∨ s = ⟨#[100]⟩ ∨ (s ∉ fromL ∧ nmF fromL toL s = s):=by
 rcases nm_cases fromL toL rfl s with h | ⟨k,t,h1,h2,h3,h4⟩
 · exact .inr (.inr (.inr (.inr h)))
 · have hm:=List.mem_of_getElem? h1
   simp only [fromL,List.mem_cons,List.not_mem_nil,or_false] at hm
   rcases hm with h | h | h | h
   · exact .inl h
   · exact .inr (.inl h)
   · exact .inr (.inr (.inl h))
   · exact .inr (.inr (.inr (.inl h)))
theorem swap_a : nmF fromL toL ⟨#[97]⟩ = ⟨#[98]⟩:=by decide +kernel
theorem swap_b : nmF fromL toL ⟨#[98]⟩ = ⟨#[97]⟩:=by decide +kernel
theorem swap_c : nmF fromL toL ⟨#[99]⟩ = ⟨#[100]⟩:=by decide +kernel
theorem swap_d : nmF fromL toL ⟨#[100]⟩ = ⟨#[99]⟩:=by decide +kernel
theorem swap_sg : Sg (nmF fromL toL):=by
 refine ⟨fun s=>?_,by decide +kernel,fun s=>?_⟩
 · rcases swap_cases s with rfl | rfl | rfl | rfl | ⟨-,h⟩
   · rw [swap_a,swap_b]
   · rw [swap_b,swap_a]
   · rw [swap_c,swap_d]
   · rw [swap_d,swap_c]
   · rw [h,h]
 · rcases swap_cases s with rfl | rfl | rfl | rfl | ⟨-,h⟩
   · rw [swap_a];decide +kernel
   · rw [swap_b];decide +kernel
   · rw [swap_c];decide +kernel
   · rw [swap_d];decide +kernel
   · rw [h]
theorem swap_ok : renOk fromL toL:=by
 intro j hj
 have : j = 0 ∨ j = 1 ∨ j = 2 ∨ j = 3:=by have : fromL.length = 4:=rfl;omega
 rcases this with rfl | rfl | rfl | rfl <;> decide +kernel
theorem ping_c : ofR pingG ⟨#[99]⟩ = (endL,0):=by
 have n1 : ¬ ((⟨#[99]⟩ : ByteArray).toList = (⟨#[97]⟩ : ByteArray).toList ∨ (⟨#[99]⟩ : ByteArray).toList = (⟨#[98]⟩ : ByteArray).toList):=by decide +kernel
 have n2 : ¬ ((⟨#[99]⟩ : ByteArray).toList = (⟨#[98]⟩ : ByteArray).toList ∨ (⟨#[99]⟩ : ByteArray).toList = (⟨#[97]⟩ : ByteArray).toList):=by decide +kernel
 have e : ofP ⟨#[99]⟩ pingG = some endL:=by
  unfold pingG
  simp [ofP_eq,ofPs,comL,foldL,fold1,n1,n2]
 unfold ofR
 rw [ping_check,e]
 simp [show isRoleB ⟨#[99]⟩ = true by decide +kernel]
end Go.Proofs.YtmohkmfimcnfeaaDoor
