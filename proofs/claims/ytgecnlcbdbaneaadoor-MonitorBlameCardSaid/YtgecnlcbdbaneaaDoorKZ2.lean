/- duetref.inPlace, Head, Pick; a symbolic walk. -/
-- TYPESE
import Derived.Test.YtgecnlcbdbaneaaDoorKZ1
set_option linter.unusedVariables false
set_option linter.unusedSimpArgs false
namespace Go.Proofs.YtgecnlcbdbaneaaDoor
open Go.RowKit Go.Sw
open Nat renaming reduceAdd → zn2

set_option maxHeartbeats 8000000 in
set_option maxRecDepth 100000 in
theorem inp_step (Γ : Gl) (a : ByteArray) (s : Tp) (k so : Int) (nm : ByteArray) (ls : List ByteArray) (l : List Tp) (R : Tp) (g : Tp → Tp) (hl : l.length ≤ 6)
 (h9 : k = 9 → nm.toList = a.toList → R = s) (h8 : k = 8 → nm.toList = a.toList → R = .mk k so nm ls l)
 (hn : ¬ (k = 9 ∧ nm.toList = a.toList) → ¬ (k = 8 ∧ nm.toList = a.toList) → R = .mk k so nm ls (l.map g) ∧ ∀ x ∈ l,DFn Tryd.prog Γ 67 [x.d,sD a,s.d] (g x).d) :
 DFn Tryd.prog Γ 67 [(Tp.mk k so nm ls l).d,sD a,s.d] R.d:=by
 have hll:=Tp.ds_len l
 by_cases c9 : k = 9 ∧ nm.toList = a.toList
 · obtain rfl:=h9 c9.1 c9.2
   have g9 : (k == 9) = true:=by simpa using c9.1
   have gn : (nm.toList == a.toList) = true:=by simpa using c9.2
   clear h9 h8 hn
   obtain ⟨rk,rso,rnm,rls,rl⟩:=R
   simp only [Tp.d]
   refine fn_of_swp (N:=52) Tryd.func67 rfl (by decide) rfl rfl (by simp) (fun C h0=>?_)
   simp only [argE]
   repeat' (first|(with_reducible apply zz1)|((with_reducible apply zz2);rfl;intro K' hK';simp only [WE,simprocAttr,g9,gn,cond_true];(repeat (constructor;focus (clear hK';intros;simp_all;done)));(try (apply hK';clear hK' K')))|((with_reducible apply zz3);rfl;all_goals (intro h;try exact absurd h (by decide))))
   simp only [Kret,retL,retOne,oneV,WE,simprocAttr]
 by_cases c8 : k = 8 ∧ nm.toList = a.toList
 · obtain rfl:=h8 c8.1 c8.2
   have g9 : (k == 9) = false:=by simp [c8.1]
   have g8 : (k == 8) = true:=by simpa using c8.1
   have gn : (nm.toList == a.toList) = true:=by simpa using c8.2
   clear h9 h8 hn
   obtain ⟨sk,sso,snm,sls,sl⟩:=s
   simp only [Tp.d]
   refine fn_of_swp (N:=52) Tryd.func67 rfl (by decide) rfl rfl (by simp) (fun C h0=>?_)
   simp only [argE]
   repeat' (first|(with_reducible apply zz1)|((with_reducible apply zz2);rfl;intro K' hK';simp only [WE,simprocAttr,g9,g8,gn,cond_true,cond_false];(repeat (constructor;focus (clear hK';intros;simp_all;done)));(try (apply hK';clear hK' K')))|((with_reducible apply zz3);rfl;all_goals (intro h;try exact absurd h (by decide))))
   simp only [Kret,retL,retOne,oneV,WE,simprocAttr]
 obtain ⟨rfl,ih⟩:=hn c9 c8
 obtain ⟨sk,sso,snm,sls,sl⟩:=s
 have e9 : (if (k == 9) = true then nm.toList == a.toList else false) = false:=by
  by_cases e : k = 9
  · have : ¬ nm.toList = a.toList:=fun h=>c9 ⟨e,h⟩
    simp [e,this]
  · simp [e]
 clear h9 h8 hn
 simp only [Tp.d]
 refine fn_of_swp (N:=52) Tryd.func67 rfl (by decide) rfl rfl (by simp) (fun C h0=>?_)
 simp only [argE]
 repeat' (first|(with_reducible apply zz1)|((with_reducible apply zz2);rfl;intro K' hK';simp only [WE,simprocAttr];(repeat (constructor;focus (clear hK';intros;simp_all;done)));(try (apply hK';clear hK' K')))|((with_reducible apply zz3);rfl;all_goals (intro h;try exact absurd h (by decide))))
 · exfalso
   cases g : k == 9 with
   | false=>rw [g] at h;cases h
   | true=>rw [g] at h;exact c9 ⟨by simpa using g,by simpa using h⟩
 · exfalso
   cases g : k == 8 with
   | false=>rw [g] at h;cases h
   | true=>rw [g] at h;exact c8 ⟨by simpa using g,by simpa using h⟩
 rename_i h9
 clear h h9 e9
 refine swp_nilB 3 4 4 5 rfl rfl rfl (by decide) ?_
 simp only [WE,simprocAttr]
 refine swp_loop (α := Nat) (fun j=>[(1,.d (sD a)),(3,.ref 0 0),(5,.ref 1 0),(6,.ref 2 0),(7,.ref 3 0),(8,.d (iD j))])
  (fun j=>[(0,.cells [.d (iD k),.d (iD so),.d (sD nm),.d (.slc (ls.map sD)),.d (.slc (Tp.ds l))]),(1,.cells [.d (iD sk),.d (iD sso),.d (sD snm),.d (.slc (sls.map sD)),.d (.slc (Tp.ds sl))]),(2,.cells [.d (iD 0),.d (iD 0),.d (sD noB),.nil,.nil]),(3,.cells [.d (iD k),.d (iD so),.d (sD nm),.d (.slc (ls.map sD)),.own 4]),(4,.row 5 (Tp.ds ((l.take j).map g)))])
  (fun j=>j ≤ l.length) (fun j=>l.length - j) 0 (Nat.zero_le _) (by refine sub_of h0 ?_ ?_ ?_ <;> simp only [US,WE,simprocAttr,hll,Tp.ds,List.take_zero,List.map_nil]) (fun j hj=>?_)
 have hj : j ≤ l.length:=hj
 have hj0 : (0 : Int) ≤ (j : Int):=by omega
 have hal : (Tp.ds ((l.take j).map g)).length = j:=by rw [Tp.ds_len,List.length_map,List.length_take];omega
 by_cases hjl : j < l.length
 · obtain ⟨y,hy⟩ : ∃ y,l[j]? = some y:=⟨l[j],by simp [hjl]⟩
   have hcall:=ih y (List.mem_of_getElem? hy)
   have hget:=Tp.ds_get l j y hy
   have hj1 : (j : Int) < (l.length : Int):=by omega
   have hw2 : IntKind.i64.wrap ((j : Int) + 1) = ((j + 1 : Nat) : Int):=by rw [wrap_in (by omega) (by omega)];omega
   have htk : l.take (j + 1) = l.take j ++ [y]:=by rw [List.take_add_one,hy];rfl
   have hm : Tp.ds ((l.take j).map g) ++ [(g y).d] = Tp.ds ((l.take (j + 1)).map g):=by
    rw [htk,List.map_append,List.map_cons,List.map_nil,ds_appT]
   have hn5 : (j + 1) * 80 ≤ 140737488355328:=by omega
   have hn6 : j + 1 ≤ maxLen:=by unfold maxLen;omega
   generalize g y = z at *
   obtain ⟨yk,yso,ynm,yls,yl⟩:=y
   obtain ⟨zk,zso,znm,zls,zl⟩:=z
   simp only [Tp.d] at hget hcall hm
   repeat' (first|(with_reducible apply zz1)|((with_reducible apply zz2);rfl;intro K' hK';simp only [WE,simprocAttr,hll,hj1];(repeat (constructor;focus (clear hK';intros;simp_all;done)));(try (apply hK';clear hK' K')))|((with_reducible apply zz3);rfl;all_goals (intro h;try exact absurd h (by decide))))
   (with_reducible refine swp_drawX ?_ ?_ ?_ (⟨⟨[(9,.agg [iD zk,iD zso,sD znm,.slc (zls.map sD),.slc (Tp.ds zl)])],[]⟩,[],[],[],[]⟩) _ rfl (fun K' hK' gops fin hgops hfin=>?_)
    · kernel_rfl
    · rfl
    · rfl
    repeat' first
     | (refine vcX_dead rfl trivial (by simp only [WE,simprocAttr,UX,UA];rfl) (by simp only [List.nil_append,List.cons_append];rfl) (by simp only [zn2];rfl) ?_)
     | (refine vcX_step rfl rfl trivial (by simp only [WE,simprocAttr,UX,UA,hcall,hget,hj0,hj1,hll,hal,hn5,hn6,hm,List.length_map,Int.toNat_natCast ];rfl) ?_ (by simp only [WE,simprocAttr,UX,UA];rfl) (by simp only [WE,simprocAttr,UX,UA];rfl) (by simp only [List.nil_append,List.cons_append];rfl) (by simp only [zn2];rfl) ?_;focus (first | trivial | ((repeat' apply And.intro) <;> first | trivial | assumption | (clear hK' hfin hgops;intros;simp_all;done))))
    (refine vcX_nil (by subst hfin;kernel_rfl) ?_)
    clear hfin hgops fin gops
    (try (apply hK';clear hK' K')))
   repeat' (first|(with_reducible apply zz1)|((with_reducible apply zz2);rfl;intro K' hK';simp only [WE,simprocAttr,hw2];(repeat (constructor;focus (clear hK';intros;simp_all;done)));(try (apply hK';clear hK' K')))|((with_reducible apply zz3);rfl;all_goals (intro h;try exact absurd h (by decide))))
   refine ⟨j + 1,(by show j + 1 ≤ l.length;omega),(by show l.length - (j + 1) < l.length - j;omega),by refine sub_of h0 ?_ ?_ ?_ <;> simp only [US,WE,simprocAttr]⟩
 · have hj1 : ¬ (j : Int) < (l.length : Int):=by omega
   rw [List.take_of_length_le (by omega)]
   repeat' (first|(with_reducible apply zz1)|((with_reducible apply zz2);rfl;intro K' hK';simp only [WE,simprocAttr,hll,hj1];(repeat (constructor;focus (clear hK';intros;simp_all;done)));(try (apply hK';clear hK' K')))|((with_reducible apply zz3);rfl;all_goals (intro h;try exact absurd h (by decide))))
   simp only [Kret,retL,retOne,oneV,WE,simprocAttr]
theorem inp_fn (Γ : Gl) (a : ByteArray) {s t : Tp} (h : OkT t) : DFn Tryd.prog Γ 67 [t.d,sD a,s.d] (putT a s t).d:=by
 have node : ∀ (k so : Int) (nm : ByteArray) (ls : List ByteArray) (l : List Tp),OkT (.mk k so nm ls l) → l.length ≤ 6 → k ≠ 9 → k ≠ 8 → (∀ x ∈ l,DFn Tryd.prog Γ 67 [x.d,sD a,s.d] (putT a s x).d) → DFn Tryd.prog Γ 67 [(Tp.mk k so nm ls l).d,sD a,s.d] (putT a s (Tp.mk k so nm ls l)).d:=fun k so nm ls l ho h1 h9 h8 ih =>
  inp_step Γ a s k so nm ls l _ (putT a s) h1 (fun e=>absurd e h9) (fun e=>absurd e h8) fun _ _=>⟨putT_node h9 h8 ho,ih⟩
 induction h with
 | nil=>exact node _ _ _ _ _ .nil (by simp) (by decide) (by decide) (fun x hx=>by cases hx)
 | pass k so x hk h1 h3 hx ih=>exact node _ _ _ _ _ (.pass k so x hk h1 h3 hx) (by simp) (by omega) (by omega) (fun y hy=>by rw [show y = x by simpa using hy];exact ih)
 | give k x y hk hx hy ih1 ih2=>exact node _ _ _ _ _ (.give k x y hk hx hy) (by simp) (by omega) (by omega) (fun z hz=>by
  rcases List.mem_cons.1 hz with rfl | hz
  · exact ih1
  · rw [show z = y by simpa using hz];exact ih2)
 | pick k ls l hk hl hn h ih=>exact node _ _ _ _ _ (.pick k ls l hk hl hn h) (by have:=labels_len hl;omega) (by omega) (by omega) ih
 | bind nm x hn hx ih =>
  refine inp_step Γ a s 8 0 nm [] [x] _ (putT a s) (by simp) (fun e=>by omega) (fun _ e=>?_) fun _ h8=>⟨?_,fun y hy=>by rw [show y = x by simpa using hy];exact ih⟩
  · rw [putT_bind (.bind nm x hn hx),if_pos (tl_inj e)]
  · rw [putT_bind (.bind nm x hn hx),if_neg (fun e=>h8 ⟨rfl,by rw [e]⟩)]
    rfl
 | var nm hn =>
  refine inp_step Γ a s 9 0 nm [] [] _ (putT a s) (by simp) (fun _ e=>?_) (fun e=>by omega) fun h9 _=>⟨?_,fun y hy=>by cases hy⟩
  · rw [putT_var,if_pos (tl_inj e)]
  · rw [putT_var,if_neg (fun e=>h9 ⟨rfl,by rw [e]⟩)]
    rfl
set_option maxHeartbeats 8000000 in
set_option maxRecDepth 100000 in
theorem head_fn (Γ : Gl) {x : Tp} (hx : Cw x) : DFn Tryd.prog Γ 31 [x.d] (unfP x).d:=by
 obtain ⟨R,hR⟩ : ∃ R,unfP x = R:=⟨_,rfl⟩
 have hx0:=hx.unf
 rw [hR]
 obtain ⟨u,hu⟩ : ∃ u,x = u:=⟨_,rfl⟩
 have hx0 : Unf x u:=hu ▸ hx0
 have hR : unfP u = R:=hu ▸ hR
 rw [hu]
 clear hu hx
 obtain ⟨k,so,nm,ls,l⟩:=u
 simp only [Tp.d]
 refine fn_of_swp (N:=15) Tryd.func31 rfl (by decide) rfl rfl (by simp) (fun C h0=>?_)
 simp only [argE]
 repeat' (first|(with_reducible apply zz1)|((with_reducible apply zz2);rfl;intro K' hK';simp only [WE,simprocAttr];(repeat (constructor;focus (clear hK';intros;simp_all;done)));(try (apply hK';clear hK' K')))|((with_reducible apply zz3);rfl;all_goals (intro h;try exact absurd h (by decide))))
 refine swp_loop (α := Tp) (fun _=>[(1,.ref 0 0),(2,.ref 1 0)]) (fun t=>[(0,.cells t.cs),(1,.cells [.d (iD 0),.d (iD 0),.d (sD noB),.nil,.nil])])
  (fun t=>Unf x t ∧ unfP t = R) hrT (.mk k so nm ls l) ⟨hx0,hR⟩ (by simp only [Tp.cs];refine sub_of h0 ?_ ?_ ?_ <;> simp only [US,WE,simprocAttr]) (fun t ht=>?_)
 obtain ⟨hU,hq⟩:=ht
 clear hx0 hR
 obtain ⟨tk,tso,tnm,tls,tl⟩:=t
 simp only [Tp.cs]
 by_cases h8 : tk = 8
 · subst h8
   have hl : ∃ b,tl = [b]:=by
    cases hU.ok with
    | pass k so x hk h1 h3 hx=>omega
    | give k x y hk hx hy=>omega
    | pick k ls l hk hl hn h=>omega
    | bind nm x hn hx=>exact ⟨x,rfl⟩
   obtain ⟨b,rfl⟩:=hl
   have hob : OkT b:=by
    cases hU.ok with
    | pass k so x hk h1 h3 hx=>omega
    | pick k ls l hk hl hn h=>omega
    | bind nm x hn hx=>exact hx
   have hp:=inp_fn Γ tnm (s:=.mk 8 tso tnm tls [b]) hob
   have hs:=hU.step
   rw [unf_bind hU] at hq
   generalize putT tnm (.mk 8 tso tnm tls [b]) b = z at *
   obtain ⟨bk,bso,bnm,bls,bl⟩:=b
   obtain ⟨zk,zso,znm,zls,zl⟩:=z
   simp only [Tp.d,Tp.ds] at hp
   simp only [Tp.ds,Tp.d]
   repeat' (first|(with_reducible apply zz1)|((with_reducible apply zz2);rfl;intro K' hK';simp only [WE,simprocAttr];(repeat (constructor;focus (clear hK';intros;simp_all;done)));(try (apply hK';clear hK' K')))|((with_reducible apply zz3);rfl;all_goals (intro h;try exact absurd h (by decide))))
   (with_reducible refine swp_drawX ?_ ?_ ?_ (⟨⟨[(7,.agg [iD zk,iD zso,sD znm,.slc (zls.map sD),.slc (Tp.ds zl)])],[]⟩,[],[],[],[]⟩) _ rfl (fun K' hK' gops fin hgops hfin=>?_)
    · kernel_rfl
    · rfl
    · rfl
    repeat' first
     | (refine vcX_dead rfl trivial (by simp only [WE,simprocAttr,UX,UA];rfl) (by simp only [List.nil_append,List.cons_append];rfl) (by simp only [zn2];rfl) ?_)
     | (refine vcX_step rfl rfl trivial (by simp only [WE,simprocAttr,UX,UA,hp,List.getD_cons_zero,List.length_cons,List.length_nil ];rfl) ?_ (by simp only [WE,simprocAttr,UX,UA];rfl) (by simp only [WE,simprocAttr,UX,UA];rfl) (by simp only [List.nil_append,List.cons_append];rfl) (by simp only [zn2];rfl) ?_;focus (first | trivial | ((repeat' apply And.intro) <;> first | trivial | assumption | (clear hK' hfin hgops;intros;simp_all;done))))
    (refine vcX_nil (by subst hfin;kernel_rfl) ?_)
    clear hfin hgops fin gops
    (try (apply hK';clear hK' K')))
   repeat' (first|(with_reducible apply zz1)|((with_reducible apply zz2);rfl;intro K' hK';simp only [WE,simprocAttr];(repeat (constructor;focus (clear hK';intros;simp_all;done)));(try (apply hK';clear hK' K')))|((with_reducible apply zz3);rfl;all_goals (intro h;try exact absurd h (by decide))))
   refine ⟨.mk zk zso znm zls zl,⟨hs.1,hq⟩,by omega,by simp only [Tp.cs];refine sub_of h0 ?_ ?_ ?_ <;> simp only [US,WE,simprocAttr]⟩
 · have g8 : (tk == 8) = false:=by simpa using h8
   rw [unf_node (t:=.mk tk tso tnm tls tl) h8] at hq
   subst hq
   simp only [Tp.d]
   repeat' (first|(with_reducible apply zz1)|((with_reducible apply zz2);rfl;intro K' hK';simp only [WE,simprocAttr,g8];(repeat (constructor;focus (clear hK';intros;simp_all;done)));(try (apply hK';clear hK' K')))|((with_reducible apply zz3);rfl;all_goals (intro h;try exact absurd h (by decide))))
   simp only [Kret,retL,retOne,oneV,WE,simprocAttr]
def pickI (k n : Int) : Int:=(if k < 0 then -(k + 1) else k).tmod n
set_option maxHeartbeats 4000000 in
set_option maxRecDepth 100000 in
theorem pick_fn (Γ : Gl) (k n : Int) (h1 : -9223372036854775808 ≤ k) (h2 : k < 9223372036854775808) (hn : 0 < n) : DFn Tryd.prog Γ 33 [iD k,iD n] (iD (pickI k n)):=by
 have hz : n ≠ 0:=by omega
 unfold pickI
 by_cases h : k < 0
 · have w1 : IntKind.i64.wrap (k + 1) = k + 1:=wrap_in (by omega) (by omega)
   have w2 : IntKind.i64.wrap (0 - (k + 1)) = -(k + 1):=by rw [wrap_in (by omega) (by omega)];omega
   rw [if_pos h]
   refine fn_of_swp (N:=13) Tryd.func33 rfl (by decide) rfl rfl (by simp) (fun C h0=>?_)
   simp only [argE]
   repeat' (first|(with_reducible apply zz1)|((with_reducible apply zz2);rfl;intro K' hK';simp only [WE,simprocAttr,h,w1,w2,hz];(repeat (constructor;focus (clear hK';intros;simp_all;done)));(try (apply hK';clear hK' K')))|((with_reducible apply zz3);rfl;all_goals (intro h;try exact absurd h (by decide))))
   simp only [Kret,retL,retOne,oneV,WE,simprocAttr]
 · rw [if_neg h]
   refine fn_of_swp (N:=13) Tryd.func33 rfl (by decide) rfl rfl (by simp) (fun C h0=>?_)
   simp only [argE]
   repeat' (first|(with_reducible apply zz1)|((with_reducible apply zz2);rfl;intro K' hK';simp only [WE,simprocAttr,h,hz];(repeat (constructor;focus (clear hK';intros;simp_all;done)));(try (apply hK';clear hK' K')))|((with_reducible apply zz3);rfl;all_goals (intro h;try exact absurd h (by decide))))
   simp only [Kret,retL,retOne,oneV,WE,simprocAttr]
theorem pickI_rng {k n : Int} (hn : 0 < n) : 0 ≤ pickI k n ∧ pickI k n < n:=by
 unfold pickI
 split
 · exact ⟨Int.tmod_nonneg _ (by omega),Int.tmod_lt_of_pos _ hn⟩
 · exact ⟨Int.tmod_nonneg _ (by omega),Int.tmod_lt_of_pos _ hn⟩
end Go.Proofs.YtgecnlcbdbaneaaDoor
