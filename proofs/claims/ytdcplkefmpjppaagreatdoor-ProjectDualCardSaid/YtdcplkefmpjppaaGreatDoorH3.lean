/- graph.parted; a symbolic walk. -/
-- TYPESA
import Derived.Test.YtdcplkefmpjppaaGreatDoorHP
set_option linter.unusedVariables false
set_option linter.unusedSimpArgs false
namespace Go.Proofs.YtdcplkefmpjppaaGreatDoor
open Go.RowKit Go.Sw

theorem info3 : ∃ i,Tryz.prog.info? 3 = some i ∧ i.zero = some (.int .i64 0) ∧ i.size = 1 ∧ i.bytes = 8:=by
 have h : (Tryz.prog.info? 3).map (fun i=>(i.zero,i.size,i.bytes)) = some (some (.int .i64 0),1,8):=by kernel_rfl
 obtain ⟨i,hi,hz⟩:=Option.map_eq_some_iff.1 h
 simp only [Prod.mk.injEq] at hz
 exact ⟨i,hi,hz.1,hz.2.1,hz.2.2⟩
theorem numS_size3 {n : Int} (h1 : n < 1000) : (numS n).size ≤ 3:=by
 unfold numS packS
 show (Lib.decDigits n.toNat).toArray.size ≤ 3
 by_cases h : n.toNat < 10
 · rw [Lib.decDigits_one h];simp
 · by_cases h2 : n.toNat < 100
   · rw [Lib.decDigits_two h h2];simp
   · rw [Lib.decDigits,dif_neg h,Lib.decDigits_two (by omega) (by omega)];simp
set_option maxHeartbeats 8000000 in
set_option maxRecDepth 100000 in
theorem parted_fn (Γ : Gl) (M : Nat) (hM : 100 ≤ M) (hM2 : M ≤ 250) (hI : ∀ n : Int,0 ≤ n → n < (M : Int) → DFn Tryz.prog Γ 89 [iD n] (sD (numS n))) (g : List Nd) (hg : g.length ≤ M) (hn : ∀ x ∈ g,NdOK g.length x)
 (hgrow : ∀ cl : List Int,cl.length = g.length → (∀ c ∈ cl,0 ≤ c ∧ c < (M : Int)) → (allK (keysF cl 0 g)).length ≤ (allK (keysF (nxtK (keysF cl 0 g)) 0 g)).length) :
 DFn Tryz.prog Γ 118 [.slc (g.map Nd.d)] (.slc ((partedP g).map iD)):=by
 obtain ⟨i3,hi3,hz3,hs3,hb3⟩:=info3
 refine fn_of_swp (N:=101) Tryz.func118 rfl (by decide) rfl rfl (by simp) (fun C h0=>?_)
 simp only [argE]
 repeat' (first|(with_reducible apply zz1)|((with_reducible apply zz2);rfl;intro K' hK';simp only [WA,simprocAttr,List.length_map];(repeat (constructor;focus (clear hK';intros;simp_all;done)));(try (apply hK';clear hK' K')))|((with_reducible apply zz3);rfl;all_goals (intro h;try exact absurd h (by decide))))
 refine stop_make (n:=g.length) rfl un44 hi3 hz3 hs3 rfl rfl rfl rfl (by rw [hb3];omega) (by unfold maxLen;omega) rfl ?_
 simp only [WA,simprocAttr]
 (repeat (constructor;focus (clear hK';intros;simp_all;done)))
 (try (apply hK';clear hK' K'))
 repeat' (first|(with_reducible apply zz1)|((with_reducible apply zz2);rfl;intro K' hK';simp only [WA,simprocAttr];(repeat (constructor;focus (clear hK';intros;simp_all;done)));(try (apply hK';clear hK' K')))|((with_reducible apply zz3);rfl;all_goals (intro h;try exact absurd h (by decide))))
 refine swp_loop (α := List Int × Nat) (fun q=>[(0,.d (.slc (g.map Nd.d))),(3,.d (.slc (q.1.map iD))),(4,.d (iD q.2))]) (fun _=>[])
  (fun q=>q.1.length = g.length ∧ (∀ c ∈ q.1,0 ≤ c ∧ c < (M : Int)) ∧ q.2 ≤ (allK (keysF q.1 0 g)).length ∧ ∃ f,g.length + 1 - q.2 ≤ f ∧ partedP g = partF g f q.1 q.2) (fun q=>g.length + 1 - q.2)
  (List.replicate g.length 0,0) ⟨by simp,(fun c hc=>by rw [List.eq_of_mem_replicate hc];exact ⟨Int.le_refl _,by omega⟩),Nat.zero_le _,_,Nat.le_refl _,rfl⟩ (by refine sub_of h0 ?_ ?_ ?_ <;> simp only [US,WA,simprocAttr,List.map_replicate]) (fun q hq=>?_)
 obtain ⟨cl,many⟩:=q
 obtain ⟨hcl,hcr,hmany,f,hf,hpt⟩:=hq
 simp only at hcl hcr hmany hf hpt
 obtain ⟨ks,hks⟩ : ∃ ks,keysF cl 0 g = ks:=⟨_,rfl⟩
 have hksn : ks.length = g.length:=by rw [← hks];exact keysF_len cl g 0
 have hak:=allK_len ks
 repeat' (first|(with_reducible apply zz1)|((with_reducible apply zz2);rfl;intro K' hK';simp only [WA,simprocAttr,List.length_map];(repeat (constructor;focus (clear hK';intros;simp_all;done)));(try (apply hK';clear hK' K')))|((with_reducible apply zz3);rfl;all_goals (intro h;try exact absurd h (by decide))))
 refine stop_make (n:=g.length) rfl un44 hi3 hz3 hs3 rfl rfl rfl rfl (by rw [hb3];omega) (by unfold maxLen;omega) rfl ?_
 simp only [WA,simprocAttr]
 (repeat (constructor;focus (clear hK';intros;simp_all;done)))
 (try (apply hK';clear hK' K'))
 repeat' (first|(with_reducible apply zz1)|((with_reducible apply zz2);rfl;intro K' hK';simp only [WA,simprocAttr,List.length_map];(repeat (constructor;focus (clear hK';intros;simp_all;done)));(try (apply hK';clear hK' K')))|((with_reducible apply zz3);rfl;all_goals (intro h;try exact absurd h (by decide))))
 refine swp_loop (α := Nat) (fun i=>[(0,.d (.slc (g.map Nd.d))),(3,.d (.slc (cl.map iD))),(4,.d (iD many)),(5,.mp 0),(6,.own 1),(23,.d (.slc (g.map Nd.d))),(24,.d (iD g.length)),(25,.d (iD i))])
  (fun i=>[(0,.mp (mOf 0 (allK (ks.take i)))),(1,.row 1 ((nxtK (ks.take i) ++ List.replicate (g.length - i) 0).map iD))])
  (fun i=>i ≤ g.length) (fun i=>g.length - i) 0 (Nat.zero_le _) (by refine sub_of h0 ?_ ?_ ?_ <;> simp only [US,WA,simprocAttr,List.map_replicate,List.take_zero,nxtK,allK,List.map_nil,List.foldl_nil,mOf,Nat.sub_zero,List.nil_append]) (fun i hi=>?_)
 have hi : i ≤ g.length:=hi
 have hb0 : (0 : Int) ≤ (i : Int):=by omega
 have hak2:=allK_len (ks.take i)
 rw [List.length_take] at hak2
 by_cases hlt : i < g.length
 · obtain ⟨x,hx⟩ : ∃ x,g[i]? = some x:=⟨g[i],by simp [hlt]⟩
   obtain ⟨⟨hk0,hk1⟩,⟨hs0,hs1⟩,hls,hlb,hto,hr⟩:=hn x (List.mem_of_getElem? hx)
   have hkey:=keysF_get cl g 0 i x hx
   rw [hks,Nat.zero_add] at hkey
   have hget : (g.map Nd.d).getD i default = x.d:=by simp [List.getD,hx]
   obtain ⟨c,hc⟩ : ∃ c,cl[i]? = some c:=⟨cl[i]'(by omega),by simp⟩
   have hcg : (cl.map iD).getD i default = iD c:=by simp [List.getD,hc]
   have hcg2 : cl.getD i 0 = c:=by simp [List.getD,hc]
   obtain ⟨hc0,hc1⟩:=hcr c (List.mem_of_getElem? hc)
   have hb1 : (i : Int) < (g.length : Int):=by omega
   have hb2 : (i : Int) < (cl.length : Int):=by omega
   have hw1 : IntKind.i64.wrap ((i : Int) + 1) = ((i + 1 : Nat) : Int):=by rw [wrap_in (by omega) (by omega)];omega
   obtain ⟨k,so,ls,to⟩:=x
   simp only [Nd.d] at hget
   simp only at hk0 hk1 hs0 hs1 hls hlb hto hr
   have hik:=hI k hk0 (by omega)
   have his:=hI so hs0 (by omega)
   have hic:=hI c hc0 hc1
   have zk:=numS_size3 (show k < 1000 by omega)
   have zs:=numS_size3 (show so < 1000 by omega)
   have zc:=numS_size3 (show c < 1000 by omega)
   have z1 : (numS k).size + ByteArray.size ⟨#[32]⟩ ≤ maxLen:=by
    have : ByteArray.size ⟨#[32]⟩ = 1:=rfl
    unfold maxLen;omega
   have zsp : spS.size = 1:=rfl
   have z2 : (numS k ++ ⟨#[32]⟩).size + (numS so).size ≤ maxLen:=by
    rw [ByteArray.size_append]
    have : ByteArray.size ⟨#[32]⟩ = 1:=rfl
    unfold maxLen;omega
   obtain ⟨K0,hK0⟩ : ∃ K0,numS k ++ ⟨#[32]⟩ ++ numS so = K0:=⟨_,rfl⟩
   have zK0 : K0.size ≤ 7:=by
    rw [← hK0,ByteArray.size_append,ByteArray.size_append]
    have : ByteArray.size ⟨#[32]⟩ = 1:=rfl
    omega
   repeat' (first|(with_reducible apply zz1)|((with_reducible apply zz2);rfl;intro K' hK';simp only [WA,simprocAttr,Int.toNat_natCast,hget,hb0,hb1,List.length_map];(repeat (constructor;focus (clear hK';intros;simp_all;done)));(try (apply hK';clear hK' K')))|((with_reducible apply zz3);rfl;all_goals (intro h;try exact absurd h (by decide))))
   (with_reducible refine swp_draw ?_ ?_ ?_ ( [(2,sD (numS k)),(6,sD (numS so))]) (fun K' hK'=>?_)
    · kernel_rfl
    · rfl
    · rfl
    simp only [WA,simprocAttr,UG,hik,his,z1,z2,hK0 ]
    (try (apply hK';clear hK' K')))
   repeat' (first|(with_reducible apply zz1)|((with_reducible apply zz2);rfl;intro K' hK';simp only [WA,simprocAttr,List.length_map];(repeat (constructor;focus (clear hK';intros;simp_all;done)));(try (apply hK';clear hK' K')))|((with_reducible apply zz3);rfl;all_goals (intro h;try exact absurd h (by decide))))
   refine swp_loop (α := Nat) (fun j=>[(0,.d (.slc (g.map Nd.d))),(3,.d (.slc (cl.map iD))),(4,.d (iD many)),(5,.mp 0),(6,.own 1),(23,.d (.slc (g.map Nd.d))),(24,.d (iD g.length)),(25,.d (iD i)),(7,.d (iD i)),(8,.ref 2 0),(9,.d (sD (catL K0 (ls.take j)))),(39,.d (.slc (ls.map sD))),(40,.d (iD ls.length)),(41,.d (iD j))]) (fun _=>[(0,.mp (mOf 0 (allK (ks.take i)))),(1,.row 1 ((nxtK (ks.take i) ++ List.replicate (g.length - i) 0).map iD)),(2,.cells [.d (iD k),.d (iD so),.d (.slc (ls.map sD)),.d (.slc (to.map iD))])])
    (fun j=>j ≤ ls.length) (fun j=>ls.length - j) 0 (Nat.zero_le _) (by refine sub_of h0 ?_ ?_ ?_ <;> simp only [US,WA,simprocAttr,List.take_zero,catL,List.foldl_nil]) (fun j hj=>?_)
   have hj : j ≤ ls.length:=hj
   have hj0 : (0 : Int) ≤ (j : Int):=by omega
   by_cases hjl : j < ls.length
   · obtain ⟨y,hy⟩ : ∃ y,ls[j]? = some y:=⟨ls[j],by simp [hjl]⟩
     have hyz:=hlb y (List.mem_of_getElem? hy)
     have hyg : (ls.map sD).getD j default = sD y:=by simp [List.getD,hy]
     have hj1 : (j : Int) < (ls.length : Int):=by omega
     have hw2 : IntKind.i64.wrap ((j : Int) + 1) = ((j + 1 : Nat) : Int):=by rw [wrap_in (by omega) (by omega)];omega
     have htk : catL K0 (ls.take (j + 1)) = catL K0 (ls.take j) ++ (⟨#[32]⟩ ++ y):=by rw [List.take_add_one,hy];exact catL_snoc _ _ _
     have zt:=catL_size 8 (ls.take j) K0 (fun y hy=>hlb y (List.mem_of_mem_take hy))
     have zl : (ls.take j).length = j:=by simp;omega
     rw [zl] at zt
     have z3 : ByteArray.size ⟨#[32]⟩ + y.size ≤ maxLen:=by
      have : ByteArray.size ⟨#[32]⟩ = 1:=rfl
      unfold maxLen;omega
     have z4 : (catL K0 (ls.take j)).size + (⟨#[32]⟩ ++ y).size ≤ maxLen:=by
      rw [ByteArray.size_append (a:=⟨#[32]⟩)]
      have : ByteArray.size ⟨#[32]⟩ = 1:=rfl
      unfold maxLen;omega
     repeat' (first|(with_reducible apply zz1)|((with_reducible apply zz2);rfl;intro K' hK';simp only [WA,simprocAttr,Int.toNat_natCast,hyg,hj0,hj1,List.length_map,z3,z4,hw2];(repeat (constructor;focus (clear hK';intros;simp_all;done)));(try (apply hK';clear hK' K')))|((with_reducible apply zz3);rfl;all_goals (intro h;try exact absurd h (by decide))))
     refine ⟨j + 1,(by show j + 1 ≤ ls.length;omega),(by show ls.length - (j + 1) < ls.length - j;omega),by refine sub_of h0 ?_ ?_ ?_ <;> simp only [US,WA,simprocAttr,htk]⟩
   · have hj1 : ¬ (j : Int) < (ls.length : Int):=by omega
     have hlsj : ls.take j = ls:=List.take_of_length_le (by omega)
     rw [hlsj]
     obtain ⟨K1,hK1⟩ : ∃ K1,catL K0 ls ++ (⟨#[32]⟩ ++ numS c) = K1:=⟨_,rfl⟩
     have zt:=catL_size 8 ls K0 hlb
     have z3 : ByteArray.size ⟨#[32]⟩ + (numS c).size ≤ maxLen:=by
      have : ByteArray.size ⟨#[32]⟩ = 1:=rfl
      unfold maxLen;omega
     have z4 : (catL K0 ls).size + (⟨#[32]⟩ ++ numS c).size ≤ maxLen:=by
      rw [ByteArray.size_append (a:=⟨#[32]⟩)]
      have : ByteArray.size ⟨#[32]⟩ = 1:=rfl
      unfold maxLen;omega
     have zK1 : K1.size ≤ 80:=by
      rw [← hK1,ByteArray.size_append,ByteArray.size_append]
      have : ByteArray.size ⟨#[32]⟩ = 1:=rfl
      omega
     repeat' (first|(with_reducible apply zz1)|((with_reducible apply zz2);rfl;intro K' hK';simp only [WA,simprocAttr,hj1,Int.toNat_natCast,hb0,hb2,hcg,List.length_map];(repeat (constructor;focus (clear hK';intros;simp_all;done)));(try (apply hK';clear hK' K')))|((with_reducible apply zz3);rfl;all_goals (intro h;try exact absurd h (by decide))))
     refine stop_callF rfl (by simp only [WA,simprocAttr]) rfl rfl (hic ) ?_
     simp only [WA,simprocAttr,inX,dropS,  z3,z4,hK1]
     (repeat (constructor;focus (clear hK';intros;simp_all;done)))
     (try (apply hK';clear hK' K'))
     repeat' (first|(with_reducible apply zz1)|((with_reducible apply zz2);rfl;intro K' hK';simp only [WA,simprocAttr,List.length_map];(repeat (constructor;focus (clear hK';intros;simp_all;done)));(try (apply hK';clear hK' K')))|((with_reducible apply zz3);rfl;all_goals (intro h;try exact absurd h (by decide))))
     refine swp_loop (α := Nat) (fun j=>[(0,.d (.slc (g.map Nd.d))),(3,.d (.slc (cl.map iD))),(4,.d (iD many)),(5,.mp 0),(6,.own 1),(23,.d (.slc (g.map Nd.d))),(24,.d (iD g.length)),(25,.d (iD i)),(7,.d (iD i)),(8,.ref 2 0),(9,.d (sD (catL K1 ((to.take j).map fun k=>numS (cl.getD k.toNat 0))))),(59,.d (.slc (to.map iD))),(60,.d (iD to.length)),(61,.d (iD j))]) (fun _=>[(0,.mp (mOf 0 (allK (ks.take i)))),(1,.row 1 ((nxtK (ks.take i) ++ List.replicate (g.length - i) 0).map iD)),(2,.cells [.d (iD k),.d (iD so),.d (.slc (ls.map sD)),.d (.slc (to.map iD))])])
      (fun j=>j ≤ to.length) (fun j=>to.length - j) 0 (Nat.zero_le _) (by refine sub_of h0 ?_ ?_ ?_ <;> simp only [US,WA,simprocAttr,List.take_zero,catL,List.map_nil,List.foldl_nil]) (fun j hj=>?_)
     clear hlsj hj1 hj0 zt z3 z4
     have hj : j ≤ to.length:=hj
     have hj0 : (0 : Int) ≤ (j : Int):=by omega
     by_cases hjl : j < to.length
     · obtain ⟨y,hy⟩ : ∃ y,to[j]? = some y:=⟨to[j],by simp [hjl]⟩
       have hyr:=hr y (List.mem_of_getElem? hy)
       have hyg : (to.map iD).getD j default = iD y:=by simp [List.getD,hy]
       obtain ⟨d,hd⟩ : ∃ d,cl[y.toNat]? = some d:=⟨cl[y.toNat]'(by omega),by simp⟩
       have hdg : (cl.map iD).getD y.toNat default = iD d:=by simp [List.getD,hd]
       have hdg2 : cl.getD y.toNat 0 = d:=by simp [List.getD,hd]
       obtain ⟨hd0,hd1⟩:=hcr d (List.mem_of_getElem? hd)
       have hid:=hI d hd0 hd1
       have zd:=numS_size3 (show d < 1000 by omega)
       have hy0 : (0 : Int) ≤ y:=hyr.1
       have hy1 : y < (cl.length : Int):=by omega
       have hj1 : (j : Int) < (to.length : Int):=by omega
       have hw2 : IntKind.i64.wrap ((j : Int) + 1) = ((j + 1 : Nat) : Int):=by rw [wrap_in (by omega) (by omega)];omega
       have htk : catL K1 ((to.take (j + 1)).map fun k=>numS (cl.getD k.toNat 0)) = catL K1 ((to.take j).map fun k=>numS (cl.getD k.toNat 0)) ++ (⟨#[32]⟩ ++ numS d):=by
        rw [List.take_add_one,hy,List.map_append, ← hdg2];exact catL_snoc _ _ _
       have zt:=catL_size 3 ((to.take j).map fun k=>numS (cl.getD k.toNat 0)) K1 (fun z hz=>by
        obtain ⟨q,hq,rfl⟩:=List.mem_map.1 hz
        have hqr:=hr q (List.mem_of_mem_take hq)
        refine numS_size3 ?_
        rw [List.getD_eq_getElem?_getD,List.getElem?_eq_getElem (by omega),Option.getD_some]
        have:=(hcr _ (List.getElem_mem (show q.toNat < cl.length by omega))).2
        omega)
       have zl : ((to.take j).map fun k=>numS (cl.getD k.toNat 0)).length = j:=by simp;omega
       rw [zl] at zt
       have z3 : ByteArray.size ⟨#[32]⟩ + (numS d).size ≤ maxLen:=by
        have : ByteArray.size ⟨#[32]⟩ = 1:=rfl
        unfold maxLen;omega
       have z4 : (catL K1 ((to.take j).map fun k=>numS (cl.getD k.toNat 0))).size + (⟨#[32]⟩ ++ numS d).size ≤ maxLen:=by
        rw [ByteArray.size_append (a:=⟨#[32]⟩)]
        have : ByteArray.size ⟨#[32]⟩ = 1:=rfl
        unfold maxLen;omega
       obtain ⟨A,hA⟩ : ∃ A,catL K1 ((to.take j).map fun k=>numS (cl.getD k.toNat 0)) = A:=⟨_,rfl⟩
       rw [hA] at z4 htk ⊢
       repeat' (first|(with_reducible apply zz1)|((with_reducible apply zz2);rfl;intro K' hK';simp only [WA,simprocAttr,Int.toNat_natCast,hyg,hj0,hj1,hy0,hy1,hdg,List.length_map];(repeat (constructor;focus (clear hK';intros;simp_all;done)));(try (apply hK';clear hK' K')))|((with_reducible apply zz3);rfl;all_goals (intro h;try exact absurd h (by decide))))
       refine stop_callF rfl (by simp only [WA,simprocAttr]) rfl rfl (hid ) ?_
       simp only [WA,simprocAttr,inX,dropS,  z3,z4]
       (repeat (constructor;focus (clear hK';intros;simp_all;done)))
       (try (apply hK';clear hK' K'))
       repeat' (first|(with_reducible apply zz1)|((with_reducible apply zz2);rfl;intro K' hK';simp only [WA,simprocAttr,hw2];(repeat (constructor;focus (clear hK';intros;simp_all;done)));(try (apply hK';clear hK' K')))|((with_reducible apply zz3);rfl;all_goals (intro h;try exact absurd h (by decide))))
       refine ⟨j + 1,(by show j + 1 ≤ to.length;omega),(by show to.length - (j + 1) < to.length - j;omega),by refine sub_of h0 ?_ ?_ ?_ <;> simp only [US,WA,simprocAttr,htk]⟩
     · have hj1 : ¬ (j : Int) < (to.length : Int):=by omega
       have htoj : to.take j = to:=List.take_of_length_le (by omega)
       rw [htoj]
       obtain ⟨K,hK⟩ : ∃ K,catL K1 (to.map fun k=>numS (cl.getD k.toNat 0)) = K:=⟨_,rfl⟩
       rw [hK]
       have hkK : ks[i]? = some K:=by
        rw [hkey, ← hK, ← hK1, ← hK0]
        simp only [keyOf,hcg2]
       have hko:=keyOK_mOf K (allK (ks.take i))
       have htk : ks.take (i + 1) = ks.take i ++ [K]:=by rw [List.take_add_one,hkK];rfl
       have hfind:=find_mOf K (allK (ks.take i)) 0
       have hml:=mOf_len (allK (ks.take i)) 0
       have hrow : ((nxtK (ks.take i) ++ List.replicate (g.length - i) 0).map iD).set i (iD (plK K (addK (allK (ks.take i)) K))) = (nxtK (ks.take (i + 1)) ++ List.replicate (g.length - (i + 1)) 0).map iD:=by
        have hnl : (nxtK (ks.take i)).length = i:=by simp [nxtK];omega
        rw [htk,nxtK_snoc, ← List.map_set]
        congr 1
        rw [show g.length - i = (g.length - (i + 1)) + 1 by omega,List.replicate_succ,List.set_append_right _ _ (by omega),hnl,Nat.sub_self,List.set_cons_zero,List.append_assoc]
        rfl
       have hrl : ((nxtK (ks.take i) ++ List.replicate (g.length - i) 0).map iD).length = g.length:=by simp [nxtK];omega
       have hgd0 : ((nxtK (ks.take i) ++ List.replicate (g.length - i) 0).map iD).getD i default = iD 0:=by
        have hnl : (nxtK (ks.take i)).length = i:=by simp [nxtK];omega
        rw [List.getD_eq_getElem?_getD,List.getElem?_map,List.getElem?_append_right (by omega),hnl,Nat.sub_self,List.getElem?_replicate,if_pos (by omega)]
        rfl
       cases hix : ixK K (allK (ks.take i)) 0 with
       | some p =>
        rw [hix] at hfind
        simp only [Option.map_some] at hfind
        have hadd : addK (allK (ks.take i)) K = allK (ks.take i):=by unfold addK;rw [hix]
        have hpl : plK K (allK (ks.take i)) = (p : Int):=by unfold plK;rw [hix];rfl
        rw [hadd,hpl] at hrow
        repeat' (first|(with_reducible apply zz1)|((with_reducible apply zz2);rfl;intro K' hK';simp only [WA,simprocAttr,hj1,hko,hfind,Int.toNat_natCast,hb0,hb1,hrl];(repeat (constructor;focus (clear hK';intros;simp_all;done)));(try (apply hK';clear hK' K')))|((with_reducible apply zz3);rfl;all_goals (intro h;try exact absurd h (by decide))))
        refine stop_sE rfl (by simp only [WA,simprocAttr,storeE,setE,dAll,Option.map_some,hgd0,hrow];rfl) ?_ ?_
        · first | trivial | ((repeat' apply And.intro) <;> first | trivial | assumption | (clear hK';intros;simp_all;done))
        simp only [WA,simprocAttr,hgd0,hrow]
        (repeat (constructor;focus (clear hK';intros;simp_all;done)))
        (try (apply hK';clear hK' K'))
        repeat' (first|(with_reducible apply zz1)|((with_reducible apply zz2);rfl;intro K' hK';simp only [WA,simprocAttr,hw1];(repeat (constructor;focus (clear hK';intros;simp_all;done)));(try (apply hK';clear hK' K')))|((with_reducible apply zz3);rfl;all_goals (intro h;try exact absurd h (by decide))))
        refine ⟨i + 1,(by show i + 1 ≤ g.length;omega),(by show g.length - (i + 1) < g.length - i;omega),?_⟩
        refine sub_of h0 ?_ ?_ ?_ <;> simp only [US,WA,simprocAttr,htk,allK_snoc,hadd,hrow]
       | none =>
        rw [hix] at hfind
        simp only [Option.map_none] at hfind
        have hset:=set_mOf K (allK (ks.take i)) 0 0 hix
        rw [Nat.zero_add] at hset
        have hadd : addK (allK (ks.take i)) K = allK (ks.take i) ++ [K]:=by unfold addK;rw [hix]
        have hix2:=ix_none_app hix
        have hfind2:=find_mOf K (allK (ks.take i) ++ [K]) 0
        rw [hix2,Nat.zero_add] at hfind2
        simp only [Option.map_some] at hfind2
        have hko2:=keyOK_mOf K (allK (ks.take i) ++ [K])
        have hpl : plK K (allK (ks.take i) ++ [K]) = ((allK (ks.take i)).length : Int):=by unfold plK;rw [hix2,Nat.zero_add];rfl
        rw [hadd,hpl] at hrow
        repeat' (first|(with_reducible apply zz1)|((with_reducible apply zz2);rfl;intro K' hK';simp only [WA,simprocAttr,hj1,hko,hfind,hml,hset,hko2,hfind2,Int.toNat_natCast,hb0,hb1,hrl];(repeat (constructor;focus (clear hK';intros;simp_all;done)));(try (apply hK';clear hK' K')))|((with_reducible apply zz3);rfl;all_goals (intro h;try exact absurd h (by decide))))
        refine stop_sE rfl (by simp only [WA,simprocAttr,storeE,setE,dAll,Option.map_some,hgd0,hrow];rfl) ?_ ?_
        · first | trivial | ((repeat' apply And.intro) <;> first | trivial | assumption | (clear hK';intros;simp_all;done))
        simp only [WA,simprocAttr,hgd0,hrow]
        (repeat (constructor;focus (clear hK';intros;simp_all;done)))
        (try (apply hK';clear hK' K'))
        repeat' (first|(with_reducible apply zz1)|((with_reducible apply zz2);rfl;intro K' hK';simp only [WA,simprocAttr,hw1];(repeat (constructor;focus (clear hK';intros;simp_all;done)));(try (apply hK';clear hK' K')))|((with_reducible apply zz3);rfl;all_goals (intro h;try exact absurd h (by decide))))
        refine ⟨i + 1,(by show i + 1 ≤ g.length;omega),(by show g.length - (i + 1) < g.length - i;omega),?_⟩
        refine sub_of h0 ?_ ?_ ?_ <;> simp only [US,WA,simprocAttr,htk,allK_snoc,hadd,hrow]
 · have hb1 : ¬ (i : Int) < (g.length : Int):=by omega
   have hie : i = g.length:=by omega
   have hksi : ks.take i = ks:=List.take_of_length_le (by omega)
   have hz : List.replicate (g.length - i) (0 : Int) = []:=by rw [hie,Nat.sub_self];rfl
   rw [hksi,hz,List.append_nil]
   have hml:=mOf_len (allK ks) 0
   have hq : (((allK ks).length : Int) == (many : Int)) = decide ((allK ks).length = many):=by
    rw [Bool.eq_iff_iff,beq_iff_eq,decide_eq_true_iff];omega
   rw [hks] at hmany
   obtain ⟨f,rfl⟩ : ∃ f',f = f' + 1:=⟨f - 1,by omega⟩
   unfold partF at hpt
   rw [hks] at hpt
   by_cases he : (allK ks).length = many
   · rw [if_pos he] at hpt
     rw [hpt]
     have hq : (((allK ks).length : Int) == (many : Int)) = true:=by rw [hq];simpa using he
     repeat' (first|(with_reducible apply zz1)|((with_reducible apply zz2);rfl;intro K' hK';simp only [WA,simprocAttr,hb1,hml,hq];(repeat (constructor;focus (clear hK';intros;simp_all;done)));(try (apply hK';clear hK' K')))|((with_reducible apply zz3);rfl;all_goals (intro h;try exact absurd h (by decide))))
     simp only [Kret,retL,retOne,oneV,WA,simprocAttr]
   · rw [if_neg he] at hpt
     have hq : (((allK ks).length : Int) == (many : Int)) = false:=by rw [hq];simpa using he
     have hgr:=hgrow cl hcl hcr
     rw [hks] at hgr
     have hrg:=nxtK_range ks
     repeat' (first|(with_reducible apply zz1)|((with_reducible apply zz2);rfl;intro K' hK';simp only [WA,simprocAttr,hb1,hml,hq];(repeat (constructor;focus (clear hK';intros;simp_all;done)));(try (apply hK';clear hK' K')))|((with_reducible apply zz3);rfl;all_goals (intro h;try exact absurd h (by decide))))
     refine ⟨(nxtK ks,(allK ks).length),⟨by simp [nxtK,hksn],fun c hc=>?_,hgr,f,(by show g.length + 1 - (allK ks).length ≤ f;omega),hpt⟩,(by show g.length + 1 - (allK ks).length < g.length + 1 - many;omega),by refine sub_of h0 ?_ ?_ ?_ <;> simp only [US,WA,simprocAttr]⟩
     have:=hrg c hc
     omega
end Go.Proofs.YtdcplkefmpjppaaGreatDoor
