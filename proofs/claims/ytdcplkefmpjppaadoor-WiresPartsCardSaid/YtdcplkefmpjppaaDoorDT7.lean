/- types.write; a symbolic walk. -/
-- TYPESA
import Derived.Test.YtdcplkefmpjppaaDoorDU7
import Derived.Test.YtdcplkefmpjppaaDoorShelfX
set_option linter.unusedVariables false
set_option linter.unusedSimpArgs false
namespace Go.Proofs.YtdcplkefmpjppaaDoor.GG
open Go.RowKit Go.Sw

theorem pack_size (l : List UInt8) : (packS l).size = l.length:=by simp [packS,ByteArray.size]
theorem joinTail_len (r : List (List UInt8)) : (Lib.joinTail [44] r).length = (r.map fun x=>x.length + 1).sum:=by
 induction r with
 | nil=>rfl
 | cons x r ih =>
  simp only [Lib.joinTail,List.map_cons,List.flatten_cons,List.length_append,List.sum_cons] at ih ⊢
  rw [ih];simp only [List.length_cons,List.length_nil];omega
theorem join_size (xs : List ByteArray) : (joinB xs).size ≤ (xs.map fun x=>x.size + 1).sum:=by
 unfold joinB
 rw [pack_size]
 cases xs with
 | nil=>simp [Lib.join_nil]
 | cons x r =>
  rw [List.map_cons,Lib.join_cons,List.length_append,joinTail_len,List.map_map,List.map_cons,List.sum_cons]
  have e : ((fun x : List UInt8=>x.length + 1) ∘ fun s : ByteArray=>s.data.toList) = fun s : ByteArray=>s.size + 1:=by funext s;rfl
  rw [e]
  have : x.data.toList.length = x.size:=rfl
  omega
theorem join_fn (Γ : Gl) (xs : List ByteArray) (hn : xs.length ≤ 1000) (hl : (joinB xs).size ≤ 100000) : DFn Tryd.prog Γ 51 [.slc (xs.map sD),sD ⟨#[44]⟩] (sD (joinB xs)):=by
 refine ⟨by kernel_rfl,fun F w us hG hNG hF hargs=>?_⟩
 cases hargs with
 | dsc h1 h2=>cases h2 with
  | dsc h3 h4 =>
   cases h4
   cases h3
   generalize hL : xs.map sD = L at h1
   cases h1 with
   | slc0 a c =>
    have hx : xs = []:=by simpa using hL
    subst hx
    refine (Tryd.strings_Join_none a c ⟨#[44]⟩ w).mono ?_
    rintro e w' ⟨rfl,rfl⟩
    exact ⟨_,rfl,Below.refl _ _,.v _ rfl⟩
   | @slc l k b o c n hn' hc h =>
    subst hL
    cases xs with
    | nil =>
     simp only [List.map_nil,List.length_nil] at hn'
     subst hn'
     refine (Tryd.strings_Join_none _ c ⟨#[44]⟩ w).mono ?_
     rintro e w' ⟨rfl,rfl⟩
     exact ⟨_,rfl,Below.refl _ _,.v _ rfl⟩
    | cons x r =>
     have hk : k = 1:=by
      cases h with
      | esc hk _ _=>exact hk.symm
     subst hk
     have hcell : ∀ (j : Nat) (y : ByteArray),(x :: r)[j]? = some y → w.cell? ⟨b,o + j,none⟩ = some (.string y):=fun j y hj=>by
      obtain ⟨h5, -⟩:=RpD.es_get j (x:=sD y) h (by rw [List.getElem?_map,hj];rfl)
      simp only [D.cells,Nat.mul_one] at h5
      cases h5 with
      | csc hm hc' hx ht=>cases hx;exact hc'
     have hbk : b < w.heap.size:=World.block_lt_of_cell? _ _ (hcell 0 x rfl)
     rw [List.length_map] at hn'
     subst hn'
     refine (Tryd.strings_Join b o c (x :: r) ⟨#[44]⟩ w hcell hbk (by omega) hc (by rw [← pack_size];exact Nat.le_trans hl (by omega))).mono ?_
     rintro e w' ⟨rfl,hb⟩
     exact ⟨_,rfl,hb,.v _ rfl⟩

theorem sortW_at {so : Int} (h1 : 1 ≤ so) (h3 : so ≤ 3) : (sortsL.map sD).getD so.toNat default = sD (sortW so) ∧ (sortW so).size ≤ 4 ∧ 3 ≤ (sortW so).size:=by
 rcases (show so = 1 ∨ so = 2 ∨ so = 3 by omega) with rfl | rfl | rfl <;> exact ⟨rfl,by decide,by decide⟩
theorem zip_sum : ∀ (ls ws : List ByteArray),(∀ s ∈ ls,s.size ≤ 8) → ((List.zipWith itemB ls ws).map fun x=>x.size + 1).sum ≤ 10 * ls.length + (ws.map fun x=>x.size).sum
 | [],ws,h=>by simp
 | s :: ls,[],h=>by simp
 | s :: ls,w :: ws,h=>by
  have ih:=zip_sum ls ws fun s hs=>h s (by simp [hs])
  have h1:=h s (by simp)
  have e : (⟨#[58]⟩ : ByteArray).size = 1:=rfl
  simp only [List.zipWith_cons_cons,List.map_cons,List.sum_cons,itemB,ByteArray.size_append,List.length_cons,e]
  omega
theorem wrs_sum : ∀ (l : List Tp),(∀ x ∈ l,(wrT x).size ≤ 70 * x.size) → ((wrTs l).map fun x=>x.size).sum ≤ 70 * Tp.sizes l
 | [],h=>by simp [wrTs]
 | x :: l,h=>by
  have ih:=wrs_sum l fun x hx=>h x (by simp [hx])
  have h1:=h x (by simp)
  simp only [wrTs,List.map_cons,List.sum_cons,Tp.sizes]
  omega
theorem wr_pass {k so : Int} {x : Tp} (hk : k = 2 ∨ k = 3) : wrT (.mk k so noB [] [x]) = (if k = 2 then ⟨#[33]⟩ else ⟨#[63]⟩) ++ sortW so ++ ⟨#[46]⟩ ++ wrT x:=by
 rcases hk with rfl | rfl <;> simp [wrT,wrTs,wrK,wr0]
theorem wr_give {k : Int} {x y : Tp} (hk : k = 4 ∨ k = 5) : wrT (.mk k 0 noB [] [x,y]) = (if k = 4 then ⟨#[33,123]⟩ else ⟨#[63,123]⟩) ++ wrT x ++ ⟨#[125,46]⟩ ++ wrT y:=by
 rcases hk with rfl | rfl <;> simp [wrT,wrTs,wrK,wr0]
theorem wr_pick {k : Int} {ls : List ByteArray} {l : List Tp} (hk : k = 6 ∨ k = 7) : wrT (.mk k 0 noB ls l) = (if k = 6 then ⟨#[43,123]⟩ else ⟨#[38,123]⟩) ++ joinB (List.zipWith itemB ls (wrTs l)) ++ ⟨#[125]⟩:=by
 rcases hk with rfl | rfl <;> simp [wrT,wrK]
theorem wr_bind {nm : ByteArray} {x : Tp} : wrT (.mk 8 0 nm [] [x]) = ⟨#[114,101,99,32]⟩ ++ nm ++ ⟨#[46]⟩ ++ wrT x:=by
 simp [wrT,wrTs,wrK,wr0]
theorem wr_var {nm : ByteArray} : wrT (.mk 9 0 nm [] []) = nm:=by
 simp [wrT,wrTs,wrK]
theorem wr_end : wrT (.mk 1 0 noB [] []) = ⟨#[101,110,100]⟩:=by
 simp [wrT,wrTs,wrK]
theorem wrT_len {x : Tp} (h : OkT x) : (wrT x).size ≤ 70 * x.size:=by
 have e46 : (⟨#[46]⟩ : ByteArray).size = 1:=rfl
 have e125 : (⟨#[125]⟩ : ByteArray).size = 1:=rfl
 have e2 : (⟨#[125,46]⟩ : ByteArray).size = 2:=rfl
 have e4 : (⟨#[114,101,99,32]⟩ : ByteArray).size = 4:=rfl
 induction h with
 | nil=>rw [wr_end];simp [Tp.size,Tp.sizes,ByteArray.size]
 | pass k so x hk h1 h3 hx ih =>
  have:=(sortW_at h1 h3).2.1
  have q : (if k = 2 then (⟨#[33]⟩ : ByteArray) else ⟨#[63]⟩).size = 1:=by split <;> rfl
  rw [wr_pass hk]
  simp only [ByteArray.size_append,q,Tp.size,Tp.sizes,e46]
  omega
 | give k x y hk hx hy ihx ihy =>
  have q : (if k = 4 then (⟨#[33,123]⟩ : ByteArray) else ⟨#[63,123]⟩).size = 2:=by split <;> rfl
  rw [wr_give hk]
  simp only [ByteArray.size_append,q,Tp.size,Tp.sizes,e2]
  omega
 | pick k ls l hk hl hn h ih =>
  rw [wr_pick hk]
  have h1:=join_size (List.zipWith itemB ls (wrTs l))
  have h2:=zip_sum ls (wrTs l) fun s hs=>(name_size (labels_names hl s hs)).1
  have h3:=wrs_sum l ih
  have h4:=labels_len hl
  have q : (if k = 6 then (⟨#[43,123]⟩ : ByteArray) else ⟨#[38,123]⟩).size = 2:=by split <;> rfl
  simp only [ByteArray.size_append,q,Tp.size,e125]
  omega
 | bind nm x hn hx ih =>
  have:=(name_size (var_name hn)).1
  rw [wr_bind]
  simp only [ByteArray.size_append,Tp.size,Tp.sizes,e46,e4]
  omega
 | var nm hn =>
  have:=(name_size (var_name hn)).1
  rw [wr_var]
  simp only [Tp.size,Tp.sizes]
  omega
set_option maxHeartbeats 8000000 in
set_option maxRecDepth 100000 in
theorem write_end (Γ : Gl) : DFn Tryd.prog Γ 72 [(Tp.mk 1 0 noB [] []).d] (sD ⟨#[101,110,100]⟩):=by
 simp only [Tp.d,Tp.ds,List.map_nil]
 refine fn_of_swp (N:=116) Tryd.func72 rfl (by decide) rfl rfl (by simp) (fun C h0=>?_)
 simp only [argE]
 repeat' (first|(with_reducible apply zz1)|((with_reducible apply zz2);rfl;intro K' hK';simp only [WA,simprocAttr,Int.reduceBEq];(repeat (constructor;focus (clear hK';intros;simp_all;done)));(try (apply hK';clear hK' K')))|((with_reducible apply zz3);rfl;all_goals (intro h;try exact absurd h (by decide))))
 simp only [Kret,retL,retOne,oneV,WA,simprocAttr]
set_option maxHeartbeats 8000000 in
set_option maxRecDepth 100000 in
theorem write_var (Γ : Gl) (nm : ByteArray) : DFn Tryd.prog Γ 72 [(Tp.mk 9 0 nm [] []).d] (sD nm):=by
 simp only [Tp.d,Tp.ds,List.map_nil]
 refine fn_of_swp (N:=116) Tryd.func72 rfl (by decide) rfl rfl (by simp) (fun C h0=>?_)
 simp only [argE]
 repeat' (first|(with_reducible apply zz1)|((with_reducible apply zz2);rfl;intro K' hK';simp only [WA,simprocAttr,Int.reduceBEq];(repeat (constructor;focus (clear hK';intros;simp_all;done)));(try (apply hK';clear hK' K')))|((with_reducible apply zz3);rfl;all_goals (intro h;try exact absurd h (by decide))))
 simp only [Kret,retL,retOne,oneV,WA,simprocAttr]
set_option maxHeartbeats 8000000 in
set_option maxRecDepth 100000 in
theorem write_pass2 (Γ : Gl) (hG : GD Tryd.prog Γ 1 22 (.slc (sortsL.map sD))) (so : Int) (h1 : 1 ≤ so) (h3 : so ≤ 3) (x : Tp) (T : ByteArray) (hT : T.size ≤ 20000) (hx : DFn Tryd.prog Γ 72 [x.d] (sD T)) : DFn Tryd.prog Γ 72 [(Tp.mk 2 so noB [] [x]).d] (sD (⟨#[33]⟩ ++ sortW so ++ ⟨#[46]⟩ ++ T)):=by
 obtain ⟨hgs,hW, -⟩:=sortW_at h1 h3
 generalize sortW so = W at hgs hW ⊢
 have h0' : (0 : Int) ≤ so:=by omega
 have h4 : so < ((sortsL.map sD).length : Int):=by show so < 4;omega
 have b1 : (⟨#[33]⟩ : ByteArray).size = 1:=rfl
 have b2 : (⟨#[46]⟩ : ByteArray).size = 1:=rfl
 have z1 : (⟨#[33]⟩ ++ W : ByteArray).size = 1 + W.size:=by rw [ByteArray.size_append,b1]
 have z2 : (⟨#[33]⟩ ++ W ++ ⟨#[46]⟩ : ByteArray).size = 1 + W.size + 1:=by rw [ByteArray.size_append,z1,b2]
 have m1 : 1 + W.size ≤ maxLen:=by unfold maxLen;omega
 have m2 : 1 + W.size + 1 ≤ maxLen:=by unfold maxLen;omega
 have m3 : 1 + W.size + 1 + T.size ≤ maxLen:=by unfold maxLen;omega
 obtain ⟨xk,xso,xnm,xls,xl⟩:=x
 simp only [Tp.d,Tp.ds,List.map_nil] at hx ⊢
 refine fn_of_swp (N:=116) Tryd.func72 rfl (by decide) rfl rfl (by simp) (fun C h0=>?_)
 simp only [argE]
 repeat' (first|(with_reducible apply zz1)|((with_reducible apply zz2);rfl;intro K' hK';simp only [WA,simprocAttr,Int.reduceBEq];(repeat (constructor;focus (clear hK';intros;simp_all;done)));(try (apply hK';clear hK' K')))|((with_reducible apply zz3);rfl;all_goals (intro h;try exact absurd h (by decide))))
 -- TRACE
 (with_reducible refine swp_draw ?_ ?_ ?_ ( [(0,.slc (sortsL.map sD)),(11,sD T)]) (fun K' hK'=>?_)
  · kernel_rfl
  · rfl
  · rfl
  simp only [WA,simprocAttr,UG,hG,hx,hgs,h0',h4,List.getD_cons_zero,List.length_cons,List.length_nil,b1,b2,z1,z2,m1,m2,m3 ]
  (try (apply hK';clear hK' K')))
 repeat' (first|(with_reducible apply zz1)|((with_reducible apply zz2);rfl;intro K' hK';simp only [WA,simprocAttr];(repeat (constructor;focus (clear hK';intros;simp_all;done)));(try (apply hK';clear hK' K')))|((with_reducible apply zz3);rfl;all_goals (intro h;try exact absurd h (by decide))))
 simp only [Kret,retL,retOne,oneV,WA,simprocAttr]
set_option maxHeartbeats 8000000 in
set_option maxRecDepth 100000 in
theorem write_pass3 (Γ : Gl) (hG : GD Tryd.prog Γ 1 22 (.slc (sortsL.map sD))) (so : Int) (h1 : 1 ≤ so) (h3 : so ≤ 3) (x : Tp) (T : ByteArray) (hT : T.size ≤ 20000) (hx : DFn Tryd.prog Γ 72 [x.d] (sD T)) : DFn Tryd.prog Γ 72 [(Tp.mk 3 so noB [] [x]).d] (sD (⟨#[63]⟩ ++ sortW so ++ ⟨#[46]⟩ ++ T)):=by
 obtain ⟨hgs,hW, -⟩:=sortW_at h1 h3
 generalize sortW so = W at hgs hW ⊢
 have h0' : (0 : Int) ≤ so:=by omega
 have h4 : so < ((sortsL.map sD).length : Int):=by show so < 4;omega
 have b1 : (⟨#[63]⟩ : ByteArray).size = 1:=rfl
 have b2 : (⟨#[46]⟩ : ByteArray).size = 1:=rfl
 have z1 : (⟨#[63]⟩ ++ W : ByteArray).size = 1 + W.size:=by rw [ByteArray.size_append,b1]
 have z2 : (⟨#[63]⟩ ++ W ++ ⟨#[46]⟩ : ByteArray).size = 1 + W.size + 1:=by rw [ByteArray.size_append,z1,b2]
 have m1 : 1 + W.size ≤ maxLen:=by unfold maxLen;omega
 have m2 : 1 + W.size + 1 ≤ maxLen:=by unfold maxLen;omega
 have m3 : 1 + W.size + 1 + T.size ≤ maxLen:=by unfold maxLen;omega
 obtain ⟨xk,xso,xnm,xls,xl⟩:=x
 simp only [Tp.d,Tp.ds,List.map_nil] at hx ⊢
 refine fn_of_swp (N:=116) Tryd.func72 rfl (by decide) rfl rfl (by simp) (fun C h0=>?_)
 simp only [argE]
 repeat' (first|(with_reducible apply zz1)|((with_reducible apply zz2);rfl;intro K' hK';simp only [WA,simprocAttr,Int.reduceBEq];(repeat (constructor;focus (clear hK';intros;simp_all;done)));(try (apply hK';clear hK' K')))|((with_reducible apply zz3);rfl;all_goals (intro h;try exact absurd h (by decide))))
 -- TRACE
 (with_reducible refine swp_draw ?_ ?_ ?_ ( [(0,.slc (sortsL.map sD)),(11,sD T)]) (fun K' hK'=>?_)
  · kernel_rfl
  · rfl
  · rfl
  simp only [WA,simprocAttr,UG,hG,hx,hgs,h0',h4,List.getD_cons_zero,List.length_cons,List.length_nil,b1,b2,z1,z2,m1,m2,m3 ]
  (try (apply hK';clear hK' K')))
 repeat' (first|(with_reducible apply zz1)|((with_reducible apply zz2);rfl;intro K' hK';simp only [WA,simprocAttr];(repeat (constructor;focus (clear hK';intros;simp_all;done)));(try (apply hK';clear hK' K')))|((with_reducible apply zz3);rfl;all_goals (intro h;try exact absurd h (by decide))))
 simp only [Kret,retL,retOne,oneV,WA,simprocAttr]
set_option maxHeartbeats 8000000 in
set_option maxRecDepth 100000 in
theorem write_give4 (Γ : Gl) (x y : Tp) (T U : ByteArray) (hT : T.size ≤ 20000) (hU : U.size ≤ 20000) (hx : DFn Tryd.prog Γ 72 [x.d] (sD T)) (hy : DFn Tryd.prog Γ 72 [y.d] (sD U)) : DFn Tryd.prog Γ 72 [(Tp.mk 4 0 noB [] [x,y]).d] (sD (⟨#[33,123]⟩ ++ T ++ ⟨#[125,46]⟩ ++ U)):=by
 have b1 : (⟨#[33,123]⟩ : ByteArray).size = 2:=rfl
 have b2 : (⟨#[125,46]⟩ : ByteArray).size = 2:=rfl
 have z1 : (⟨#[33,123]⟩ ++ T : ByteArray).size = 2 + T.size:=by rw [ByteArray.size_append,b1]
 have z2 : (⟨#[33,123]⟩ ++ T ++ ⟨#[125,46]⟩ : ByteArray).size = 2 + T.size + 2:=by rw [ByteArray.size_append,z1,b2]
 have m1 : 2 + T.size ≤ maxLen:=by unfold maxLen;omega
 have m2 : 2 + T.size + 2 ≤ maxLen:=by unfold maxLen;omega
 have m3 : 2 + T.size + 2 + U.size ≤ maxLen:=by unfold maxLen;omega
 obtain ⟨xk,xso,xnm,xls,xl⟩:=x
 obtain ⟨yk,yso,ynm,yls,yl⟩:=y
 simp only [Tp.d,Tp.ds,List.map_nil] at hx hy ⊢
 refine fn_of_swp (N:=116) Tryd.func72 rfl (by decide) rfl rfl (by simp) (fun C h0=>?_)
 simp only [argE]
 repeat' (first|(with_reducible apply zz1)|((with_reducible apply zz2);rfl;intro K' hK';simp only [WA,simprocAttr,Int.reduceBEq];(repeat (constructor;focus (clear hK';intros;simp_all;done)));(try (apply hK';clear hK' K')))|((with_reducible apply zz3);rfl;all_goals (intro h;try exact absurd h (by decide))))
 (with_reducible refine swp_draw ?_ ?_ ?_ ( [(4,sD T),(11,sD U)]) (fun K' hK'=>?_)
  · kernel_rfl
  · rfl
  · rfl
  simp only [WA,simprocAttr,UG,hx,hy,List.getD_cons_zero,List.getD_cons_succ,List.length_cons,List.length_nil,List.map_cons,List.map_nil,b1,b2,z1,z2,m1,m2,m3 ]
  (try (apply hK';clear hK' K')))
 repeat' (first|(with_reducible apply zz1)|((with_reducible apply zz2);rfl;intro K' hK';simp only [WA,simprocAttr];(repeat (constructor;focus (clear hK';intros;simp_all;done)));(try (apply hK';clear hK' K')))|((with_reducible apply zz3);rfl;all_goals (intro h;try exact absurd h (by decide))))
 simp only [Kret,retL,retOne,oneV,WA,simprocAttr]
set_option maxHeartbeats 8000000 in
set_option maxRecDepth 100000 in
theorem write_give5 (Γ : Gl) (x y : Tp) (T U : ByteArray) (hT : T.size ≤ 20000) (hU : U.size ≤ 20000) (hx : DFn Tryd.prog Γ 72 [x.d] (sD T)) (hy : DFn Tryd.prog Γ 72 [y.d] (sD U)) : DFn Tryd.prog Γ 72 [(Tp.mk 5 0 noB [] [x,y]).d] (sD (⟨#[63,123]⟩ ++ T ++ ⟨#[125,46]⟩ ++ U)):=by
 have b1 : (⟨#[63,123]⟩ : ByteArray).size = 2:=rfl
 have b2 : (⟨#[125,46]⟩ : ByteArray).size = 2:=rfl
 have z1 : (⟨#[63,123]⟩ ++ T : ByteArray).size = 2 + T.size:=by rw [ByteArray.size_append,b1]
 have z2 : (⟨#[63,123]⟩ ++ T ++ ⟨#[125,46]⟩ : ByteArray).size = 2 + T.size + 2:=by rw [ByteArray.size_append,z1,b2]
 have m1 : 2 + T.size ≤ maxLen:=by unfold maxLen;omega
 have m2 : 2 + T.size + 2 ≤ maxLen:=by unfold maxLen;omega
 have m3 : 2 + T.size + 2 + U.size ≤ maxLen:=by unfold maxLen;omega
 obtain ⟨xk,xso,xnm,xls,xl⟩:=x
 obtain ⟨yk,yso,ynm,yls,yl⟩:=y
 simp only [Tp.d,Tp.ds,List.map_nil] at hx hy ⊢
 refine fn_of_swp (N:=116) Tryd.func72 rfl (by decide) rfl rfl (by simp) (fun C h0=>?_)
 simp only [argE]
 repeat' (first|(with_reducible apply zz1)|((with_reducible apply zz2);rfl;intro K' hK';simp only [WA,simprocAttr,Int.reduceBEq];(repeat (constructor;focus (clear hK';intros;simp_all;done)));(try (apply hK';clear hK' K')))|((with_reducible apply zz3);rfl;all_goals (intro h;try exact absurd h (by decide))))
 (with_reducible refine swp_draw ?_ ?_ ?_ ( [(4,sD T),(11,sD U)]) (fun K' hK'=>?_)
  · kernel_rfl
  · rfl
  · rfl
  simp only [WA,simprocAttr,UG,hx,hy,List.getD_cons_zero,List.getD_cons_succ,List.length_cons,List.length_nil,List.map_cons,List.map_nil,b1,b2,z1,z2,m1,m2,m3 ]
  (try (apply hK';clear hK' K')))
 repeat' (first|(with_reducible apply zz1)|((with_reducible apply zz2);rfl;intro K' hK';simp only [WA,simprocAttr];(repeat (constructor;focus (clear hK';intros;simp_all;done)));(try (apply hK';clear hK' K')))|((with_reducible apply zz3);rfl;all_goals (intro h;try exact absurd h (by decide))))
 simp only [Kret,retL,retOne,oneV,WA,simprocAttr]
set_option maxHeartbeats 8000000 in
set_option maxRecDepth 100000 in
theorem write_bind (Γ : Gl) (nm : ByteArray) (hn : nm.size ≤ 8) (x : Tp) (T : ByteArray) (hT : T.size ≤ 20000) (hx : DFn Tryd.prog Γ 72 [x.d] (sD T)) : DFn Tryd.prog Γ 72 [(Tp.mk 8 0 nm [] [x]).d] (sD (⟨#[114,101,99,32]⟩ ++ nm ++ ⟨#[46]⟩ ++ T)):=by
 have b1 : (⟨#[114,101,99,32]⟩ : ByteArray).size = 4:=rfl
 have b2 : (⟨#[46]⟩ : ByteArray).size = 1:=rfl
 have z1 : (⟨#[114,101,99,32]⟩ ++ nm : ByteArray).size = 4 + nm.size:=by rw [ByteArray.size_append,b1]
 have z2 : (⟨#[114,101,99,32]⟩ ++ nm ++ ⟨#[46]⟩ : ByteArray).size = 4 + nm.size + 1:=by rw [ByteArray.size_append,z1,b2]
 have m1 : 4 + nm.size ≤ maxLen:=by unfold maxLen;omega
 have m2 : 4 + nm.size + 1 ≤ maxLen:=by unfold maxLen;omega
 have m3 : 4 + nm.size + 1 + T.size ≤ maxLen:=by unfold maxLen;omega
 obtain ⟨xk,xso,xnm,xls,xl⟩:=x
 simp only [Tp.d,Tp.ds,List.map_nil] at hx ⊢
 refine fn_of_swp (N:=116) Tryd.func72 rfl (by decide) rfl rfl (by simp) (fun C h0=>?_)
 simp only [argE]
 repeat' (first|(with_reducible apply zz1)|((with_reducible apply zz2);rfl;intro K' hK';simp only [WA,simprocAttr,Int.reduceBEq];(repeat (constructor;focus (clear hK';intros;simp_all;done)));(try (apply hK';clear hK' K')))|((with_reducible apply zz3);rfl;all_goals (intro h;try exact absurd h (by decide))))
 (with_reducible refine swp_draw ?_ ?_ ?_ ( [(8,sD T)]) (fun K' hK'=>?_)
  · kernel_rfl
  · rfl
  · rfl
  simp only [WA,simprocAttr,UG,hx,List.getD_cons_zero,List.length_cons,List.length_nil,List.map_cons,List.map_nil,b1,b2,z1,z2,m1,m2,m3 ]
  (try (apply hK';clear hK' K')))
 repeat' (first|(with_reducible apply zz1)|((with_reducible apply zz2);rfl;intro K' hK';simp only [WA,simprocAttr];(repeat (constructor;focus (clear hK';intros;simp_all;done)));(try (apply hK';clear hK' K')))|((with_reducible apply zz3);rfl;all_goals (intro h;try exact absurd h (by decide))))
 simp only [Kret,retL,retOne,oneV,WA,simprocAttr]
theorem zip_take (ls ws : List ByteArray) (j : Nat) (s w : ByteArray) (h1 : ls[j]? = some s) (h2 : ws[j]? = some w) : (List.zipWith itemB ls ws).take (j + 1) = (List.zipWith itemB ls ws).take j ++ [itemB s w]:=by
 rw [List.take_add_one,List.getElem?_zipWith,h1,h2]
 rfl
set_option maxHeartbeats 8000000 in
set_option maxRecDepth 100000 in
theorem write_pick6 (Γ : Gl) (ls : List ByteArray) (l : List Tp) (hl6 : ls.length ≤ 6) (hn : l.length = ls.length) (hls : ∀ s ∈ ls,s.size ≤ 8) (hws : ∀ w ∈ wrTs l,w.size ≤ 20000) (hx : ∀ x ∈ l,DFn Tryd.prog Γ 72 [x.d] (sD (wrT x))) (hJ : (joinB (List.zipWith itemB ls (wrTs l))).size ≤ 100000) : DFn Tryd.prog Γ 72 [(Tp.mk 6 0 noB ls l).d] (sD (⟨#[43,123]⟩ ++ joinB (List.zipWith itemB ls (wrTs l)) ++ ⟨#[125]⟩)):=by
 have hll:=Tp.ds_len l
 have hzl : (List.zipWith itemB ls (wrTs l)).length = l.length:=by rw [List.length_zipWith,wrTs_map,List.length_map];omega
 have hjn:=join_fn Γ (List.zipWith itemB ls (wrTs l)) (by rw [hzl];omega) hJ
 simp only [Tp.d]
 refine fn_of_swp (N:=116) Tryd.func72 rfl (by decide) rfl rfl (by simp) (fun C h0=>?_)
 simp only [argE]
 repeat' (first|(with_reducible apply zz1)|((with_reducible apply zz2);rfl;intro K' hK';simp only [WA,simprocAttr,Int.reduceBEq,hll];(repeat (constructor;focus (clear hK';intros;simp_all;done)));(try (apply hK';clear hK' K')))|((with_reducible apply zz3);rfl;all_goals (intro h;try exact absurd h (by decide))))
 refine swp_nil 3 1 1 rfl rfl (by decide) ?_
 simp only [WA,simprocAttr]
 refine swp_loop (α := Nat) (fun j=>[(1,.ref 0 0),(3,.own 1),(88,.d (.slc (Tp.ds l))),(89,.d (iD l.length)),(90,.d (iD j))]) (fun j=>[(0,.cells [.d (iD 6),.d (iD 0),.d (sD noB),.d (.slc (ls.map sD)),.d (.slc (Tp.ds l))]),(1,.row 1 (((List.zipWith itemB ls (wrTs l)).take j).map sD))])
  (fun j=>j ≤ l.length) (fun j=>l.length - j) 0 (Nat.zero_le _) (by refine sub_of h0 ?_ ?_ ?_ <;> simp only [US,WA,simprocAttr,hll]) (fun j hj=>?_)
 have hj : j ≤ l.length:=hj
 have hb0 : (0 : Int) ≤ (j : Int):=by omega
 by_cases hlt : j < l.length
 · obtain ⟨x,hxj⟩ : ∃ x,l[j]? = some x:=⟨l[j],by simp [hlt]⟩
   obtain ⟨s,hsj⟩ : ∃ s,ls[j]? = some s:=⟨ls[j]'(by omega),by simp⟩
   have hwj : (wrTs l)[j]? = some (wrT x):=by rw [wrTs_map,List.getElem?_map,hxj];rfl
   have hstep:=zip_take ls (wrTs l) j s (wrT x) hsj hwj
   have hcall:=hx x (List.mem_of_getElem? hxj)
   have hget:=Tp.ds_get l j x hxj
   have hgs : (ls.map sD).getD j default = sD s:=by simp [List.getD,hsj]
   have hs8:=hls s (List.mem_of_getElem? hsj)
   have hb1 : (j : Int) < (l.length : Int):=by omega
   have hb2 : (j : Int) < (ls.length : Int):=by omega
   have hw3 : IntKind.i64.wrap ((j : Int) + 1) = ((j + 1 : Nat) : Int):=by rw [wrap_in (by omega) (by omega)];omega
   have hwx : (wrT x).size ≤ 20000:=hws _ (List.mem_of_getElem? hwj)
   have htl : ((List.zipWith itemB ls (wrTs l)).take j).length = j:=by rw [List.length_take,hzl];omega
   generalize (List.zipWith itemB ls (wrTs l)) = Z at *
   unfold itemB at hstep
   generalize wrT x = W at hcall hwx hstep hwj
   have b1 : (⟨#[58]⟩ : ByteArray).size = 1:=rfl
   have z1 : (s ++ ⟨#[58]⟩ : ByteArray).size = s.size + 1:=by rw [ByteArray.size_append,b1]
   have m1 : s.size + 1 ≤ maxLen:=by unfold maxLen;omega
   have m2 : s.size + 1 + W.size ≤ maxLen:=by unfold maxLen;omega
   have m3 : (j + 1) * 16 ≤ 140737488355328:=by omega
   have m4 : j + 1 ≤ maxLen:=by unfold maxLen;omega
   obtain ⟨xk,xso,xnm,xls,xl⟩:=x
   simp only [Tp.d] at hget hcall
   repeat' (first|(with_reducible apply zz1)|((with_reducible apply zz2);rfl;intro K' hK';simp only [WA,simprocAttr,Int.toNat_natCast,hget,hll,hb0,hb1];(repeat (constructor;focus (clear hK';intros;simp_all;done)));(try (apply hK';clear hK' K')))|((with_reducible apply zz3);rfl;all_goals (intro h;try exact absurd h (by decide))))
   -- TRACE
   (with_reducible refine swp_drawW ?_ ?_ ?_ ( ⟨[(8,sD W)],[]⟩) _ rfl (fun K' hK'=>?_)
    · kernel_rfl
    · rfl
    · rfl
    simp only [WA,simprocAttr,vcW,stepW,callR,effO,srcE,Eff.env,Eff.st,writeOp,callA,pureOp,Bool.or_true,Bool.true_or,Bool.or_self,Bool.or_false,Bool.false_or,D.flat,D.flats,true_or,or_true,forall_const,Int.toNat_natCast,hcall,hgs,hb0,hb1,hb2,List.length_map,htl,b1,z1,m1,m2,m3,m4 ]
    (repeat (constructor;focus (first | (with_reducible assumption) | (clear hK';intros;simp_all;done))))
    (refine And.intro (by kernel_rfl) ?_)
    (try (apply hK';clear hK' K')))
   repeat' (first|(with_reducible apply zz1)|((with_reducible apply zz2);rfl;intro K' hK';simp only [WA,simprocAttr,hw3];(repeat (constructor;focus (clear hK';intros;simp_all;done)));(try (apply hK';clear hK' K')))|((with_reducible apply zz3);rfl;all_goals (intro h;try exact absurd h (by decide))))
   refine ⟨j + 1,(by show j + 1 ≤ l.length;omega),(by show l.length - (j + 1) < l.length - j;omega),by refine sub_of h0 ?_ ?_ ?_ <;> simp only [US,WA,simprocAttr,hstep,List.map_append]⟩
 · have hb1 : ¬ (j : Int) < (l.length : Int):=by omega
   have htk : (List.zipWith itemB ls (wrTs l)).take j = List.zipWith itemB ls (wrTs l):=List.take_of_length_le (by rw [hzl];omega)
   rw [htk]
   have b1 : (⟨#[43,123]⟩ : ByteArray).size = 2:=rfl
   have b2 : (⟨#[125]⟩ : ByteArray).size = 1:=rfl
   generalize joinB (List.zipWith itemB ls (wrTs l)) = J at hjn hJ ⊢
   generalize (List.zipWith itemB ls (wrTs l)) = Z at *
   have z1 : (⟨#[43,123]⟩ ++ J : ByteArray).size = 2 + J.size:=by rw [ByteArray.size_append,b1]
   have m1 : 2 + J.size ≤ maxLen:=by unfold maxLen;omega
   have m2 : 2 + J.size + 1 ≤ maxLen:=by unfold maxLen;omega
   repeat' (first|(with_reducible apply zz1)|((with_reducible apply zz2);rfl;intro K' hK';simp only [WA,simprocAttr,hb1,Int.reduceBEq];(repeat (constructor;focus (clear hK';intros;simp_all;done)));(try (apply hK';clear hK' K')))|((with_reducible apply zz3);rfl;all_goals (intro h;try exact absurd h (by decide))))
   refine stop_callF rfl (by simp only [WA,simprocAttr]) rfl rfl (hjn) ?_
   simp only [WA,simprocAttr,inX,dropS,b1,b2,z1,m1,m2,forall_const]
   (repeat (constructor;focus (clear hK';intros;simp_all;done)))
   (try (apply hK';clear hK' K'))
   repeat' (first|(with_reducible apply zz1)|((with_reducible apply zz2);rfl;intro K' hK';simp only [WA,simprocAttr];(repeat (constructor;focus (clear hK';intros;simp_all;done)));(try (apply hK';clear hK' K')))|((with_reducible apply zz3);rfl;all_goals (intro h;try exact absurd h (by decide))))
   simp only [Kret,retL,retOne,oneV,WA,simprocAttr]
set_option maxHeartbeats 8000000 in
set_option maxRecDepth 100000 in
theorem write_pick7 (Γ : Gl) (ls : List ByteArray) (l : List Tp) (hl6 : ls.length ≤ 6) (hn : l.length = ls.length) (hls : ∀ s ∈ ls,s.size ≤ 8) (hws : ∀ w ∈ wrTs l,w.size ≤ 20000) (hx : ∀ x ∈ l,DFn Tryd.prog Γ 72 [x.d] (sD (wrT x))) (hJ : (joinB (List.zipWith itemB ls (wrTs l))).size ≤ 100000) : DFn Tryd.prog Γ 72 [(Tp.mk 7 0 noB ls l).d] (sD (⟨#[38,123]⟩ ++ joinB (List.zipWith itemB ls (wrTs l)) ++ ⟨#[125]⟩)):=by
 have hll:=Tp.ds_len l
 have hzl : (List.zipWith itemB ls (wrTs l)).length = l.length:=by rw [List.length_zipWith,wrTs_map,List.length_map];omega
 have hjn:=join_fn Γ (List.zipWith itemB ls (wrTs l)) (by rw [hzl];omega) hJ
 simp only [Tp.d]
 refine fn_of_swp (N:=116) Tryd.func72 rfl (by decide) rfl rfl (by simp) (fun C h0=>?_)
 simp only [argE]
 repeat' (first|(with_reducible apply zz1)|((with_reducible apply zz2);rfl;intro K' hK';simp only [WA,simprocAttr,Int.reduceBEq,hll];(repeat (constructor;focus (clear hK';intros;simp_all;done)));(try (apply hK';clear hK' K')))|((with_reducible apply zz3);rfl;all_goals (intro h;try exact absurd h (by decide))))
 refine swp_nil 3 1 1 rfl rfl (by decide) ?_
 simp only [WA,simprocAttr]
 refine swp_loop (α := Nat) (fun j=>[(1,.ref 0 0),(3,.own 1),(88,.d (.slc (Tp.ds l))),(89,.d (iD l.length)),(90,.d (iD j))]) (fun j=>[(0,.cells [.d (iD 7),.d (iD 0),.d (sD noB),.d (.slc (ls.map sD)),.d (.slc (Tp.ds l))]),(1,.row 1 (((List.zipWith itemB ls (wrTs l)).take j).map sD))])
  (fun j=>j ≤ l.length) (fun j=>l.length - j) 0 (Nat.zero_le _) (by refine sub_of h0 ?_ ?_ ?_ <;> simp only [US,WA,simprocAttr,hll]) (fun j hj=>?_)
 have hj : j ≤ l.length:=hj
 have hb0 : (0 : Int) ≤ (j : Int):=by omega
 by_cases hlt : j < l.length
 · obtain ⟨x,hxj⟩ : ∃ x,l[j]? = some x:=⟨l[j],by simp [hlt]⟩
   obtain ⟨s,hsj⟩ : ∃ s,ls[j]? = some s:=⟨ls[j]'(by omega),by simp⟩
   have hwj : (wrTs l)[j]? = some (wrT x):=by rw [wrTs_map,List.getElem?_map,hxj];rfl
   have hstep:=zip_take ls (wrTs l) j s (wrT x) hsj hwj
   have hcall:=hx x (List.mem_of_getElem? hxj)
   have hget:=Tp.ds_get l j x hxj
   have hgs : (ls.map sD).getD j default = sD s:=by simp [List.getD,hsj]
   have hs8:=hls s (List.mem_of_getElem? hsj)
   have hb1 : (j : Int) < (l.length : Int):=by omega
   have hb2 : (j : Int) < (ls.length : Int):=by omega
   have hw3 : IntKind.i64.wrap ((j : Int) + 1) = ((j + 1 : Nat) : Int):=by rw [wrap_in (by omega) (by omega)];omega
   have hwx : (wrT x).size ≤ 20000:=hws _ (List.mem_of_getElem? hwj)
   have htl : ((List.zipWith itemB ls (wrTs l)).take j).length = j:=by rw [List.length_take,hzl];omega
   generalize (List.zipWith itemB ls (wrTs l)) = Z at *
   unfold itemB at hstep
   generalize wrT x = W at hcall hwx hstep hwj
   have b1 : (⟨#[58]⟩ : ByteArray).size = 1:=rfl
   have z1 : (s ++ ⟨#[58]⟩ : ByteArray).size = s.size + 1:=by rw [ByteArray.size_append,b1]
   have m1 : s.size + 1 ≤ maxLen:=by unfold maxLen;omega
   have m2 : s.size + 1 + W.size ≤ maxLen:=by unfold maxLen;omega
   have m3 : (j + 1) * 16 ≤ 140737488355328:=by omega
   have m4 : j + 1 ≤ maxLen:=by unfold maxLen;omega
   obtain ⟨xk,xso,xnm,xls,xl⟩:=x
   simp only [Tp.d] at hget hcall
   repeat' (first|(with_reducible apply zz1)|((with_reducible apply zz2);rfl;intro K' hK';simp only [WA,simprocAttr,Int.toNat_natCast,hget,hll,hb0,hb1];(repeat (constructor;focus (clear hK';intros;simp_all;done)));(try (apply hK';clear hK' K')))|((with_reducible apply zz3);rfl;all_goals (intro h;try exact absurd h (by decide))))
   -- TRACE
   (with_reducible refine swp_drawW ?_ ?_ ?_ ( ⟨[(8,sD W)],[]⟩) _ rfl (fun K' hK'=>?_)
    · kernel_rfl
    · rfl
    · rfl
    simp only [WA,simprocAttr,vcW,stepW,callR,effO,srcE,Eff.env,Eff.st,writeOp,callA,pureOp,Bool.or_true,Bool.true_or,Bool.or_self,Bool.or_false,Bool.false_or,D.flat,D.flats,true_or,or_true,forall_const,Int.toNat_natCast,hcall,hgs,hb0,hb1,hb2,List.length_map,htl,b1,z1,m1,m2,m3,m4 ]
    (repeat (constructor;focus (first | (with_reducible assumption) | (clear hK';intros;simp_all;done))))
    (refine And.intro (by kernel_rfl) ?_)
    (try (apply hK';clear hK' K')))
   repeat' (first|(with_reducible apply zz1)|((with_reducible apply zz2);rfl;intro K' hK';simp only [WA,simprocAttr,hw3];(repeat (constructor;focus (clear hK';intros;simp_all;done)));(try (apply hK';clear hK' K')))|((with_reducible apply zz3);rfl;all_goals (intro h;try exact absurd h (by decide))))
   refine ⟨j + 1,(by show j + 1 ≤ l.length;omega),(by show l.length - (j + 1) < l.length - j;omega),by refine sub_of h0 ?_ ?_ ?_ <;> simp only [US,WA,simprocAttr,hstep,List.map_append]⟩
 · have hb1 : ¬ (j : Int) < (l.length : Int):=by omega
   have htk : (List.zipWith itemB ls (wrTs l)).take j = List.zipWith itemB ls (wrTs l):=List.take_of_length_le (by rw [hzl];omega)
   rw [htk]
   have b1 : (⟨#[38,123]⟩ : ByteArray).size = 2:=rfl
   have b2 : (⟨#[125]⟩ : ByteArray).size = 1:=rfl
   generalize joinB (List.zipWith itemB ls (wrTs l)) = J at hjn hJ ⊢
   generalize (List.zipWith itemB ls (wrTs l)) = Z at *
   have z1 : (⟨#[38,123]⟩ ++ J : ByteArray).size = 2 + J.size:=by rw [ByteArray.size_append,b1]
   have m1 : 2 + J.size ≤ maxLen:=by unfold maxLen;omega
   have m2 : 2 + J.size + 1 ≤ maxLen:=by unfold maxLen;omega
   repeat' (first|(with_reducible apply zz1)|((with_reducible apply zz2);rfl;intro K' hK';simp only [WA,simprocAttr,hb1,Int.reduceBEq];(repeat (constructor;focus (clear hK';intros;simp_all;done)));(try (apply hK';clear hK' K')))|((with_reducible apply zz3);rfl;all_goals (intro h;try exact absurd h (by decide))))
   refine stop_callF rfl (by simp only [WA,simprocAttr]) rfl rfl (hjn) ?_
   simp only [WA,simprocAttr,inX,dropS,b1,b2,z1,m1,m2,forall_const]
   (repeat (constructor;focus (clear hK';intros;simp_all;done)))
   (try (apply hK';clear hK' K'))
   repeat' (first|(with_reducible apply zz1)|((with_reducible apply zz2);rfl;intro K' hK';simp only [WA,simprocAttr];(repeat (constructor;focus (clear hK';intros;simp_all;done)));(try (apply hK';clear hK' K')))|((with_reducible apply zz3);rfl;all_goals (intro h;try exact absurd h (by decide))))
   simp only [Kret,retL,retOne,oneV,WA,simprocAttr]
theorem write_fn (Γ : Gl) (hG : GD Tryd.prog Γ 1 22 (.slc (sortsL.map sD))) {x : Tp} (h : OkT x) : x.size ≤ 60 → DFn Tryd.prog Γ 72 [x.d] (sD (wrT x)):=by
 induction h with
 | nil=>intro _;rw [wr_end];exact write_end Γ
 | pass k so x hk h1 h3 hx ih =>
  intro hz
  have hz2 : x.size ≤ 60:=by simp only [Tp.size,Tp.sizes] at hz;omega
  have hT : (wrT x).size ≤ 20000:=by have:=wrT_len hx;omega
  rw [wr_pass hk]
  rcases hk with rfl | rfl
  · exact write_pass2 Γ hG so h1 h3 x _ hT (ih hz2)
  · exact write_pass3 Γ hG so h1 h3 x _ hT (ih hz2)
 | give k x y hk hx hy ihx ihy =>
  intro hz
  have hz2 : x.size ≤ 60 ∧ y.size ≤ 60:=by simp only [Tp.size,Tp.sizes] at hz;omega
  have hT : (wrT x).size ≤ 20000:=by have:=wrT_len hx;omega
  have hU : (wrT y).size ≤ 20000:=by have:=wrT_len hy;omega
  rw [wr_give hk]
  rcases hk with rfl | rfl
  · exact write_give4 Γ x y _ _ hT hU (ihx hz2.1) (ihy hz2.2)
  · exact write_give5 Γ x y _ _ hT hU (ihx hz2.1) (ihy hz2.2)
 | pick k ls l hk hl hn h ih =>
  intro hz
  have hall:=wrT_len (.pick k ls l hk hl hn h)
  rw [wr_pick hk] at hall ⊢
  have hz2 : ∀ x ∈ l,x.size ≤ 60:=fun x hx=>by have:=Tp.size_mem hx;simp only [Tp.size] at hz;omega
  have hJ : (joinB (List.zipWith itemB ls (wrTs l))).size ≤ 100000:=by simp only [ByteArray.size_append] at hall;omega
  have hws : ∀ w ∈ wrTs l,w.size ≤ 20000:=fun w hw=>by
   rw [wrTs_map] at hw
   obtain ⟨x,hx,rfl⟩:=List.mem_map.1 hw
   have:=wrT_len (h x hx)
   have:=hz2 x hx
   omega
  rcases hk with rfl | rfl
  · exact write_pick6 Γ ls l (labels_len hl) hn (fun s hs=>(name_size (labels_names hl s hs)).1) hws (fun x hx=>ih x hx (hz2 x hx)) hJ
  · exact write_pick7 Γ ls l (labels_len hl) hn (fun s hs=>(name_size (labels_names hl s hs)).1) hws (fun x hx=>ih x hx (hz2 x hx)) hJ
 | bind nm x hn hx ih =>
  intro hz
  have hz2 : x.size ≤ 60:=by simp only [Tp.size,Tp.sizes] at hz;omega
  have hT : (wrT x).size ≤ 20000:=by have:=wrT_len hx;omega
  rw [wr_bind]
  exact write_bind Γ nm (name_size (var_name hn)).1 x _ hT (ih hz2)
 | var nm hn=>intro _;rw [wr_var];exact write_var Γ nm
def wrtT (x : Tp) : ByteArray:=if tCheck x = 0 then wrT x else noB
set_option maxHeartbeats 8000000 in
set_option maxRecDepth 100000 in
theorem TWrite_fn (Γ : Gl) (hG : GD Tryd.prog Γ 1 22 (.slc (sortsL.map sD))) (x : Tp) : DFn Tryd.prog Γ 47 [x.d] (.tup [sD (wrtT x),iD (tCheck x)]):=by
 have hc:=TCheck_fn Γ x
 unfold wrtT
 by_cases h : tCheck x = 0
 · have hw:=write_fn Γ hG (ok_check h).1 (ok_check h).2
   rw [h] at hc
   rw [if_pos h,h]
   generalize wrT x = T at hw ⊢
   clear h
   obtain ⟨k,so,nm,ls,l⟩:=x
   simp only [Tp.d] at hc hw ⊢
   refine fn_of_swp (N:=12) Tryd.func47 rfl (by decide) rfl rfl (by simp) (fun C h0=>?_)
   simp only [argE]
   repeat' (first|(with_reducible apply zz1)|((with_reducible apply zz2);rfl;intro K' hK';simp only [WA,simprocAttr];(repeat (constructor;focus (clear hK';intros;simp_all;done)));(try (apply hK';clear hK' K')))|((with_reducible apply zz3);rfl;all_goals (intro h;try exact absurd h (by decide))))
   refine stop_callF rfl (by simp only [WA,simprocAttr]) rfl rfl (hc) ?_
   simp only [WA,simprocAttr,inX,dropS, ]
   (repeat (constructor;focus (clear hK';intros;simp_all;done)))
   (try (apply hK';clear hK' K'))
   repeat' (first|(with_reducible apply zz1)|((with_reducible apply zz2);rfl;intro K' hK';simp only [WA,simprocAttr];(repeat (constructor;focus (clear hK';intros;simp_all;done)));(try (apply hK';clear hK' K')))|((with_reducible apply zz3);rfl;all_goals (intro h;try exact absurd h (by decide))))
   refine stop_callF rfl (by simp only [WA,simprocAttr]) rfl rfl (hw) ?_
   simp only [WA,simprocAttr,inX,dropS, ]
   (repeat (constructor;focus (clear hK';intros;simp_all;done)))
   (try (apply hK';clear hK' K'))
   repeat' (first|(with_reducible apply zz1)|((with_reducible apply zz2);rfl;intro K' hK';simp only [WA,simprocAttr];(repeat (constructor;focus (clear hK';intros;simp_all;done)));(try (apply hK';clear hK' K')))|((with_reducible apply zz3);rfl;all_goals (intro h;try exact absurd h (by decide))))
   simp only [Kret,retL,retOne,oneV,WA,simprocAttr]
 · rw [if_neg h]
   have g0 : (tCheck x != 0) = true:=by simpa using h
   generalize tCheck x = E at *
   obtain ⟨k,so,nm,ls,l⟩:=x
   simp only [Tp.d] at hc ⊢
   refine fn_of_swp (N:=12) Tryd.func47 rfl (by decide) rfl rfl (by simp) (fun C h0=>?_)
   simp only [argE]
   repeat' (first|(with_reducible apply zz1)|((with_reducible apply zz2);rfl;intro K' hK';simp only [WA,simprocAttr];(repeat (constructor;focus (clear hK';intros;simp_all;done)));(try (apply hK';clear hK' K')))|((with_reducible apply zz3);rfl;all_goals (intro h;try exact absurd h (by decide))))
   refine stop_callF rfl (by simp only [WA,simprocAttr]) rfl rfl (hc) ?_
   simp only [WA,simprocAttr,inX,dropS, ]
   (repeat (constructor;focus (clear hK';intros;simp_all;done)))
   (try (apply hK';clear hK' K'))
   repeat' (first|(with_reducible apply zz1)|((with_reducible apply zz2);rfl;intro K' hK';simp only [WA,simprocAttr,g0];(repeat (constructor;focus (clear hK';intros;simp_all;done)));(try (apply hK';clear hK' K')))|((with_reducible apply zz3);rfl;all_goals (intro h;try exact absurd h (by decide))))
   simp only [Kret,retL,retOne,oneV,WA,simprocAttr]
end Go.Proofs.YtdcplkefmpjppaaDoor.GG
