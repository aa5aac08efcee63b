/- wires.Write; a symbolic walk (printed by mkn18.py). -/
-- TYPESE
import Derived.Test.YtdcplkefmpjppaaDoorDN15
import Derived.Test.YtdcplkefmpjppaaDoorDT17
set_option linter.unusedVariables false
set_option linter.unusedSimpArgs false
namespace Go.Proofs.YtdcplkefmpjppaaDoor.GG
open Go.RowKit Go.Sw

def evChk (f : ByteArray → Bool) (x : Ev) : Int:=wchk f x.kd x.vs x.vn x.vS x.c x.lab
def b8 (n : Int) : UInt8:=UInt8.ofNat n.toNat
def encE (x : Ev) : List UInt8 :=
 if x.kd = 2 ∨ x.kd = 3 then b8 x.kd :: b8 x.vs :: (if x.vs = 3 then txtB x.vS else if x.vs = 2 then [b8 x.vn] else numB (zz x.vn))
 else if x.kd = 4 ∨ x.kd = 5 then b8 x.kd :: txtB (wrtT x.c) else b8 x.kd :: txtB x.lab
def wrE (f : ByteArray → Bool) : List Ev → Int
 | []=>0
 | x :: l=>if evChk f x ≠ 0 then evChk f x else wrE f l
def encs (l : List Ev) : List UInt8:=l.flatMap encE
def wrR (f : ByteArray → Bool) (l : List Ev) : ByteArray × Int:=if 200 < l.length then (noB,2) else if wrE f l ≠ 0 then (noB,wrE f l) else (⟨(encs l).toArray⟩,0)
theorem chk_kd {f : ByteArray → Bool} {x : Ev} (h : evChk f x = 0) : (x.kd = 2 ∨ x.kd = 3) ∧ ((x.vs = 1 ∧ x.vS = noB) ∨ (x.vs = 2 ∧ x.vS = noB ∧ (x.vn = 0 ∨ x.vn = 1)) ∨ (x.vs = 3 ∧ x.vn = 0 ∧ x.vS.size ≤ 100 ∧ f x.vS = true)) ∨ (x.kd = 4 ∨ x.kd = 5) ∧ tCheck x.c = 0 ∨ (x.kd = 6 ∨ x.kd = 7) ∧ isNameB x.lab = true:=by
 have em : ∀ {S : ByteArray},emB S = true → S = noB:=fun {S} h=>list_back (by simpa [emB] using h)
 unfold evChk wchk at h
 split at h
 · rename_i hk
   left
   refine ⟨hk,?_⟩
   unfold vchk at h
   split at h
   · rename_i h1
     split at h
     · rename_i h2;exact .inl ⟨h1,em h2⟩
     · cases h
   · split at h
     · rename_i h1
       split at h
       · rename_i h2
         right;left
         refine ⟨h1,em h2,?_⟩
         split at h
         · left;assumption
         · split at h
           · right;assumption
           · cases h
       · cases h
     · split at h
       · rename_i h1
         right;right
         split at h
         · rename_i h2
           split at h
           · cases h
           · rename_i h3
             split at h
             · rename_i h4;exact ⟨h1,h2,by omega,h4⟩
             · cases h
         · cases h
       · cases h
 · split at h
   · rename_i hk;right;left;exact ⟨hk,h⟩
   · split at h
     · rename_i hk
       right;right
       refine ⟨hk,?_⟩
       split at h
       · assumption
       · cases h
     · cases h
theorem wrs_sum2 : ∀ (l : List Tp),(∀ x ∈ l,(wrT x).size + 10 ≤ 33 * x.size) → ((wrTs l).map fun x=>x.size).sum + 10 * l.length ≤ 33 * Tp.sizes l
 | [],h=>by simp [wrTs]
 | x :: l,h=>by
  have ih:=wrs_sum2 l fun x hx=>h x (by simp [hx])
  have h1:=h x (by simp)
  simp only [wrTs,List.map_cons,List.sum_cons,Tp.sizes,List.length_cons]
  omega
theorem wrT_len2 {x : Tp} (h : OkT x) : (wrT x).size + 10 ≤ 33 * x.size:=by
 have e46 : (⟨#[46]⟩ : ByteArray).size = 1:=rfl
 have e125 : (⟨#[125]⟩ : ByteArray).size = 1:=rfl
 have e2 : (⟨#[125,46]⟩ : ByteArray).size = 2:=rfl
 have e4 : (⟨#[114,101,99,32]⟩ : ByteArray).size = 4:=rfl
 induction h with
 | nil=>rw [wr_end];simp [Tp.size,Tp.sizes,ByteArray.size]
 | pass k so x hk h1 h3 hx ih =>
  have:=(sortW_at h1 h3).2.1
  have q : (if k = 2 then (⟨#[33]⟩ : ByteArray) else ⟨#[63]⟩).size = 1:=by split <;> rfl
  rw [wr_pass hk]
  simp only [ByteArray.size_append,q,Tp.size,Tp.sizes,e46]
  omega
 | give k x y hk hx hy ihx ihy =>
  have q : (if k = 4 then (⟨#[33,123]⟩ : ByteArray) else ⟨#[63,123]⟩).size = 2:=by split <;> rfl
  rw [wr_give hk]
  simp only [ByteArray.size_append,q,Tp.size,Tp.sizes,e2]
  omega
 | pick k ls l hk hl hn h ih =>
  rw [wr_pick hk]
  have h1:=join_size (List.zipWith itemB ls (wrTs l))
  have h2:=zip_sum ls (wrTs l) fun s hs=>(name_size (labels_names hl s hs)).1
  have h3:=wrs_sum2 l ih
  have q : (if k = 6 then (⟨#[43,123]⟩ : ByteArray) else ⟨#[38,123]⟩).size = 2:=by split <;> rfl
  simp only [ByteArray.size_append,q,Tp.size,e125]
  omega
 | bind nm x hn hx ih =>
  have:=(name_size (var_name hn)).1
  rw [wr_bind]
  simp only [ByteArray.size_append,Tp.size,Tp.sizes,e46,e4]
  omega
 | var nm hn =>
  have:=(name_size (var_name hn)).1
  rw [wr_var]
  simp only [Tp.size,Tp.sizes]
  omega
theorem wrt_size {x : Tp} (h : tCheck x = 0) : (wrtT x).size ≤ 2000:=by
 unfold wrtT
 rw [if_pos h]
 have:=wrT_len2 (ok_check h).1
 have:=(ok_check h).2
 omega
theorem enc_len {f : ByteArray → Bool} {x : Ev} (hi : -9223372036854775808 ≤ x.vn ∧ x.vn < 9223372036854775808) (h : evChk f x = 0) : (encE x).length ≤ 4000:=by
 have hz:=zz_write hi.1 hi.2
 unfold encE
 rcases chk_kd h with ⟨hk,hv⟩ | ⟨hk,hc⟩ | ⟨hk,hn⟩
 · rw [if_pos hk]
   rcases hv with ⟨e, -⟩ | ⟨e, -⟩ | ⟨e, -,h3, -⟩
   · rw [if_neg (by omega),if_neg (by omega)]
     have:=numB_len10 hz.2
     simp only [List.length_cons];omega
   · rw [if_neg (by omega),if_pos e];simp
   · rw [if_pos e]
     have:=txtB_len x.vS (by omega)
     simp only [List.length_cons];omega
 · rw [if_neg (by omega),if_pos hk]
   have:=wrT_len2 (ok_check hc).1
   have h60:=(ok_check hc).2
   have:=txtB_len (wrtT x.c) (by unfold wrtT;rw [if_pos hc];omega)
   have e : (wrtT x.c).size = (wrT x.c).size:=by unfold wrtT;rw [if_pos hc]
   simp only [List.length_cons];omega
 · rw [if_neg (by omega),if_neg (by omega)]
   have:=(name_size hn).1
   have:=txtB_len x.lab (by omega)
   simp only [List.length_cons];omega
theorem byl_snoc (l : List UInt8) (c : UInt8) : byl l ++ [D.v (.int .u8 (c.toNat : Nat))] = byl (l ++ [c]):=by rw [byl_app,byl_one]
theorem row1b {L : List UInt8} (h : L.length ≤ 900000) : ((byl L).length + 1) * 1 ≤ 140737488355328 ∧ (byl L).length + 1 ≤ maxLen:=by
 rw [byl_len];exact row1 h (by decide)
theorem encs_snoc (l : List Ev) (x : Ev) : encs (l ++ [x]) = encs l ++ encE x:=by simp [encs]
theorem evs_get : ∀ (l : List Ev) (j : Nat) (x : Ev),l[j]? = some x → (l.map Ev.d).getD j default = x.d:=fun l j x h=>by simp [List.getD,h]
set_option maxHeartbeats 32000000 in
set_option maxRecDepth 100000 in
theorem Write_fn (Γ : Gl) {f : ByteArray → Bool} (hf : VSok Γ f) (hG : GD Tryd.prog Γ 1 22 (.slc (sortsL.map sD))) (l : List Ev) (hl : l.length ≤ 140737488355328) (hvn : ∀ x ∈ l, -9223372036854775808 ≤ x.vn ∧ x.vn < 9223372036854775808) : DFn Tryd.prog Γ 22 [.slc (l.map Ev.d)] (.tup [sD (wrR f l).1,iD (wrR f l).2]):=by
 unfold wrR
 by_cases h200 : 200 < l.length
 · rw [if_pos h200]
   have g1 : (200 : Int) < (l.length : Int):=by omega
   refine fn_of_swp (N:=92) Tryd.func22 rfl (by decide) rfl rfl (by simp) (fun C h0=>?_)
   simp only [argE]
   repeat' (first|(with_reducible apply zz1)|((with_reducible apply zz2);rfl;intro K' hK';simp only [WE,simprocAttr,List.length_map,g1];(repeat (constructor;focus (clear hK';intros;simp_all;done)));(try (apply hK';clear hK' K')))|((with_reducible apply zz3);rfl;all_goals (intro h;try exact absurd h (by decide))))
   simp only [Kret,retL,retOne,oneV,WE,simprocAttr]
 rw [if_neg h200]
 obtain ⟨R,hR⟩ : ∃ R,(if wrE f l ≠ 0 then ((noB,wrE f l) : ByteArray × Int) else (⟨(encs l).toArray⟩,0)) = R:=⟨_,rfl⟩
 rw [hR]
 have g1 : ¬ (200 : Int) < (l.length : Int):=by omega
 refine fn_of_swp (N:=92) Tryd.func22 rfl (by decide) rfl rfl (by simp) (fun C h0=>?_)
 simp only [argE]
 repeat' (first|(with_reducible apply zz1)|((with_reducible apply zz2);rfl;intro K' hK';simp only [WE,simprocAttr,List.length_map,g1];(repeat (constructor;focus (clear hK';intros;simp_all;done)));(try (apply hK';clear hK' K')))|((with_reducible apply zz3);rfl;all_goals (intro h;try exact absurd h (by decide))))
 refine swp_nil 4 0 1 rfl rfl (by decide) ?_
 simp only [WE,simprocAttr]
 refine swp_loop (α := Nat) (fun j=>[(0,.d (.slc (l.map Ev.d))),(2,.d (sD ⟨#[]⟩)),(3,.d (iD 0)),(4,.own 0),(13,.d (.slc (l.map Ev.d))),(14,.d (iD l.length)),(15,.d (iD j))]) (fun j=>[(0,.row 1 (byl (encs (l.take j))))])
  (fun j=>j ≤ l.length ∧ wrE f l = wrE f (l.drop j) ∧ (encs (l.take j)).length ≤ 4000 * j) (fun j=>l.length - j) 0 ⟨Nat.zero_le _,rfl,by simp [encs]⟩ (by simp only [List.take_zero];refine sub_of h0 ?_ ?_ ?_ <;> simp only [US,WE,simprocAttr,encs,byl,List.flatMap_nil,List.map_nil]) (fun j hj=>?_)
 obtain ⟨hj,hch,hac0⟩:=hj
 try simp only at hj hch hac0
 have hb0 : (0 : Int) ≤ (j : Int):=by omega
 by_cases hlt : j < l.length
 · obtain ⟨x,hx⟩ : ∃ x,l[j]? = some x:=⟨l[j],by simp [hlt]⟩
   have hget:=evs_get l j x hx
   have hvn:=hvn x (List.mem_of_getElem? hx)
   have hb1 : (j : Int) < (l.length : Int):=by omega
   have hw3 : IntKind.i64.wrap ((j : Int) + 1) = ((j + 1 : Nat) : Int):=by rw [wrap_in (by omega) (by omega)];omega
   have hd : l.drop j = x :: l.drop (j + 1):=by
    obtain ⟨h1,h2⟩:=List.getElem?_eq_some_iff.1 hx
    rw [List.drop_eq_getElem_cons h1,h2]
   have htk : l.take (j + 1) = l.take j ++ [x]:=by rw [List.take_add_one,hx];rfl
   rw [hd,wrE] at hch
   have hck:=wcheck_fn Γ hf x.kd x.vs x.vn x.vS x.c x.lab
   change DFn Tryd.prog Γ _ _ (iD (evChk f x)) at hck
   by_cases hz : evChk f x = 0
   rotate_left
   · rw [if_pos hz] at hch
     rw [hch,if_pos hz] at hR
     subst hR
     have g2 : (evChk f x != 0) = true:=bne_iff_ne.2 hz
     generalize evChk f x = e at *
     clear htk hac0 hch hd hz
     obtain ⟨kd,vs,vn,vS,⟨k,so,nm,ls,t⟩,lab⟩:=x
     simp only [Ev.d,evD] at hget hck
     generalize encs (l.take j) = acc at *
     repeat' (first|(with_reducible apply zz1)|((with_reducible apply zz2);rfl;intro K' hK';simp only [WE,simprocAttr,Int.toNat_natCast,hget,List.length_map,hb0,hb1];(repeat (constructor;focus (clear hK';intros;simp_all;done)));(try (apply hK';clear hK' K')))|((with_reducible apply zz3);rfl;all_goals (intro h;try exact absurd h (by decide))))
     refine stop_callF rfl (by simp only [WE,simprocAttr]) rfl rfl (hck) ?_
     simp only [WE,simprocAttr,inX,dropS,g2]
     (repeat (constructor;focus (clear hK';intros;simp_all;done)))
     (try (apply hK';clear hK' K'))
     repeat' (first|(with_reducible apply zz1)|((with_reducible apply zz2);rfl;intro K' hK';simp only [WE,simprocAttr,g2];(repeat (constructor;focus (clear hK';intros;simp_all;done)));(try (apply hK';clear hK' K')))|((with_reducible apply zz3);rfl;all_goals (intro h;try exact absurd h (by decide))))
     simp only [Kret,retL,retOne,oneV,WE,simprocAttr]
   rw [if_neg (by simpa using hz)] at hch
   have hst : wrE f l = wrE f (l.drop (j + 1)):=hch
   have hac : (encs (l.take (j + 1))).length ≤ 4000 * (j + 1):=by
    rw [htk,encs_snoc,List.length_append]
    have:=enc_len hvn hz
    omega
   have hfacts:=chk_kd hz
   rw [hz] at hck
   have hjb : 4000 * j ≤ 800000:=by omega
   clear hz hR hch hd
   obtain ⟨kd,vs,vn,vS,⟨k,so,nm,ls,t⟩,lab⟩:=x
   simp only [Ev.d,evD] at hget hck hfacts hvn
   obtain ⟨acc,hacc⟩ : ∃ acc,encs (l.take j) = acc:=⟨_,rfl⟩
   rw [hacc] at hac0
   simp only [hacc]
   rcases hfacts with ⟨hk,hv⟩ | ⟨hk,hct⟩ | ⟨hk,hlb⟩
   · rcases hk with rfl | rfl
     · rcases hv with ⟨rfl,rfl⟩ | ⟨rfl,rfl,hb01⟩ | ⟨rfl,rfl,hsz, -⟩
       · have ub2 : IntKind.u8.wrap 2 = ((b8 2).toNat : Nat):=by decide
         obtain ⟨a1,a2⟩:=row1b (L:=acc) (by omega)
         have ub : IntKind.u8.wrap 1 = ((b8 1).toNat : Nat):=by decide
         obtain ⟨a3,a4⟩:=row1b (L:=acc ++ [b8 2]) (by rw [List.length_append];simp only [List.length_cons,List.length_nil];omega)
         have he : ((acc ++ [b8 2]) ++ [b8 1]) ++ numB (zz vn) = encs (l.take (j + 1)):=by rw [htk,encs_snoc,hacc];unfold encE;simp only;rw [if_pos (by decide),if_neg (by decide),if_neg (by decide)];simp only [List.append_assoc,List.cons_append,List.nil_append]
         obtain ⟨hzw,hzl⟩:=zz_write hvn.1 hvn.2
         obtain ⟨A,hA⟩ : ∃ A,IntKind.i64.wrap (vn * 2 ^ min 1 IntKind.i64.bits) = A:=⟨_,rfl⟩
         obtain ⟨B,hB⟩ : ∃ B,vn.fdiv (2 ^ min 63 IntKind.i64.bits) = B:=⟨_,rfl⟩
         rw [hA,hB] at hzw
         obtain ⟨X,hX⟩ : ∃ X,IntKind.i64.wrap ((BitVec.ofInt IntKind.i64.bits A ^^^ BitVec.ofInt IntKind.i64.bits B).toNat : Nat) = X:=⟨_,rfl⟩
         rw [hX] at hzw
         have hnum:=wnum_fn Γ (zz vn) hzl ((acc ++ [b8 2]) ++ [b8 1]) (by simp only [List.length_append,List.length_cons,List.length_nil];omega)
         generalize zz vn = Z at *
         rw [he] at hnum
         clear he hzl
         repeat' (first|(with_reducible apply zz1)|((with_reducible apply zz2);rfl;intro K' hK';simp only [WE,simprocAttr,Int.toNat_natCast,hget,List.length_map,hb0,hb1];(repeat (constructor;focus (clear hK';intros;simp_all;done)));(try (apply hK';clear hK' K')))|((with_reducible apply zz3);rfl;all_goals (intro h;try exact absurd h (by decide))))
         refine stop_callF rfl (by simp only [WE,simprocAttr]) rfl rfl (hck) ?_
         simp only [WE,simprocAttr,inX,dropS,bne_self_eq_false]
         (repeat (constructor;focus (clear hK';intros;simp_all;done)))
         (try (apply hK';clear hK' K'))
         repeat' (first|(with_reducible apply zz1)|((with_reducible apply zz2);rfl;intro K' hK';simp only [WE,simprocAttr,Int.reduceBEq,CVS,byl_snoc,a1,a2,ub2,a3,a4,ub];(repeat (constructor;focus (clear hK';intros;simp_all;done)));(try (apply hK';clear hK' K')))|((with_reducible apply zz3);rfl;all_goals (intro h;try exact absurd h (by decide))))
         refine stop_val (.v (.int .i64 A)) rfl rfl (fun a w hv=>run_shlK (m:=1) (hv (.tmp 52) (.v (.int .i64 vn)) rfl rfl rfl) rfl hA) ?_
         simp only [WE,simprocAttr]
         (repeat (constructor;focus (clear hK';intros;simp_all;done)))
         (try (apply hK';clear hK' K'))
         refine stop_val (.v (.int .i64 B)) rfl rfl (fun a w hv=>run_shrK (m:=63) (hv (.tmp 56) (.v (.int .i64 vn)) rfl rfl rfl) rfl hB) ?_
         simp only [WE,simprocAttr]
         (repeat (constructor;focus (clear hK';intros;simp_all;done)))
         (try (apply hK';clear hK' K'))
         refine stop_val (.v (.int .i64 X)) rfl rfl (fun a w hv=>run_xorK (hv (.tmp 53) (.v (.int .i64 A)) rfl rfl rfl) (hv (.tmp 57) (.v (.int .i64 B)) rfl rfl rfl) hX) ?_
         simp only [WE,simprocAttr,  CVS,hzw]
         (repeat (constructor;focus (clear hK';intros;simp_all;done)))
         (try (apply hK';clear hK' K'))
         refine stop_cS rfl (by simp only [UA,WE,simprocAttr,CVS,hzw]) (hnum ) ?_
         simp only [WE,simprocAttr,UM, ]
         (try (apply hK';clear hK' K'))
         repeat' (first|(with_reducible apply zz1)|((with_reducible apply zz2);rfl;intro K' hK';simp only [WE,simprocAttr,hw3];(repeat (constructor;focus (clear hK';intros;simp_all;done)));(try (apply hK';clear hK' K')))|((with_reducible apply zz3);rfl;all_goals (intro h;try exact absurd h (by decide))))
         refine ⟨j + 1,⟨(by show j + 1 ≤ l.length;omega),hst,hac⟩,(by show l.length - (j + 1) < l.length - j;omega),by refine sub_of h0 ?_ ?_ ?_ <;> simp only [US,WE,simprocAttr]⟩
       · have ub2 : IntKind.u8.wrap 2 = ((b8 2).toNat : Nat):=by decide
         obtain ⟨a1,a2⟩:=row1b (L:=acc) (by omega)
         have ub : IntKind.u8.wrap 2 = ((b8 2).toNat : Nat):=by decide
         obtain ⟨a3,a4⟩:=row1b (L:=acc ++ [b8 2]) (by rw [List.length_append];simp only [List.length_cons,List.length_nil];omega)
         have he : ((acc ++ [b8 2]) ++ [b8 2]) ++ [b8 vn] = encs (l.take (j + 1)):=by rw [htk,encs_snoc,hacc];unfold encE;simp only;rw [if_pos (by decide),if_neg (by decide),if_pos (by decide)];simp only [List.append_assoc,List.cons_append,List.nil_append]
         have ubn : IntKind.u8.wrap vn = ((b8 vn).toNat : Nat):=by rcases hb01 with rfl | rfl <;> decide
         obtain ⟨a5,a6⟩:=row1b (L:=(acc ++ [b8 2]) ++ [b8 2]) (by simp only [List.length_append,List.length_cons,List.length_nil];omega)
         clear hb01
         repeat' (first|(with_reducible apply zz1)|((with_reducible apply zz2);rfl;intro K' hK';simp only [WE,simprocAttr,Int.toNat_natCast,hget,List.length_map,hb0,hb1];(repeat (constructor;focus (clear hK';intros;simp_all;done)));(try (apply hK';clear hK' K')))|((with_reducible apply zz3);rfl;all_goals (intro h;try exact absurd h (by decide))))
         refine stop_callF rfl (by simp only [WE,simprocAttr]) rfl rfl (hck) ?_
         simp only [WE,simprocAttr,inX,dropS,bne_self_eq_false]
         (repeat (constructor;focus (clear hK';intros;simp_all;done)))
         (try (apply hK';clear hK' K'))
         repeat' (first|(with_reducible apply zz1)|((with_reducible apply zz2);rfl;intro K' hK';simp only [WE,simprocAttr,Int.reduceBEq,CVS,byl_snoc,a1,a2,ub2,a3,a4,ub,a5,a6,ubn,he,hw3];(repeat (constructor;focus (clear hK';intros;simp_all;done)));(try (apply hK';clear hK' K')))|((with_reducible apply zz3);rfl;all_goals (intro h;try exact absurd h (by decide))))
         repeat' (first|(with_reducible apply zz1)|((with_reducible apply zz2);rfl;intro K' hK';simp only [WE,simprocAttr,hw3];(repeat (constructor;focus (clear hK';intros;simp_all;done)));(try (apply hK';clear hK' K')))|((with_reducible apply zz3);rfl;all_goals (intro h;try exact absurd h (by decide))))
         refine ⟨j + 1,⟨(by show j + 1 ≤ l.length;omega),hst,hac⟩,(by show l.length - (j + 1) < l.length - j;omega),by refine sub_of h0 ?_ ?_ ?_ <;> simp only [US,WE,simprocAttr]⟩
       · have ub2 : IntKind.u8.wrap 2 = ((b8 2).toNat : Nat):=by decide
         obtain ⟨a1,a2⟩:=row1b (L:=acc) (by omega)
         have ub : IntKind.u8.wrap 3 = ((b8 3).toNat : Nat):=by decide
         obtain ⟨a3,a4⟩:=row1b (L:=acc ++ [b8 2]) (by rw [List.length_append];simp only [List.length_cons,List.length_nil];omega)
         have he : ((acc ++ [b8 2]) ++ [b8 3]) ++ txtB vS = encs (l.take (j + 1)):=by rw [htk,encs_snoc,hacc];unfold encE;simp only;rw [if_pos (by decide),if_pos (by decide)];simp only [List.append_assoc,List.cons_append,List.nil_append]
         have htx:=wtext_fn Γ vS (by omega) ((acc ++ [b8 2]) ++ [b8 3]) (by simp only [List.length_append,List.length_cons,List.length_nil];omega)
         rw [he] at htx
         clear he
         repeat' (first|(with_reducible apply zz1)|((with_reducible apply zz2);rfl;intro K' hK';simp only [WE,simprocAttr,Int.toNat_natCast,hget,List.length_map,hb0,hb1];(repeat (constructor;focus (clear hK';intros;simp_all;done)));(try (apply hK';clear hK' K')))|((with_reducible apply zz3);rfl;all_goals (intro h;try exact absurd h (by decide))))
         refine stop_callF rfl (by simp only [WE,simprocAttr]) rfl rfl (hck) ?_
         simp only [WE,simprocAttr,inX,dropS,bne_self_eq_false]
         (repeat (constructor;focus (clear hK';intros;simp_all;done)))
         (try (apply hK';clear hK' K'))
         repeat' (first|(with_reducible apply zz1)|((with_reducible apply zz2);rfl;intro K' hK';simp only [WE,simprocAttr,Int.reduceBEq,CVS,byl_snoc,a1,a2,ub2,a3,a4,ub];(repeat (constructor;focus (clear hK';intros;simp_all;done)));(try (apply hK';clear hK' K')))|((with_reducible apply zz3);rfl;all_goals (intro h;try exact absurd h (by decide))))
         refine stop_cS rfl (by simp only [UA,WE,simprocAttr]) (htx) ?_
         simp only [WE,simprocAttr,UM, ]
         (try (apply hK';clear hK' K'))
         repeat' (first|(with_reducible apply zz1)|((with_reducible apply zz2);rfl;intro K' hK';simp only [WE,simprocAttr,hw3];(repeat (constructor;focus (clear hK';intros;simp_all;done)));(try (apply hK';clear hK' K')))|((with_reducible apply zz3);rfl;all_goals (intro h;try exact absurd h (by decide))))
         refine ⟨j + 1,⟨(by show j + 1 ≤ l.length;omega),hst,hac⟩,(by show l.length - (j + 1) < l.length - j;omega),by refine sub_of h0 ?_ ?_ ?_ <;> simp only [US,WE,simprocAttr]⟩
     · rcases hv with ⟨rfl,rfl⟩ | ⟨rfl,rfl,hb01⟩ | ⟨rfl,rfl,hsz, -⟩
       · have ub3 : IntKind.u8.wrap 3 = ((b8 3).toNat : Nat):=by decide
         obtain ⟨a1,a2⟩:=row1b (L:=acc) (by omega)
         have ub : IntKind.u8.wrap 1 = ((b8 1).toNat : Nat):=by decide
         obtain ⟨a3,a4⟩:=row1b (L:=acc ++ [b8 3]) (by rw [List.length_append];simp only [List.length_cons,List.length_nil];omega)
         have he : ((acc ++ [b8 3]) ++ [b8 1]) ++ numB (zz vn) = encs (l.take (j + 1)):=by rw [htk,encs_snoc,hacc];unfold encE;simp only;rw [if_pos (by decide),if_neg (by decide),if_neg (by decide)];simp only [List.append_assoc,List.cons_append,List.nil_append]
         obtain ⟨hzw,hzl⟩:=zz_write hvn.1 hvn.2
         obtain ⟨A,hA⟩ : ∃ A,IntKind.i64.wrap (vn * 2 ^ min 1 IntKind.i64.bits) = A:=⟨_,rfl⟩
         obtain ⟨B,hB⟩ : ∃ B,vn.fdiv (2 ^ min 63 IntKind.i64.bits) = B:=⟨_,rfl⟩
         rw [hA,hB] at hzw
         obtain ⟨X,hX⟩ : ∃ X,IntKind.i64.wrap ((BitVec.ofInt IntKind.i64.bits A ^^^ BitVec.ofInt IntKind.i64.bits B).toNat : Nat) = X:=⟨_,rfl⟩
         rw [hX] at hzw
         have hnum:=wnum_fn Γ (zz vn) hzl ((acc ++ [b8 3]) ++ [b8 1]) (by simp only [List.length_append,List.length_cons,List.length_nil];omega)
         generalize zz vn = Z at *
         rw [he] at hnum
         clear he hzl
         repeat' (first|(with_reducible apply zz1)|((with_reducible apply zz2);rfl;intro K' hK';simp only [WE,simprocAttr,Int.toNat_natCast,hget,List.length_map,hb0,hb1];(repeat (constructor;focus (clear hK';intros;simp_all;done)));(try (apply hK';clear hK' K')))|((with_reducible apply zz3);rfl;all_goals (intro h;try exact absurd h (by decide))))
         refine stop_callF rfl (by simp only [WE,simprocAttr]) rfl rfl (hck) ?_
         simp only [WE,simprocAttr,inX,dropS,bne_self_eq_false]
         (repeat (constructor;focus (clear hK';intros;simp_all;done)))
         (try (apply hK';clear hK' K'))
         repeat' (first|(with_reducible apply zz1)|((with_reducible apply zz2);rfl;intro K' hK';simp only [WE,simprocAttr,Int.reduceBEq,CVS,byl_snoc,a1,a2,ub3,a3,a4,ub];(repeat (constructor;focus (clear hK';intros;simp_all;done)));(try (apply hK';clear hK' K')))|((with_reducible apply zz3);rfl;all_goals (intro h;try exact absurd h (by decide))))
         refine stop_val (.v (.int .i64 A)) rfl rfl (fun a w hv=>run_shlK (m:=1) (hv (.tmp 52) (.v (.int .i64 vn)) rfl rfl rfl) rfl hA) ?_
         simp only [WE,simprocAttr]
         (repeat (constructor;focus (clear hK';intros;simp_all;done)))
         (try (apply hK';clear hK' K'))
         refine stop_val (.v (.int .i64 B)) rfl rfl (fun a w hv=>run_shrK (m:=63) (hv (.tmp 56) (.v (.int .i64 vn)) rfl rfl rfl) rfl hB) ?_
         simp only [WE,simprocAttr]
         (repeat (constructor;focus (clear hK';intros;simp_all;done)))
         (try (apply hK';clear hK' K'))
         refine stop_val (.v (.int .i64 X)) rfl rfl (fun a w hv=>run_xorK (hv (.tmp 53) (.v (.int .i64 A)) rfl rfl rfl) (hv (.tmp 57) (.v (.int .i64 B)) rfl rfl rfl) hX) ?_
         simp only [WE,simprocAttr,  CVS,hzw]
         (repeat (constructor;focus (clear hK';intros;simp_all;done)))
         (try (apply hK';clear hK' K'))
         refine stop_cS rfl (by simp only [UA,WE,simprocAttr,CVS,hzw]) (hnum ) ?_
         simp only [WE,simprocAttr,UM, ]
         (try (apply hK';clear hK' K'))
         repeat' (first|(with_reducible apply zz1)|((with_reducible apply zz2);rfl;intro K' hK';simp only [WE,simprocAttr,hw3];(repeat (constructor;focus (clear hK';intros;simp_all;done)));(try (apply hK';clear hK' K')))|((with_reducible apply zz3);rfl;all_goals (intro h;try exact absurd h (by decide))))
         refine ⟨j + 1,⟨(by show j + 1 ≤ l.length;omega),hst,hac⟩,(by show l.length - (j + 1) < l.length - j;omega),by refine sub_of h0 ?_ ?_ ?_ <;> simp only [US,WE,simprocAttr]⟩
       · have ub3 : IntKind.u8.wrap 3 = ((b8 3).toNat : Nat):=by decide
         obtain ⟨a1,a2⟩:=row1b (L:=acc) (by omega)
         have ub : IntKind.u8.wrap 2 = ((b8 2).toNat : Nat):=by decide
         obtain ⟨a3,a4⟩:=row1b (L:=acc ++ [b8 3]) (by rw [List.length_append];simp only [List.length_cons,List.length_nil];omega)
         have he : ((acc ++ [b8 3]) ++ [b8 2]) ++ [b8 vn] = encs (l.take (j + 1)):=by rw [htk,encs_snoc,hacc];unfold encE;simp only;rw [if_pos (by decide),if_neg (by decide),if_pos (by decide)];simp only [List.append_assoc,List.cons_append,List.nil_append]
         have ubn : IntKind.u8.wrap vn = ((b8 vn).toNat : Nat):=by rcases hb01 with rfl | rfl <;> decide
         obtain ⟨a5,a6⟩:=row1b (L:=(acc ++ [b8 3]) ++ [b8 2]) (by simp only [List.length_append,List.length_cons,List.length_nil];omega)
         clear hb01
         repeat' (first|(with_reducible apply zz1)|((with_reducible apply zz2);rfl;intro K' hK';simp only [WE,simprocAttr,Int.toNat_natCast,hget,List.length_map,hb0,hb1];(repeat (constructor;focus (clear hK';intros;simp_all;done)));(try (apply hK';clear hK' K')))|((with_reducible apply zz3);rfl;all_goals (intro h;try exact absurd h (by decide))))
         refine stop_callF rfl (by simp only [WE,simprocAttr]) rfl rfl (hck) ?_
         simp only [WE,simprocAttr,inX,dropS,bne_self_eq_false]
         (repeat (constructor;focus (clear hK';intros;simp_all;done)))
         (try (apply hK';clear hK' K'))
         repeat' (first|(with_reducible apply zz1)|((with_reducible apply zz2);rfl;intro K' hK';simp only [WE,simprocAttr,Int.reduceBEq,CVS,byl_snoc,a1,a2,ub3,a3,a4,ub,a5,a6,ubn,he,hw3];(repeat (constructor;focus (clear hK';intros;simp_all;done)));(try (apply hK';clear hK' K')))|((with_reducible apply zz3);rfl;all_goals (intro h;try exact absurd h (by decide))))
         repeat' (first|(with_reducible apply zz1)|((with_reducible apply zz2);rfl;intro K' hK';simp only [WE,simprocAttr,hw3];(repeat (constructor;focus (clear hK';intros;simp_all;done)));(try (apply hK';clear hK' K')))|((with_reducible apply zz3);rfl;all_goals (intro h;try exact absurd h (by decide))))
         refine ⟨j + 1,⟨(by show j + 1 ≤ l.length;omega),hst,hac⟩,(by show l.length - (j + 1) < l.length - j;omega),by refine sub_of h0 ?_ ?_ ?_ <;> simp only [US,WE,simprocAttr]⟩
       · have ub3 : IntKind.u8.wrap 3 = ((b8 3).toNat : Nat):=by decide
         obtain ⟨a1,a2⟩:=row1b (L:=acc) (by omega)
         have ub : IntKind.u8.wrap 3 = ((b8 3).toNat : Nat):=by decide
         obtain ⟨a3,a4⟩:=row1b (L:=acc ++ [b8 3]) (by rw [List.length_append];simp only [List.length_cons,List.length_nil];omega)
         have he : ((acc ++ [b8 3]) ++ [b8 3]) ++ txtB vS = encs (l.take (j + 1)):=by rw [htk,encs_snoc,hacc];unfold encE;simp only;rw [if_pos (by decide),if_pos (by decide)];simp only [List.append_assoc,List.cons_append,List.nil_append]
         have htx:=wtext_fn Γ vS (by omega) ((acc ++ [b8 3]) ++ [b8 3]) (by simp only [List.length_append,List.length_cons,List.length_nil];omega)
         rw [he] at htx
         clear he
         repeat' (first|(with_reducible apply zz1)|((with_reducible apply zz2);rfl;intro K' hK';simp only [WE,simprocAttr,Int.toNat_natCast,hget,List.length_map,hb0,hb1];(repeat (constructor;focus (clear hK';intros;simp_all;done)));(try (apply hK';clear hK' K')))|((with_reducible apply zz3);rfl;all_goals (intro h;try exact absurd h (by decide))))
         refine stop_callF rfl (by simp only [WE,simprocAttr]) rfl rfl (hck) ?_
         simp only [WE,simprocAttr,inX,dropS,bne_self_eq_false]
         (repeat (constructor;focus (clear hK';intros;simp_all;done)))
         (try (apply hK';clear hK' K'))
         repeat' (first|(with_reducible apply zz1)|((with_reducible apply zz2);rfl;intro K' hK';simp only [WE,simprocAttr,Int.reduceBEq,CVS,byl_snoc,a1,a2,ub3,a3,a4,ub];(repeat (constructor;focus (clear hK';intros;simp_all;done)));(try (apply hK';clear hK' K')))|((with_reducible apply zz3);rfl;all_goals (intro h;try exact absurd h (by decide))))
         refine stop_cS rfl (by simp only [UA,WE,simprocAttr]) (htx) ?_
         simp only [WE,simprocAttr,UM, ]
         (try (apply hK';clear hK' K'))
         repeat' (first|(with_reducible apply zz1)|((with_reducible apply zz2);rfl;intro K' hK';simp only [WE,simprocAttr,hw3];(repeat (constructor;focus (clear hK';intros;simp_all;done)));(try (apply hK';clear hK' K')))|((with_reducible apply zz3);rfl;all_goals (intro h;try exact absurd h (by decide))))
         refine ⟨j + 1,⟨(by show j + 1 ≤ l.length;omega),hst,hac⟩,(by show l.length - (j + 1) < l.length - j;omega),by refine sub_of h0 ?_ ?_ ?_ <;> simp only [US,WE,simprocAttr]⟩
   · rcases hk with rfl | rfl
     · have ub4 : IntKind.u8.wrap 4 = ((b8 4).toNat : Nat):=by decide
       obtain ⟨a1,a2⟩:=row1b (L:=acc) (by omega)
       have he : (acc ++ [b8 4]) ++ txtB (wrtT (.mk k so nm ls t)) = encs (l.take (j + 1)):=by rw [htk,encs_snoc,hacc];unfold encE;simp only;rw [if_neg (by decide),if_pos (by decide)];simp only [List.append_assoc,List.cons_append,List.nil_append]
       have hwr:=TWrite_fn Γ hG (.mk k so nm ls t)
       rw [hct] at hwr
       have htx:=wtext_fn Γ (wrtT (.mk k so nm ls t)) (by have:=wrt_size hct;omega) (acc ++ [b8 4]) (by simp only [List.length_append,List.length_cons,List.length_nil];omega)
       rw [he] at htx
       clear he
       generalize wrtT (.mk k so nm ls t) = u at *
       simp only [Tp.d] at hwr
       repeat' (first|(with_reducible apply zz1)|((with_reducible apply zz2);rfl;intro K' hK';simp only [WE,simprocAttr,Int.toNat_natCast,hget,List.length_map,hb0,hb1];(repeat (constructor;focus (clear hK';intros;simp_all;done)));(try (apply hK';clear hK' K')))|((with_reducible apply zz3);rfl;all_goals (intro h;try exact absurd h (by decide))))
       refine stop_callF rfl (by simp only [WE,simprocAttr]) rfl rfl (hck) ?_
       simp only [WE,simprocAttr,inX,dropS,bne_self_eq_false]
       (repeat (constructor;focus (clear hK';intros;simp_all;done)))
       (try (apply hK';clear hK' K'))
       repeat' (first|(with_reducible apply zz1)|((with_reducible apply zz2);rfl;intro K' hK';simp only [WE,simprocAttr,Int.reduceBEq,CVS,byl_snoc,a1,a2,ub4];(repeat (constructor;focus (clear hK';intros;simp_all;done)));(try (apply hK';clear hK' K')))|((with_reducible apply zz3);rfl;all_goals (intro h;try exact absurd h (by decide))))
       refine stop_call h0 rfl (by simp only [WE,simprocAttr]) rfl (by simp only [keepS,Option.isSome_some,WE,simprocAttr]) (hwr) ?_
       simp only [WE,simprocAttr,inX,dropS, ]
       (repeat (constructor;focus (clear hK';intros;simp_all;done)))
       (try (apply hK';clear hK' K'))
       repeat' (first|(with_reducible apply zz1)|((with_reducible apply zz2);rfl;intro K' hK';simp only [WE,simprocAttr];(repeat (constructor;focus (clear hK';intros;simp_all;done)));(try (apply hK';clear hK' K')))|((with_reducible apply zz3);rfl;all_goals (intro h;try exact absurd h (by decide))))
       refine stop_cS rfl (by simp only [UA,WE,simprocAttr]) (htx) ?_
       simp only [WE,simprocAttr,UM, ]
       (try (apply hK';clear hK' K'))
       repeat' (first|(with_reducible apply zz1)|((with_reducible apply zz2);rfl;intro K' hK';simp only [WE,simprocAttr,hw3];(repeat (constructor;focus (clear hK';intros;simp_all;done)));(try (apply hK';clear hK' K')))|((with_reducible apply zz3);rfl;all_goals (intro h;try exact absurd h (by decide))))
       refine ⟨j + 1,⟨(by show j + 1 ≤ l.length;omega),hst,hac⟩,(by show l.length - (j + 1) < l.length - j;omega),by refine sub_of h0 ?_ ?_ ?_ <;> simp only [US,WE,simprocAttr]⟩
     · have ub5 : IntKind.u8.wrap 5 = ((b8 5).toNat : Nat):=by decide
       obtain ⟨a1,a2⟩:=row1b (L:=acc) (by omega)
       have he : (acc ++ [b8 5]) ++ txtB (wrtT (.mk k so nm ls t)) = encs (l.take (j + 1)):=by rw [htk,encs_snoc,hacc];unfold encE;simp only;rw [if_neg (by decide),if_pos (by decide)];simp only [List.append_assoc,List.cons_append,List.nil_append]
       have hwr:=TWrite_fn Γ hG (.mk k so nm ls t)
       rw [hct] at hwr
       have htx:=wtext_fn Γ (wrtT (.mk k so nm ls t)) (by have:=wrt_size hct;omega) (acc ++ [b8 5]) (by simp only [List.length_append,List.length_cons,List.length_nil];omega)
       rw [he] at htx
       clear he
       generalize wrtT (.mk k so nm ls t) = u at *
       simp only [Tp.d] at hwr
       repeat' (first|(with_reducible apply zz1)|((with_reducible apply zz2);rfl;intro K' hK';simp only [WE,simprocAttr,Int.toNat_natCast,hget,List.length_map,hb0,hb1];(repeat (constructor;focus (clear hK';intros;simp_all;done)));(try (apply hK';clear hK' K')))|((with_reducible apply zz3);rfl;all_goals (intro h;try exact absurd h (by decide))))
       refine stop_callF rfl (by simp only [WE,simprocAttr]) rfl rfl (hck) ?_
       simp only [WE,simprocAttr,inX,dropS,bne_self_eq_false]
       (repeat (constructor;focus (clear hK';intros;simp_all;done)))
       (try (apply hK';clear hK' K'))
       repeat' (first|(with_reducible apply zz1)|((with_reducible apply zz2);rfl;intro K' hK';simp only [WE,simprocAttr,Int.reduceBEq,CVS,byl_snoc,a1,a2,ub5];(repeat (constructor;focus (clear hK';intros;simp_all;done)));(try (apply hK';clear hK' K')))|((with_reducible apply zz3);rfl;all_goals (intro h;try exact absurd h (by decide))))
       refine stop_call h0 rfl (by simp only [WE,simprocAttr]) rfl (by simp only [keepS,Option.isSome_some,WE,simprocAttr]) (hwr) ?_
       simp only [WE,simprocAttr,inX,dropS, ]
       (repeat (constructor;focus (clear hK';intros;simp_all;done)))
       (try (apply hK';clear hK' K'))
       repeat' (first|(with_reducible apply zz1)|((with_reducible apply zz2);rfl;intro K' hK';simp only [WE,simprocAttr];(repeat (constructor;focus (clear hK';intros;simp_all;done)));(try (apply hK';clear hK' K')))|((with_reducible apply zz3);rfl;all_goals (intro h;try exact absurd h (by decide))))
       refine stop_cS rfl (by simp only [UA,WE,simprocAttr]) (htx) ?_
       simp only [WE,simprocAttr,UM, ]
       (try (apply hK';clear hK' K'))
       repeat' (first|(with_reducible apply zz1)|((with_reducible apply zz2);rfl;intro K' hK';simp only [WE,simprocAttr,hw3];(repeat (constructor;focus (clear hK';intros;simp_all;done)));(try (apply hK';clear hK' K')))|((with_reducible apply zz3);rfl;all_goals (intro h;try exact absurd h (by decide))))
       refine ⟨j + 1,⟨(by show j + 1 ≤ l.length;omega),hst,hac⟩,(by show l.length - (j + 1) < l.length - j;omega),by refine sub_of h0 ?_ ?_ ?_ <;> simp only [US,WE,simprocAttr]⟩
   · rcases hk with rfl | rfl
     · have ub6 : IntKind.u8.wrap 6 = ((b8 6).toNat : Nat):=by decide
       obtain ⟨a1,a2⟩:=row1b (L:=acc) (by omega)
       have he : (acc ++ [b8 6]) ++ txtB lab = encs (l.take (j + 1)):=by rw [htk,encs_snoc,hacc];unfold encE;simp only;rw [if_neg (by decide),if_neg (by decide)];simp only [List.append_assoc,List.cons_append,List.nil_append]
       have htx:=wtext_fn Γ lab (by have:=(name_size hlb).1;omega) (acc ++ [b8 6]) (by simp only [List.length_append,List.length_cons,List.length_nil];omega)
       rw [he] at htx
       clear he
       repeat' (first|(with_reducible apply zz1)|((with_reducible apply zz2);rfl;intro K' hK';simp only [WE,simprocAttr,Int.toNat_natCast,hget,List.length_map,hb0,hb1];(repeat (constructor;focus (clear hK';intros;simp_all;done)));(try (apply hK';clear hK' K')))|((with_reducible apply zz3);rfl;all_goals (intro h;try exact absurd h (by decide))))
       refine stop_callF rfl (by simp only [WE,simprocAttr]) rfl rfl (hck) ?_
       simp only [WE,simprocAttr,inX,dropS,bne_self_eq_false]
       (repeat (constructor;focus (clear hK';intros;simp_all;done)))
       (try (apply hK';clear hK' K'))
       repeat' (first|(with_reducible apply zz1)|((with_reducible apply zz2);rfl;intro K' hK';simp only [WE,simprocAttr,Int.reduceBEq,CVS,byl_snoc,a1,a2,ub6];(repeat (constructor;focus (clear hK';intros;simp_all;done)));(try (apply hK';clear hK' K')))|((with_reducible apply zz3);rfl;all_goals (intro h;try exact absurd h (by decide))))
       refine stop_cS rfl (by simp only [UA,WE,simprocAttr]) (htx) ?_
       simp only [WE,simprocAttr,UM, ]
       (try (apply hK';clear hK' K'))
       repeat' (first|(with_reducible apply zz1)|((with_reducible apply zz2);rfl;intro K' hK';simp only [WE,simprocAttr,hw3];(repeat (constructor;focus (clear hK';intros;simp_all;done)));(try (apply hK';clear hK' K')))|((with_reducible apply zz3);rfl;all_goals (intro h;try exact absurd h (by decide))))
       refine ⟨j + 1,⟨(by show j + 1 ≤ l.length;omega),hst,hac⟩,(by show l.length - (j + 1) < l.length - j;omega),by refine sub_of h0 ?_ ?_ ?_ <;> simp only [US,WE,simprocAttr]⟩
     · have ub7 : IntKind.u8.wrap 7 = ((b8 7).toNat : Nat):=by decide
       obtain ⟨a1,a2⟩:=row1b (L:=acc) (by omega)
       have he : (acc ++ [b8 7]) ++ txtB lab = encs (l.take (j + 1)):=by rw [htk,encs_snoc,hacc];unfold encE;simp only;rw [if_neg (by decide),if_neg (by decide)];simp only [List.append_assoc,List.cons_append,List.nil_append]
       have htx:=wtext_fn Γ lab (by have:=(name_size hlb).1;omega) (acc ++ [b8 7]) (by simp only [List.length_append,List.length_cons,List.length_nil];omega)
       rw [he] at htx
       clear he
       repeat' (first|(with_reducible apply zz1)|((with_reducible apply zz2);rfl;intro K' hK';simp only [WE,simprocAttr,Int.toNat_natCast,hget,List.length_map,hb0,hb1];(repeat (constructor;focus (clear hK';intros;simp_all;done)));(try (apply hK';clear hK' K')))|((with_reducible apply zz3);rfl;all_goals (intro h;try exact absurd h (by decide))))
       refine stop_callF rfl (by simp only [WE,simprocAttr]) rfl rfl (hck) ?_
       simp only [WE,simprocAttr,inX,dropS,bne_self_eq_false]
       (repeat (constructor;focus (clear hK';intros;simp_all;done)))
       (try (apply hK';clear hK' K'))
       repeat' (first|(with_reducible apply zz1)|((with_reducible apply zz2);rfl;intro K' hK';simp only [WE,simprocAttr,Int.reduceBEq,CVS,byl_snoc,a1,a2,ub7];(repeat (constructor;focus (clear hK';intros;simp_all;done)));(try (apply hK';clear hK' K')))|((with_reducible apply zz3);rfl;all_goals (intro h;try exact absurd h (by decide))))
       refine stop_cS rfl (by simp only [UA,WE,simprocAttr]) (htx) ?_
       simp only [WE,simprocAttr,UM, ]
       (try (apply hK';clear hK' K'))
       repeat' (first|(with_reducible apply zz1)|((with_reducible apply zz2);rfl;intro K' hK';simp only [WE,simprocAttr,hw3];(repeat (constructor;focus (clear hK';intros;simp_all;done)));(try (apply hK';clear hK' K')))|((with_reducible apply zz3);rfl;all_goals (intro h;try exact absurd h (by decide))))
       refine ⟨j + 1,⟨(by show j + 1 ≤ l.length;omega),hst,hac⟩,(by show l.length - (j + 1) < l.length - j;omega),by refine sub_of h0 ?_ ?_ ?_ <;> simp only [US,WE,simprocAttr]⟩
 · have hb1 : ¬ (j : Int) < (l.length : Int):=by omega
   rw [List.drop_of_length_le (by omega)] at hch
   rw [hch,show wrE f [] = 0 from rfl,if_neg (by decide)] at hR
   subst hR
   rw [List.take_of_length_le (by omega)]
   repeat' (first|(with_reducible apply zz1)|((with_reducible apply zz2);rfl;intro K' hK';simp only [WE,simprocAttr,hb1];(repeat (constructor;focus (clear hK';intros;simp_all;done)));(try (apply hK';clear hK' K')))|((with_reducible apply zz3);rfl;all_goals (intro h;try exact absurd h (by decide))))
   refine stop_frz [0] h0 (by simp only [Option.isSome_some,UF,WE,simprocAttr]) ?_
   simp only [WE,simprocAttr,UF]
   refine stop_ok rfl (ok_bytes (b:=⟨(encs l).toArray⟩) rfl un93 un5 un9 rfl) ?_
   simp only [WE,simprocAttr]
   (repeat (constructor;focus (clear hK';intros;simp_all;done)))
   (try (apply hK';clear hK' K'))
   repeat' (first|(with_reducible apply zz1)|((with_reducible apply zz2);rfl;intro K' hK';simp only [WE,simprocAttr];(repeat (constructor;focus (clear hK';intros;simp_all;done)));(try (apply hK';clear hK' K')))|((with_reducible apply zz3);rfl;all_goals (intro h;try exact absurd h (by decide))))
   simp only [Kret,retL,retOne,oneV,WE,simprocAttr]
end Go.Proofs.YtdcplkefmpjppaaDoor.GG
