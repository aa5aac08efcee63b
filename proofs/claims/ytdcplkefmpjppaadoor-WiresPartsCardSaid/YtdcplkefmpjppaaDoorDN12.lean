/- wires.number and text: what is written; a symbolic walk. -/
-- TYPESE
import Derived.Test.YtdcplkefmpjppaaDoorDN11
import Derived.Test.YtdcplkefmpjppaaDoorDTE
set_option linter.unusedVariables false
set_option linter.unusedSimpArgs false
namespace Go.Proofs.YtdcplkefmpjppaaDoor.GG
open Go.RowKit Go.Sw

def byl (l : List UInt8) : List D:=l.map fun c=>.v (.int .u8 (c.toNat : Nat))
theorem byl_len (l : List UInt8) : (byl l).length = l.length:=by unfold byl;rw [List.length_map]
theorem byl_app (a b : List UInt8) : byl (a ++ b) = byl a ++ byl b:=by unfold byl;rw [List.map_append]
theorem byl_one (c : UInt8) : byl [c] = [.v (.int .u8 (c.toNat : Nat))]:=rfl
theorem byD_byl (b : ByteArray) : byD b = byl b.data.toList:=rfl
theorem row1 {n m : Nat} (h : n ≤ m) (hm : m ≤ 100000000) : (n + 1) * 1 ≤ 140737488355328 ∧ n + 1 ≤ maxLen:=⟨by omega,by unfold maxLen;omega⟩
set_option maxHeartbeats 8000000 in
set_option maxRecDepth 100000 in
theorem wnum_fn (Γ : Gl) (n : Nat) (hn : n < 2 ^ 64) (l : List UInt8) (hl : l.length ≤ 1000000) : SFn Tryd.prog Γ 46 [.own 0,.d (.v (.int .u64 (n : Nat)))] [(0,.row 1 (byl l))] (.own 0) [(0,.row 1 (byl (l ++ numB n)))]:=by
 refine sfn_of_swp (N:=20) Tryd.func46 rfl (by decide) rfl rfl (by simp) (fun C h0=>?_)
 simp only [argS]
 repeat' (first|(with_reducible apply zz1)|((with_reducible apply zz2);rfl;intro K' hK';simp only [WE,simprocAttr];(repeat (constructor;focus (clear hK';intros;simp_all;done)));(try (apply hK';clear hK' K')))|((with_reducible apply zz3);rfl;all_goals (intro h;try exact absurd h (by decide))))
 refine swp_loop (α := Nat × List UInt8) (fun q=>[(0,.own 0),(1,.d (.v (.int .u64 (q.1 : Nat)))),(4,.nil)]) (fun q=>[(0,.row 1 (byl q.2))])
  (fun q=>q.1 < 2 ^ 64 ∧ q.2 ++ numB q.1 = l ++ numB n) (fun q=>q.1) (n,l) ⟨hn,rfl⟩ (by refine sub_of h0 ?_ ?_ ?_ <;> simp only [US,WE,simprocAttr]) (fun q hq=>?_)
 obtain ⟨m,l1⟩:=q
 obtain ⟨hm,he⟩:=hq
 simp only at hm he
 have hlen : l1.length ≤ 1000010:=by
  have:=congrArg List.length he
  rw [List.length_append,List.length_append] at this
  have:=numB_len10 hn
  omega
 obtain ⟨n1,n2⟩:=row1 hlen (by decide)
 by_cases h128 : 128 ≤ m
 · have g1 : (128 : Int) ≤ (m : Int):=by omega
   have hm1 : byl l1 ++ [D.v (.int .u8 ((UInt8.ofNat (m % 128 + 128)).toNat : Nat))] = byl (l1 ++ [UInt8.ofNat (m % 128 + 128)]):=by rw [byl_app,byl_one]
   rw [numB_big h128] at he
   have ho:=or128 m
   generalize UInt8.ofNat (m % 128 + 128) = c at *
   repeat' (first|(with_reducible apply zz1)|((with_reducible apply zz2);rfl;intro K' hK';simp only [WE,simprocAttr,g1];(repeat (constructor;focus (clear hK';intros;simp_all;done)));(try (apply hK';clear hK' K')))|((with_reducible apply zz3);rfl;all_goals (intro h;try exact absurd h (by decide))))
   refine stop_val (.v (.int .u8 (c.toNat : Nat))) rfl rfl (fun a w hv=>run_orK (hv (.tmp 11) (.v (.int .u8 (IntKind.u8.wrap (m : Int)))) rfl rfl rfl) rfl ho) ?_
   simp only [WE,simprocAttr,  byl_len,n1,n2,hm1]
   (repeat (constructor;focus (clear hK';intros;simp_all;done)))
   (try (apply hK';clear hK' K'))
   repeat' (first|(with_reducible apply zz1)|((with_reducible apply zz2);rfl;intro K' hK';simp only [WE,simprocAttr];(repeat (constructor;focus (clear hK';intros;simp_all;done)));(try (apply hK';clear hK' K')))|((with_reducible apply zz3);rfl;all_goals (intro h;try exact absurd h (by decide))))
   refine stop_val (.v (.int .u64 ((m / 128 : Nat) : Int))) rfl rfl (fun a w hv=>run_shrK (m:=7) (hv (.tmp 7) (.v (.int .u64 (m : Nat))) rfl rfl rfl) rfl (shr7 m)) ?_
   simp only [WE,simprocAttr]
   (repeat (constructor;focus (clear hK';intros;simp_all;done)))
   (try (apply hK';clear hK' K'))
   repeat' (first|(with_reducible apply zz1)|((with_reducible apply zz2);rfl;intro K' hK';simp only [WE,simprocAttr];(repeat (constructor;focus (clear hK';intros;simp_all;done)));(try (apply hK';clear hK' K')))|((with_reducible apply zz3);rfl;all_goals (intro h;try exact absurd h (by decide))))
   refine ⟨(m / 128,l1 ++ [c]),⟨(by show m / 128 < 2 ^ 64;omega),(by show (l1 ++ [c]) ++ numB (m / 128) = l ++ numB n;rw [← he,List.append_assoc];rfl)⟩,(by show m / 128 < m;omega),by refine sub_of h0 ?_ ?_ ?_ <;> simp only [US,WE,simprocAttr]⟩
 · have g1 : ¬ (128 : Int) ≤ (m : Int):=by omega
   rw [numB_small (by omega)] at he
   have hw8 : IntKind.u8.wrap (m : Int) = ((UInt8.ofNat m).toNat : Nat):=by rw [wrap_u8,u8_toNat (by omega)];omega
   have hm1 : byl l1 ++ [D.v (.int .u8 ((UInt8.ofNat m).toNat : Nat))] = byl (l ++ numB n):=by rw [← byl_one, ← byl_app,he]
   generalize UInt8.ofNat m = c at *
   generalize l ++ numB n = l2 at *
   clear he hm hlen h128
   repeat' (first|(with_reducible apply zz1)|((with_reducible apply zz2);rfl;intro K' hK';simp only [WE,simprocAttr,g1,hw8,byl_len,n1,n2,hm1];(repeat (constructor;focus (clear hK';intros;simp_all;done)));(try (apply hK';clear hK' K')))|((with_reducible apply zz3);rfl;all_goals (intro h;try exact absurd h (by decide))))
   (try simp only [WE,simprocAttr,hw8,byl_len,n1,n2,hm1])
   (repeat (constructor;focus (clear hK';intros;simp_all;done)))
   (try (apply hK';clear hK' K'))
   repeat' (first|(with_reducible apply zz1)|((with_reducible apply zz2);rfl;intro K' hK';simp only [WE,simprocAttr];(repeat (constructor;focus (clear hK';intros;simp_all;done)));(try (apply hK';clear hK' K')))|((with_reducible apply zz3);rfl;all_goals (intro h;try exact absurd h (by decide))))
   simp only [KretS,retL,retOne,oneV,US,WE,simprocAttr,h0]
theorem txtB_len (s : ByteArray) (hs : s.size < 2 ^ 64) : (txtB s).length ≤ 10 + s.size:=by
 unfold txtB
 rw [List.length_append,sizeL]
 have:=numB_len10 hs
 omega
set_option maxHeartbeats 8000000 in
set_option maxRecDepth 100000 in
theorem wtext_fn (Γ : Gl) (s : ByteArray) (hs : s.size ≤ 100000) (l : List UInt8) (hl : l.length ≤ 1000000) : SFn Tryd.prog Γ 45 [.own 0,.d (sD s)] [(0,.row 1 (byl l))] (.own 0) [(0,.row 1 (byl (l ++ txtB s)))]:=by
 have hc:=wnum_fn Γ s.size (by omega) l hl
 have hw : IntKind.u64.wrap (s.size : Int) = ((s.size : Nat) : Int):=by rw [wrap_u64];omega
 have hlen : (l ++ numB s.size).length ≤ 1000010:=by
  rw [List.length_append]
  have:=numB_len10 (n:=s.size) (by omega)
  omega
 have e : l ++ txtB s = (l ++ numB s.size) ++ s.data.toList:=by rw [txtB,List.append_assoc]
 rw [e]
 generalize l ++ numB s.size = l1 at *
 by_cases h0s : s.size = 0
 · obtain rfl : s = ⟨#[]⟩:=ByteArray.ext (Array.eq_empty_of_size_eq_zero h0s)
   rw [show (⟨#[]⟩ : ByteArray).data.toList = [] from rfl,List.append_nil]
   refine sfn_of_swp (N:=12) Tryd.func45 rfl (by decide) rfl rfl (by simp) (fun C h0=>?_)
   simp only [argS]
   repeat' (first|(with_reducible apply zz1)|((with_reducible apply zz2);rfl;intro K' hK';simp only [WE,simprocAttr,hw];(repeat (constructor;focus (clear hK';intros;simp_all;done)));(try (apply hK';clear hK' K')))|((with_reducible apply zz3);rfl;all_goals (intro h;try exact absurd h (by decide))))
   refine stop_cS rfl (by simp only [UA,WE,simprocAttr,hw]) (hc ) ?_
   simp only [WE,simprocAttr,UM, ]
   (try (apply hK';clear hK' K'))
   refine stop_ok rfl (ok_appT0 rfl rfl un9 el93 by93 ez93 rfl rfl rfl) ?_
   simp only [WE,simprocAttr]
   (repeat (constructor;focus (clear hK';intros;simp_all;done)))
   (try (apply hK';clear hK' K'))
   repeat' (first|(with_reducible apply zz1)|((with_reducible apply zz2);rfl;intro K' hK';simp only [WE,simprocAttr];(repeat (constructor;focus (clear hK';intros;simp_all;done)));(try (apply hK';clear hK' K')))|((with_reducible apply zz3);rfl;all_goals (intro h;try exact absurd h (by decide))))
   simp only [KretS,retL,retOne,oneV,US,WE,simprocAttr,h0]
 · have g1 : ((byl l1).length + s.size) * 1 ≤ 140737488355328:=by rw [byl_len];omega
   have g2 : (byl l1).length + s.size ≤ maxLen:=by rw [byl_len];unfold maxLen;omega
   have hm1 : byl l1 ++ byD s = byl (l1 ++ s.data.toList):=by rw [byD_byl,byl_app]
   refine sfn_of_swp (N:=12) Tryd.func45 rfl (by decide) rfl rfl (by simp) (fun C h0=>?_)
   simp only [argS]
   repeat' (first|(with_reducible apply zz1)|((with_reducible apply zz2);rfl;intro K' hK';simp only [WE,simprocAttr,hw];(repeat (constructor;focus (clear hK';intros;simp_all;done)));(try (apply hK';clear hK' K')))|((with_reducible apply zz3);rfl;all_goals (intro h;try exact absurd h (by decide))))
   refine stop_cS rfl (by simp only [UA,WE,simprocAttr,hw]) (hc ) ?_
   simp only [WE,simprocAttr,UM, ]
   (try (apply hK';clear hK' K'))
   refine stop_ok rfl (ok_appT rfl rfl un9 el93 by93 ez93 rfl rfl rfl (by omega) g1 g2) ?_
   simp only [WE,simprocAttr,  hm1]
   (repeat (constructor;focus (clear hK';intros;simp_all;done)))
   (try (apply hK';clear hK' K'))
   repeat' (first|(with_reducible apply zz1)|((with_reducible apply zz2);rfl;intro K' hK';simp only [WE,simprocAttr];(repeat (constructor;focus (clear hK';intros;simp_all;done)));(try (apply hK';clear hK' K')))|((with_reducible apply zz3);rfl;all_goals (intro h;try exact absurd h (by decide))))
   simp only [KretS,retL,retOne,oneV,US,WE,simprocAttr,h0]
end Go.Proofs.YtdcplkefmpjppaaDoor.GG
