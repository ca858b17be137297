/- contracts: pairs compared -/
import Derived.Test.YtaoakololkcepaaBD
import Derived.Test.YtaoakololkcepaaB17
import Derived.Test.YtaoakololkcepaaYN
set_option linter.unusedSimpArgs false
set_option linter.unusedVariables false
namespace Go.Proofs.Ytaoakololkcepaa
open Go.RowKit
attribute [local irreducible] WA WOs WDs WAn qThen qBlock tput
set_option maxHeartbeats 1000000
set_option maxRecDepth 20000
set_option linter.unusedSimpArgs false
set_option linter.unusedVariables false
theorem cmpP_eq (p q : Pr) : cmpP p q = if cmpI (p.1 : Int) (q.1 : Int) ≠ 0 then cmpI (p.1 : Int) (q.1 : Int) else cmpI (p.2 : Int) (q.2 : Int) := by
  have e : ∀ x y : Nat, cmpN x y = cmpI (x : Int) (y : Int) := fun x y => by
    unfold cmpN cmpI
    (repeat' split) <;> omega
  unfold cmpP
  rw [e, e]

theorem scompare_c (x y u v : Int) (m : Mem) : Gives Try.prog 107 [.lst [[.int .i64 x], [.int .i64 y]], .lst [[.int .i64 u], [.int .i64 v]]] m (.int .i64 (if cmpI x u ≠ 0 then cmpI x u else cmpI y v)) := by
  generalize h1 : cmpI x u = c1
  generalize h2 : cmpI y v = c2
  have hq := fun m => ccompare_c x u m
  refine Gives_in Try.func107 rfl Try.ntmps107 Try.results107 (by kernel_rfl) (by simp) rfl fun Q hQ => ?_
  (repeat' (first | (refine sx ?_ ?_ <;> intro h <;> first | (exfalso; omega) | skip) | (refine g_op ?_; refine g_call ?_; refine g_args ?_; (first | refine s_fn (ccompare_c _ _ _) ?_) <;> try first | omega | assumption) | refine ny ?_ | refine WA_block ?_))
  refine WA_rounds 3 ?_
  (repeat' (first | (refine sx ?_ ?_ <;> intro h <;> first | (exfalso; omega) | skip) | (refine g_op ?_; refine g_call ?_; refine g_args ?_; (first | refine s_fn (ccompare_c _ _ _) ?_) <;> try first | omega | assumption) | refine ny ?_ | refine WA_block ?_))
  all_goals (try (exfalso; omega))
  all_goals ((refine r_es hQ ?_; try with_reducible rfl))
  all_goals (refine congrArg (V.int .i64) ?_; (repeat (first | rw [if_pos (by first | assumption | omega | grind)] | rw [if_neg (by first | assumption | omega | grind)])); try omega)
theorem uB64_106_1 {N : Nat} {l : List Oper} {t : List (Nat × V)} {m : Mem} {Q : Exit → List (Nat × V) → Mem → Prop} (h : RgN Try.prog N l t m Q (fun i => if i == 2 then .q else .p) [.one 0, .one 1, .one 2, .one 3]) : WA Try.prog N (.region 1 l.toArray true) t m Q := d_rgN h
theorem gdis1_c (p q : Pr) (m : Mem) : Gives Try.prog 106 [.agg (prV p), .agg (prV q)] m (.int .i64 (cmpP p q)) := by
  rw [cmpP_eq]
  unfold prV
  refine Gives_in Try.func106 rfl Try.ntmps106 Try.results106 (by kernel_rfl) (by simp) rfl fun Q hQ => ?_
  refine WA_stop fun K0 hK0 => ?_
  (repeat' (first | (refine sx ?_ ?_ <;> intro h <;> first | (exfalso; omega) | skip) | (refine g_op ?_; refine g_call ?_; refine g_args ?_; (first | refine s_fn (scompare_c _ _ _ _ _) ?_) <;> try first | omega | assumption) | refine ny ?_ | refine WA_block ?_ | (refine uB64_106_1 ?_; refine ⟨by kernel_rfl, ?_⟩) | ((first | refine grp_cons (fun _ => scompare_c _ _ _ _ _) ?_) <;> try first | omega | assumption) | (refine g_d ?_; refine d_args ?_; (first | refine d_fn (scompare_c _ _ _ _ _) ?_ | refine d_fnQ (fun _ => scompare_c _ _ _ _ _) ?_) <;> try first | omega | assumption) | (refine g_d ?_; (first | refine d_fnY (scompare_c _ _ _ _ _) ?_) <;> try first | omega | assumption)))
  refine hK0 _ _ ?_
  refine WA_fzM (j := 0) rfl ?_
  simp only [List.map_cons, List.map_nil, frzV, frzC, List.set_cons_succ, List.set_cons_zero, argT]
  refine WA_fzM (j := 1) rfl ?_
  simp only [List.map_cons, List.map_nil, frzV, frzC, List.set_cons_succ, List.set_cons_zero, argT]
  (repeat' (first | (refine sx ?_ ?_ <;> intro h <;> first | (exfalso; omega) | skip) | (refine g_op ?_; refine g_call ?_; refine g_args ?_; (first | refine s_fn (scompare_c _ _ _ _ _) ?_) <;> try first | omega | assumption) | refine ny ?_ | refine WA_block ?_ | (refine uB64_106_1 ?_; refine ⟨by kernel_rfl, ?_⟩) | ((first | refine grp_cons (fun _ => scompare_c _ _ _ _ _) ?_) <;> try first | omega | assumption) | (refine g_d ?_; refine d_args ?_; (first | refine d_fn (scompare_c _ _ _ _ _) ?_ | refine d_fnQ (fun _ => scompare_c _ _ _ _ _) ?_) <;> try first | omega | assumption) | (refine g_d ?_; (first | refine d_fnY (scompare_c _ _ _ _ _) ?_) <;> try first | omega | assumption)))
  all_goals ((refine r_es hQ ?_; try with_reducible rfl))
end Go.Proofs.Ytaoakololkcepaa
