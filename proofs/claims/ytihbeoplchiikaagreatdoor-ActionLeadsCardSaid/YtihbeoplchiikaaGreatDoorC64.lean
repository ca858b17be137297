/- contract: the choice of leads -/
import Derived.Test.YtihbeoplchiikaaGreatDoorC62
import Derived.Test.YtihbeoplchiikaaGreatDoorC66
import Derived.Test.YtihbeoplchiikaaGreatDoorC27
set_option linter.unusedSimpArgs false
set_option linter.unusedVariables false
namespace Go.Proofs.YtihbeoplchiikaaGreatDoor
open Go.RowKit
attribute [local irreducible] WA WOs WDs WAn qThen qBlock tput
set_option maxHeartbeats 1000000
set_option maxRecDepth 20000
set_option linter.unusedSimpArgs false
set_option linter.unusedVariables false
set_option maxHeartbeats 8000000
attribute [local irreducible] smB cut sm
def chL (a : ActR) (holes : List (Int × Int)) (dn up : Int) : List Nat × Int :=
  if acErr a ≠ 0 then ([], acErr a) else if ldsErr holes ≠ 0 then ([], ldsErr holes) else if winErr dn up ≠ 0 then ([], winErr dn up) else
  if (touP a 0).isSome = false then ([], 8) else match bstL (accB a holes dn up) (2 ^ holes.length) with
    | none => ([], 12)
    | some l => (l, 0)
def chV (p : List Nat × Int) : V := .tup [.lst (nlV p.1), .int .i64 p.2]
theorem Gives_w0 {P : Program} {f : FuncId} {u u' : V} {vs : List V} {m : Mem} {v : V} (hu : WkV u u') (h : Gives P f (u' :: vs) m v) : Gives P f (u :: vs) m v := by
  refine ⟨h.1, fun w ρ xs hM hA => h.2 w ρ xs hM ⟨by simpa using hA.1, fun i v x h1 h2 => ?_⟩⟩
  cases i with
  | zero =>
    simp only [List.getElem?_cons_zero, Option.some.injEq] at h1
    subst h1
    exact hu _ _ _ _ (hA.2 0 u x rfl h2)
  | succ i => exact hA.2 (i + 1) v x h1 h2
theorem shl1 {m : Mem} {n : Nat} (h : n ≤ 5) : evB Tryz.prog m .shl 65 (.int .u64 1) (.int .i64 n) = some (True, .int .u64 ((2 ^ n : Nat) : Int), m) := by
  have q : evEq Tryz.prog .shl 65 (.int .u64 1) (.int .i64 n) = none := rfl
  unfold evB
  rw [q]
  simp only [evBin]
  have h1 : (0 : Int) ≤ (n : Int) := Int.natCast_nonneg n
  match n, h with
  | 0, _ => simp only [h1]; rfl
  | 1, _ => simp only [h1]; rfl
  | 2, _ => simp only [h1]; rfl
  | 3, _ => simp only [h1]; rfl
  | 4, _ => simp only [h1]; rfl
  | 5, _ => simp only [h1]; rfl
def fq0 : TB := .cells .own 42 2 [[.v (.int .i64 0), .v (.int .i64 1)]]
def winT (dn up : Int) : TB := .cells .own 28 2 [[.v (.int .i64 dn), .v (.int .i64 up)]]
def bsV : Option (List Nat) → V
  | none => .nilsl
  | some l => .lst (nlV l)
def loE (a : ActR) (dn up : Int) : List TB := [actT a, winT dn up, fq0]
def loS (holes : List (Int × Int)) (b : Option (List Nat)) (l : List V) : List TV := [.v (.lst (ldsV holes)), .ptr 0 0 0, .ptr 1 0 0, .ptr 2 0 0, .v (bsV b), .v (.bool b.isSome)] ++ l.map TV.v
theorem loE_ok {a : ActR} {dn up : Int} : (loE a dn up).all (TB.ok (loE a dn up).length) = true := by
  unfold loE actT winT fq0
  simp only [List.all_cons, TB.ok, TV.okT, List.all_nil, Bool.and_true, Bool.and_self, tv_ok, List.length_cons, List.length_nil]
theorem loS_ok {a : ActR} {dn up : Int} {holes : List (Int × Int)} {b : Option (List Nat)} {l : List V} : (loS holes b l).all (TV.okT (loE a dn up).length) = true := by
  unfold loS loE
  rw [List.all_append]
  simp [TV.okT]
theorem bst_skip {acc : List Nat → Bool} {s : Nat} (h : acc (mem s) = false ∨ ∃ b, bstL acc s = some b ∧ 0 < cmpK (mem s) b) : bstL acc (s + 1) = bstL acc s := by
  rw [bstL]
  rcases h with h | ⟨b, hb, h⟩
  · rw [h]
    cases bstL acc s <;> simp
  · rw [hb]
    dsimp only
    rw [if_neg (by omega)]
theorem bst_take {acc : List Nat → Bool} {s : Nat} (h : acc (mem s) = true) (h2 : ∀ b, bstL acc s = some b → cmpK (mem s) b ≤ 0) : bstL acc (s + 1) = some (mem s) := by
  rw [bstL]
  cases hb : bstL acc s with
  | none => dsimp only; rw [if_pos h]
  | some b => dsimp only; rw [if_pos ⟨h, h2 b hb⟩]
def xlSt (o : Bool) (p : List (Int × Int)) : TV := match o with
  | false => .v .nilsl
  | true => .sl 4 p.length
def xlEx (o : Bool) (p : List (Int × Int)) : List TB := match o with
  | false => []
  | true => [.cells .own 72 2 ((ldsV p).map (List.map TV.v))]
def inE (a : ActR) (dn up : Int) (o : Bool) (p : List (Int × Int)) : List TB := actT a :: winT dn up :: fq0 :: .cells .own 26 4 [[.v (.int .i64 a.dip), .v (.lst (prtsV a.parts)), .v (.lst (evsV a.evs)), xlSt o p]] :: xlEx o p
def inS (holes : List (Int × Int)) (b : Option (List Nat)) (l : List V) : List TV := [.v (.lst (ldsV holes)), .ptr 0 0 0, .ptr 1 0 0, .ptr 2 0 0, .v (bsV b), .v (.bool b.isSome), .ptr 3 0 0] ++ l.map TV.v
theorem inE_ok {a : ActR} {dn up : Int} {o : Bool} {p : List (Int × Int)} : (inE a dn up o p).all (TB.ok (inE a dn up o p).length) = true := by
  unfold inE actT winT fq0
  cases o with
  | false => simp only [xlEx, xlSt, List.all_cons, TB.ok, TV.okT, List.all_nil, Bool.and_true, Bool.and_self, tv_ok, List.length_cons, List.length_nil]
  | true => simp only [xlEx, xlSt, List.all_cons, TB.ok, TV.okT, List.all_nil, Bool.and_true, Bool.and_self, tv_ok, List.length_cons, List.length_nil]; decide
theorem inS_ok {a : ActR} {dn up : Int} {o : Bool} {p : List (Int × Int)} {holes : List (Int × Int)} {b : Option (List Nat)} {l : List V} : (inS holes b l).all (TV.okT (inE a dn up o p).length) = true := by
  unfold inS inE
  rw [List.all_append]
  simp [TV.okT]
theorem fin_chV {m0 D : Mem} {l : List Nat} {e : Int} {R : V → Option Mem → Prop} (hR : R (.tup [.lst (nlV l), .int .i64 e]) none) : Fin m0 R (.tup [.lst (nlV l), .int .i64 e]) (lend m0 ++ D) := by
  have h := nlV_plain l
  have hl : V.plain (.lst (nlV l)) = true := by simpa [V.plain] using h
  exact .inr ⟨D, _, rfl, by simp [frz, frzs, h, V.plain], hR⟩
theorem uC64_6_26 {N : Nat} {l : List Oper} {t : List (Nat × V)} {m : Mem} {Q : Exit → List (Nat × V) → Mem → Prop} (h : RgN Tryz.prog N l t m Q (fun i => if i == 7 || i == 9 then .w else if i == 6 then .a else if i == 1 || i == 5 then .q else .p) [.one 0, .one 1, .one 2, .one 3, .one 4, .one 5, .one 6, .one 7, .one 8, .one 9]) : WA Tryz.prog N (.region 26 l.toArray true) t m Q := d_rgN h
theorem achoose_c (a : ActR) (ha : Lt a) (holes : List (Int × Int)) (h5 : holes.length ≤ 5 ∨ 8 < holes.length) (hN : holes.length ≤ 1000) (dn up : Int) (m : Mem) : Gives Tryz.prog 6 [.agg (actV a), .lst (ldsV holes), .agg [.int .i64 dn, .int .i64 up]] m (chV (chL a holes dn up)) := by
  suffices key : CallA Tryz.prog 6 [.agg (actV a), .lst (ldsV holes), .agg [.int .i64 dn, .int .i64 up]] m (fun v mo => mo = none ∧ WkV v (chV (chL a holes dn up))) from Gives_of key fun v mo h => h
  have hll := ldsV_length (l := holes)
  have hsh := hll
  have hca := fun m => acheckaction_c a ha m
  have hcl := fun m => acheckleads_c holes m
  have hcw := fun m => acheckwin_c dn up m
  have hto := hll
  have wkn : ∀ e, WkV (.tup [.nilsl, .int .i64 e]) (chV ([], e)) := fun e => wk_tup ⟨wk_nil, WkV.refl _, trivial⟩
  refine CallA_in Tryz.func6 rfl Tryz.ntmps6 Tryz.results6 (by kernel_rfl) (by simp) fun Q hQ => ?_
  unfold chL at hQ
  by_cases e1 : acErr a = 0
  case neg =>
    rw [if_pos e1] at hQ
    generalize acErr a = ae at *
    unfold actV at *
    (have FX := And.intro hll hsh; repeat' (first | (refine sx ?_ ?_ <;> intro h <;> first | (exfalso; omega) | skip) | (refine g_op ?_; refine g_call ?_; refine g_args ?_; (first | refine s_fn (hca _) ?_ | refine s_fn (hcl _) ?_ | refine s_fn (hcw _) ?_ | refine s_fn (awhole_c _ _) ?_ | refine s_fn (hto _) ?_) <;> try first | omega | assumption) | refine ny ?_ | refine WA_block ?_ | (refine uC64_6_26 ?_; refine ⟨by kernel_rfl, ?_⟩) | ((first | refine grp_cons (fun _ => hca _) ?_ | refine grp_cons (fun _ => hcl _) ?_ | refine grp_cons (fun _ => hcw _) ?_ | refine grp_cons (fun _ => awhole_c _ _) ?_ | refine grp_cons (fun _ => hto _) ?_) <;> try first | omega | assumption) | (refine g_d ?_; refine d_args ?_; (first | refine d_fn (hca _) ?_ | refine d_fn (hcl _) ?_ | refine d_fn (hcw _) ?_ | refine d_fn (awhole_c _ _) ?_ | refine d_fn (hto _) ?_ | refine d_fnQ (fun _ => hca _) ?_ | refine d_fnQ (fun _ => hcl _) ?_ | refine d_fnQ (fun _ => hcw _) ?_ | refine d_fnQ (fun _ => awhole_c _ _) ?_ | refine d_fnQ (fun _ => hto _) ?_) <;> try first | omega | assumption) | (refine g_d ?_; (first | refine d_fnY (hca _) ?_ | refine d_fnY (hcl _) ?_ | refine d_fnY (hcw _) ?_ | refine d_fnY (awhole_c _ _) ?_ | refine d_fnY (hto _) ?_) <;> try first | omega | assumption)))
    all_goals (try (exfalso; omega))
    all_goals (refine r_esA hQ (.inl ⟨rfl, rfl, wkn _⟩))
  rw [if_neg (by omega)] at hQ
  by_cases e2 : ldsErr holes = 0
  case neg =>
    rw [if_pos e2] at hQ
    rw [e1] at hca
    generalize ldsErr holes = ae at *
    unfold actV at *
    (have FX := And.intro hll hsh; repeat' (first | (refine sx ?_ ?_ <;> intro h <;> first | (exfalso; omega) | skip) | (refine g_op ?_; refine g_call ?_; refine g_args ?_; (first | refine s_fn (hca _) ?_ | refine s_fn (hcl _) ?_ | refine s_fn (hcw _) ?_ | refine s_fn (awhole_c _ _) ?_ | refine s_fn (hto _) ?_) <;> try first | omega | assumption) | refine ny ?_ | refine WA_block ?_ | (refine uC64_6_26 ?_; refine ⟨by kernel_rfl, ?_⟩) | ((first | refine grp_cons (fun _ => hca _) ?_ | refine grp_cons (fun _ => hcl _) ?_ | refine grp_cons (fun _ => hcw _) ?_ | refine grp_cons (fun _ => awhole_c _ _) ?_ | refine grp_cons (fun _ => hto _) ?_) <;> try first | omega | assumption) | (refine g_d ?_; refine d_args ?_; (first | refine d_fn (hca _) ?_ | refine d_fn (hcl _) ?_ | refine d_fn (hcw _) ?_ | refine d_fn (awhole_c _ _) ?_ | refine d_fn (hto _) ?_ | refine d_fnQ (fun _ => hca _) ?_ | refine d_fnQ (fun _ => hcl _) ?_ | refine d_fnQ (fun _ => hcw _) ?_ | refine d_fnQ (fun _ => awhole_c _ _) ?_ | refine d_fnQ (fun _ => hto _) ?_) <;> try first | omega | assumption) | (refine g_d ?_; (first | refine d_fnY (hca _) ?_ | refine d_fnY (hcl _) ?_ | refine d_fnY (hcw _) ?_ | refine d_fnY (awhole_c _ _) ?_ | refine d_fnY (hto _) ?_) <;> try first | omega | assumption)))
    all_goals (try (exfalso; omega))
    all_goals (refine r_esA hQ (.inl ⟨rfl, rfl, wkn _⟩))
  rw [if_neg (by omega)] at hQ
  by_cases e3 : winErr dn up = 0
  case neg =>
    rw [if_pos e3] at hQ
    rw [e1] at hca
    rw [e2] at hcl
    generalize winErr dn up = ae at *
    unfold actV at *
    (have FX := And.intro hll hsh; repeat' (first | (refine sx ?_ ?_ <;> intro h <;> first | (exfalso; omega) | skip) | (refine g_op ?_; refine g_call ?_; refine g_args ?_; (first | refine s_fn (hca _) ?_ | refine s_fn (hcl _) ?_ | refine s_fn (hcw _) ?_ | refine s_fn (awhole_c _ _) ?_ | refine s_fn (hto _) ?_) <;> try first | omega | assumption) | refine ny ?_ | refine WA_block ?_ | (refine uC64_6_26 ?_; refine ⟨by kernel_rfl, ?_⟩) | ((first | refine grp_cons (fun _ => hca _) ?_ | refine grp_cons (fun _ => hcl _) ?_ | refine grp_cons (fun _ => hcw _) ?_ | refine grp_cons (fun _ => awhole_c _ _) ?_ | refine grp_cons (fun _ => hto _) ?_) <;> try first | omega | assumption) | (refine g_d ?_; refine d_args ?_; (first | refine d_fn (hca _) ?_ | refine d_fn (hcl _) ?_ | refine d_fn (hcw _) ?_ | refine d_fn (awhole_c _ _) ?_ | refine d_fn (hto _) ?_ | refine d_fnQ (fun _ => hca _) ?_ | refine d_fnQ (fun _ => hcl _) ?_ | refine d_fnQ (fun _ => hcw _) ?_ | refine d_fnQ (fun _ => awhole_c _ _) ?_ | refine d_fnQ (fun _ => hto _) ?_) <;> try first | omega | assumption) | (refine g_d ?_; (first | refine d_fnY (hca _) ?_ | refine d_fnY (hcl _) ?_ | refine d_fnY (hcw _) ?_ | refine d_fnY (awhole_c _ _) ?_ | refine d_fnY (hto _) ?_) <;> try first | omega | assumption)))
    all_goals (try (exfalso; omega))
    all_goals (refine r_esA hQ (.inl ⟨rfl, rfl, wkn _⟩))
  rw [if_neg (by omega)] at hQ
  have hto := fun m => atouch_c a ha e1 0 sm_zero m
  have hz1 : (0 : Rat).num = 0 := rfl
  have hz2 : ((0 : Rat).den : Int) = 1 := rfl
  rw [hz1, hz2] at hto
  rw [e1] at hca
  rw [e2] at hcl
  rw [e3] at hcw
  unfold touV at hto
  cases htp : touP a 0 with
  | none =>
    rw [htp] at hQ hto
    dsimp only [touO] at hto
    rw [if_pos (show Option.isSome (none : Option (Rat × Rat)) = false from rfl)] at hQ
    unfold actV at *
    (have FX := And.intro hll hsh; repeat' (first | (refine sx ?_ ?_ <;> intro h <;> first | (exfalso; omega) | skip) | (refine g_op ?_; refine g_call ?_; refine g_args ?_; (first | refine s_fn (hca _) ?_ | refine s_fn (hcl _) ?_ | refine s_fn (hcw _) ?_ | refine s_fn (awhole_c _ _) ?_ | refine s_fn (hto _) ?_) <;> try first | omega | assumption) | refine ny ?_ | refine WA_block ?_ | (refine uC64_6_26 ?_; refine ⟨by kernel_rfl, ?_⟩) | ((first | refine grp_cons (fun _ => hca _) ?_ | refine grp_cons (fun _ => hcl _) ?_ | refine grp_cons (fun _ => hcw _) ?_ | refine grp_cons (fun _ => awhole_c _ _) ?_ | refine grp_cons (fun _ => hto _) ?_) <;> try first | omega | assumption) | (refine g_d ?_; refine d_args ?_; (first | refine d_fn (hca _) ?_ | refine d_fn (hcl _) ?_ | refine d_fn (hcw _) ?_ | refine d_fn (awhole_c _ _) ?_ | refine d_fn (hto _) ?_ | refine d_fnQ (fun _ => hca _) ?_ | refine d_fnQ (fun _ => hcl _) ?_ | refine d_fnQ (fun _ => hcw _) ?_ | refine d_fnQ (fun _ => awhole_c _ _) ?_ | refine d_fnQ (fun _ => hto _) ?_) <;> try first | omega | assumption) | (refine g_d ?_; (first | refine d_fnY (hca _) ?_ | refine d_fnY (hcl _) ?_ | refine d_fnY (hcw _) ?_ | refine d_fnY (awhole_c _ _) ?_ | refine d_fnY (hto _) ?_) <;> try first | omega | assumption)))
    all_goals (try (exfalso; omega))
    all_goals (refine r_esA hQ (.inl ⟨rfl, rfl, wkn _⟩))
  | some pq =>
    obtain ⟨p, q⟩ := pq
    rw [htp] at hQ hto
    dsimp only [touO] at hto
    rw [if_neg (show ¬ Option.isSome (some (p, q)) = false by simp)] at hQ
    have hn8 : holes.length ≤ 5 := by
      rcases h5 with h | h
      · exact h
      · unfold ldsErr at e2
        rw [if_pos h] at e2
        omega
    have hsh := fun m => shl1 (m := m) hn8
    unfold actV at *
    (have FX := And.intro hll hsh; repeat' (first | (refine sx ?_ ?_ <;> intro h <;> first | (exfalso; omega) | skip) | (refine g_op ?_; refine g_call ?_; refine g_args ?_; (first | refine s_fn (hca _) ?_ | refine s_fn (hcl _) ?_ | refine s_fn (hcw _) ?_ | refine s_fn (awhole_c _ _) ?_ | refine s_fn (hto _) ?_) <;> try first | omega | assumption) | refine ny ?_ | refine WA_block ?_ | (refine uC64_6_26 ?_; refine ⟨by kernel_rfl, ?_⟩) | ((first | refine grp_cons (fun _ => hca _) ?_ | refine grp_cons (fun _ => hcl _) ?_ | refine grp_cons (fun _ => hcw _) ?_ | refine grp_cons (fun _ => awhole_c _ _) ?_ | refine grp_cons (fun _ => hto _) ?_) <;> try first | omega | assumption) | (refine g_d ?_; refine d_args ?_; (first | refine d_fn (hca _) ?_ | refine d_fn (hcl _) ?_ | refine d_fn (hcw _) ?_ | refine d_fn (awhole_c _ _) ?_ | refine d_fn (hto _) ?_ | refine d_fnQ (fun _ => hca _) ?_ | refine d_fnQ (fun _ => hcl _) ?_ | refine d_fnQ (fun _ => hcw _) ?_ | refine d_fnQ (fun _ => awhole_c _ _) ?_ | refine d_fnQ (fun _ => hto _) ?_) <;> try first | omega | assumption) | (refine g_d ?_; (first | refine d_fnY (hca _) ?_ | refine d_fnY (hcl _) ?_ | refine d_fnY (hcw _) ?_ | refine d_fnY (awhole_c _ _) ?_ | refine d_fnY (hto _) ?_) <;> try first | omega | assumption)))
    all_goals (try (exfalso; omega))
    refine WA_ren (L := lend m) (ks := [1, 3, 5, 11, 14, 15, 48, 49]) (vs := loS holes none [.int .u64 ((2 ^ holes.length : Nat) : Int), .int .u64 ((0 : Nat) : Int)]) (Ts := loE a dn up) (js := [0, 1, 2]) ⟨_, rfl, ?_, ?_, by decide⟩ (by decide) loS_ok loE_ok ?_
    · simp only [loS, bsV, Option.isSome_none, List.map_cons, List.map_nil, List.cons_append, List.nil_append, TV.inst, List.getD_cons_zero, List.getD_cons_succ]
      exact tv_
    · simp only [loE, actT, winT, fq0, List.map_cons, List.map_nil, TB.inst, TV.inst, tv_map]
      rfl
    rintro B1 ⟨D1, hB1⟩
    refine WA_whileT (σ := Nat) (L := B1) [1, 3, 5, 11, 14, 15, 48, 49] (fun s => loS holes (bstL (accB a holes dn up) s) [.int .u64 ((2 ^ holes.length : Nat) : Int), .int .u64 ((s : Nat) : Int)]) (fun _ => loE a dn up) (fun s => s ≤ 2 ^ holes.length) (fun s => 2 ^ holes.length - s) 0 (Nat.zero_le _) ?_ rfl (by decide) (fun _ _ => loS_ok) (fun _ _ => loE_ok) ?_
    · simp only [loS, bsV, bstL, zipT, Option.isSome_none, List.map_cons, List.map_nil, List.cons_append, List.nil_append, TV.inst]
      exact tv_
    rintro s hs B ⟨D, hB⟩ K hK
    have hBm : B = lend m ++ (D1 ++ D) := by rw [hB, hB1, List.append_assoc]
    clear FX hsh hca hcl hcw hto
    have hpw : 2 ^ holes.length ≤ 2 ^ 5 := Nat.pow_le_pow_right (by decide) hn8
    have hO := ord_ok hn8
    rcases Nat.lt_or_ge s (2 ^ holes.length) with hlt | hge
    · have hmm := fun m => amembers_c s (by omega) m
      have hmL := (hO.lt (mem s) (hO.has s hlt))
      have hml5 : (mem s).length ≤ 5 := by omega
      have hmn : ∀ i ∈ mem s, i < holes.length := hmL.1
      have hsk := fun h => bst_skip (acc := accB a holes dn up) (s := s) h
      have htk := fun h1 h2 => bst_take (acc := accB a holes dn up) (s := s) h1 h2
      have hb5 : ∀ b, bstL (accB a holes dn up) s = some b → b.length ≤ 5 := fun b hb => by
        have := hO.lt b ((bst_inv _ hO s hs).2 b hb).2.1
        omega
      have hnx := hK (s + 1)
      have h8a : 8 < a.leads.length + (mem s).length → accB a holes dn up (mem s) = false := fun h => by
        unfold accB
        rw [decide_eq_false (by omega)]
        rfl
      have hac2 : a.leads.length + (mem s).length ≤ 8 → accB a holes dn up (mem s) = decide (fitE (addL a holes (mem s)) dn up 0 = 0) := fun h => by
        unfold accB
        rw [decide_eq_true h]
        rfl
      have hal8 : a.leads.length ≤ 8 := by
        have := ac_leads e1
        unfold ldsErr at this
        split at this
        · omega
        · omega
      clear hK hmL
      generalize bstL (accB a holes dn up) s = bb at *
      generalize bstL (accB a holes dn up) (s + 1) = bn at *
      generalize mem s = l at *
      generalize accB a holes dn up l = al at *
      have hnl : (nlV l).length = l.length := nlV_length
      have hle := ldsV_length (l := a.leads)
      refine WA_cutT2 (σ := Unit) (L := B) [1, 3, 5, 11, 14, 15, 48, 49] (fun _ => loS holes bb [.int .u64 ((2 ^ holes.length : Nat) : Int), .int .u64 ((s : Nat) : Int)]) (fun _ => loE a dn up) (fun _ => True) (by decide) (fun _ _ => loS_ok) (fun _ _ => loE_ok) (fun K1 hK1 => ?_) (fun _ _ B2 hB2 => ?_)
      · simp only [loS, loE, actT, winT, fq0]
        simp only [List.map_cons, List.map_nil, TB.inst, TV.inst, tv_map, zipT, List.cons_append, List.nil_append, Nat.add_zero]
        (have FX := hll; repeat' (first | (refine sx ?_ ?_ <;> intro h <;> first | (exfalso; omega) | skip) | refine ny ?_ | refine WA_block ?_ | (refine uC64_6_26 ?_; refine ⟨by kernel_rfl, ?_⟩)))
        all_goals (try (exfalso; omega))
        all_goals ((refine nextU_ hK1 (()) [0, 1, 2] (trivial) (trivial) ?_ (ht := ?_); (focus (simp only [loE, actT, winT, fq0, List.map_cons, List.map_nil, TB.inst, TV.inst, tv_map, List.cons_append, List.nil_append]; first | rfl | (simp [ptsV, ptV]; done) | (simp [hpsV, hpV]; done) | (simp [frsV, frV]; done) | (simp [txV]; done) | (simp [prtsV, prtV]; done))); (simp only [loS, List.cons_append, List.nil_append, List.map_cons, List.map_nil, TV.inst, List.getD_cons_zero, List.getD_cons_succ]; exact tv_)))
      · refine WA_seq' (WA_block ?_)
        refine WA_cutT2 (σ := Unit) (L := B2) [1, 3, 5, 11, 14, 15, 17, 48, 49] (fun _ => loS holes bb [.lst (nlV l), .int .u64 ((2 ^ holes.length : Nat) : Int), .int .u64 ((s : Nat) : Int)]) (fun _ => loE a dn up) (fun _ => True) (by decide) (fun _ _ => loS_ok) (fun _ _ => loE_ok) (fun K1 hK1 => ?_) (fun _ _ B3 hB3 => ?_)
        · simp only [loS, loE, actT, winT, fq0]
          simp only [List.map_cons, List.map_nil, TB.inst, TV.inst, tv_map, zipT, List.cons_append, List.nil_append, Nat.add_zero]
          (have FX := hll; repeat' (first | (refine sx ?_ ?_ <;> intro h <;> first | (exfalso; omega) | skip) | (refine g_op ?_; refine g_call ?_; refine g_args ?_; (first | refine s_fn (hmm _) ?_) <;> try first | omega | assumption) | refine ny ?_ | refine WA_block ?_ | (refine uC64_6_26 ?_; refine ⟨by kernel_rfl, ?_⟩) | ((first | refine grp_cons (fun _ => hmm _) ?_) <;> try first | omega | assumption) | (refine g_d ?_; refine d_args ?_; (first | refine d_fn (hmm _) ?_ | refine d_fnQ (fun _ => hmm _) ?_) <;> try first | omega | assumption) | (refine g_d ?_; (first | refine d_fnY (hmm _) ?_) <;> try first | omega | assumption)))
          all_goals (try (exfalso; omega))
          all_goals ((refine nextU_ hK1 (()) [0, 1, 2] (trivial) (trivial) ?_ (ht := ?_); (focus (simp only [loE, actT, winT, fq0, List.map_cons, List.map_nil, TB.inst, TV.inst, tv_map, List.cons_append, List.nil_append]; first | rfl | (simp [ptsV, ptV]; done) | (simp [hpsV, hpV]; done) | (simp [frsV, frV]; done) | (simp [txV]; done) | (simp [prtsV, prtV]; done))); (simp only [loS, List.cons_append, List.nil_append, List.map_cons, List.map_nil, TV.inst, List.getD_cons_zero, List.getD_cons_succ]; exact tv_)))
        · have hB3' : ∃ D, B3 = B ++ D := by
            obtain ⟨D2, hB2⟩ := hB2
            obtain ⟨D3, hB3⟩ := hB3
            exact ⟨D2 ++ D3, by rw [hB3, hB2, List.append_assoc]⟩
          obtain ⟨D3, hBB3⟩ := hB3'
          have hnx3 := fun js t' m' (h : RoundEndT B3 [1, 3, 5, 11, 14, 15, 48, 49] (loS holes bn [.int .u64 ((2 ^ holes.length : Nat) : Int), .int .u64 ((s + 1 : Nat) : Int)]) (loE a dn up) js t' m') => hnx (js.map (D3.length + ·)) t' m' (RoundEndT_up (by rw [hBB3] at h; exact h) loS_ok loE_ok)
          have hny3 := fun (_ : Unit) => hnx3
          refine WA_cutT1 (σ := Unit) (L := B3) [1, 3, 5, 11, 14, 15, 17, 48, 49] (fun _ => loS holes bb [.lst (nlV l), .int .u64 ((2 ^ holes.length : Nat) : Int), .int .u64 ((s : Nat) : Int)]) (fun _ => loE a dn up) (fun _ => a.leads.length + l.length ≤ 8 ∧ ∀ b, bb = some b → cmpK l b ≤ 0) (by decide) (fun _ _ => loS_ok) (fun _ _ => loE_ok) (fun K1 hK1 => ?_) (fun _ hin B4 hB4 => ?_)
          · have hin4 : True := trivial
            cases bb with
            | none =>
              simp only [loS, loE, actT, winT, fq0, bsV, Option.isSome_none]
              simp only [List.map_cons, List.map_nil, TB.inst, TV.inst, tv_map, zipT, List.cons_append, List.nil_append, Nat.add_zero]
              (have FX := And.intro hnl hle; repeat' (first | (refine sx ?_ ?_ <;> intro h <;> first | (exfalso; omega) | skip) | refine ny ?_ | refine WA_block ?_ | (refine uC64_6_26 ?_; refine ⟨by kernel_rfl, ?_⟩)))
              all_goals (try (exfalso; omega))
              all_goals first
                | (have e := hsk (.inl (h8a (by omega)))
                   subst e
                   (refine nextU_ hny3 (()) [0, 1, 2] (hlt) (by omega) ?_ (ht := ?_); (focus (simp only [loE, actT, winT, fq0, List.map_cons, List.map_nil, TB.inst, TV.inst, tv_map, List.cons_append, List.nil_append]; first | rfl | (simp [ptsV, ptV]; done) | (simp [hpsV, hpV]; done) | (simp [frsV, frV]; done) | (simp [txV]; done) | (simp [prtsV, prtV]; done))); (simp only [loS, bsV, Option.isSome_none, Option.isSome_some, List.cons_append, List.nil_append, List.map_cons, List.map_nil, TV.inst, List.getD_cons_zero, List.getD_cons_succ]; exact tv_)))
                | ((refine nextU_ hK1 (()) [0, 1, 2] (⟨by omega, fun b h => by cases h⟩) (trivial) ?_ (ht := ?_); (focus (simp only [loE, actT, winT, fq0, List.map_cons, List.map_nil, TB.inst, TV.inst, tv_map, List.cons_append, List.nil_append]; first | rfl | (simp [ptsV, ptV]; done) | (simp [hpsV, hpV]; done) | (simp [frsV, frV]; done) | (simp [txV]; done) | (simp [prtsV, prtV]; done))); (simp only [loS, bsV, Option.isSome_none, Option.isSome_some, List.cons_append, List.nil_append, List.map_cons, List.map_nil, TV.inst, List.getD_cons_zero, List.getD_cons_succ]; exact tv_)))
            | some b =>
              have hb5 := hb5 b rfl
              have hnb : (nlV b).length = b.length := nlV_length
              have hcc := fun m => ccompare_c (l.length : Int) (b.length : Int) m
              have hsc := fun m => scompare_c l b (by omega) (by omega) m
              have hor := fun M k st hk => cor_c (cmpI (l.length : Int) (b.length : Int)) (lexC l b) M k st hk
              rw [cmpK_eq] at hor
              generalize cmpI (l.length : Int) (b.length : Int) = ci at *
              generalize lexC l b = lx at *
              simp only [loS, loE, actT, winT, fq0, bsV, Option.isSome_some]
              simp only [List.map_cons, List.map_nil, TB.inst, TV.inst, tv_map, zipT, List.cons_append, List.nil_append, Nat.add_zero]
              (have FX := And.intro hnl (And.intro hle hnb); repeat' (first | (refine sx ?_ ?_ <;> intro h <;> first | (exfalso; omega) | skip) | (refine g_op ?_; refine g_call ?_; refine g_args ?_; (first | refine s_fn (hcc _) ?_ | refine s_fn (hsc _) ?_ | refine s_fn (hor _ _ .own ?_) ?_) <;> try first | omega | assumption) | refine ny ?_ | refine WA_block ?_ | (refine uC64_6_26 ?_; refine ⟨by kernel_rfl, ?_⟩) | ((first | refine grp_cons (fun _ => hcc _) ?_ | refine grp_cons (fun _ => hsc _) ?_ | refine grp_cons (fun _ => hor _ _ .own ?_) ?_) <;> try first | omega | assumption) | (refine g_d ?_; refine d_args ?_; (first | refine d_fn (hcc _) ?_ | refine d_fn (hsc _) ?_ | refine d_fn (hor _ _ .own ?_) ?_ | refine d_fnQ (fun _ => hcc _) ?_ | refine d_fnQ (fun _ => hsc _) ?_ | refine d_fnQ (fun _ => hor _ _ .own ?_) ?_) <;> try first | omega | assumption) | (refine g_d ?_; (first | refine d_fnY (hcc _) ?_ | refine d_fnY (hsc _) ?_ | refine d_fnY (hor _ _ .own ?_) ?_) <;> try first | omega | assumption)))
              all_goals try (simp; done)
              all_goals (try (exfalso; omega))
              all_goals first
                | (have e := hsk (.inl (h8a (by omega)))
                   subst e
                   (refine nextU_ hny3 (()) [0, 1, 2] (hlt) (by omega) ?_ (ht := ?_); (focus (simp only [loE, actT, winT, fq0, List.map_cons, List.map_nil, TB.inst, TV.inst, tv_map, List.cons_append, List.nil_append]; first | rfl | (simp [ptsV, ptV]; done) | (simp [hpsV, hpV]; done) | (simp [frsV, frV]; done) | (simp [txV]; done) | (simp [prtsV, prtV]; done))); (simp only [loS, bsV, Option.isSome_none, Option.isSome_some, List.cons_append, List.nil_append, List.map_cons, List.map_nil, TV.inst, List.getD_cons_zero, List.getD_cons_succ]; exact tv_)))
                | (have e := hsk (.inr ⟨b, rfl, by omega⟩)
                   subst e
                   (refine nextU_ hny3 (()) [0, 1, 2] (hlt) (by omega) ?_ (ht := ?_); (focus (simp only [loE, actT, winT, fq0, List.map_cons, List.map_nil, TB.inst, TV.inst, tv_map, List.cons_append, List.nil_append]; first | rfl | (simp [ptsV, ptV]; done) | (simp [hpsV, hpV]; done) | (simp [frsV, frV]; done) | (simp [txV]; done) | (simp [prtsV, prtV]; done))); (simp only [loS, bsV, Option.isSome_none, Option.isSome_some, List.cons_append, List.nil_append, List.map_cons, List.map_nil, TV.inst, List.getD_cons_zero, List.getD_cons_succ]; exact tv_)))
                | ((refine nextU_ hK1 (()) [0, 1, 2] (⟨by omega, fun b' h => by cases h; omega⟩) (trivial) ?_ (ht := ?_); (focus (simp only [loE, actT, winT, fq0, List.map_cons, List.map_nil, TB.inst, TV.inst, tv_map, List.cons_append, List.nil_append]; first | rfl | (simp [ptsV, ptV]; done) | (simp [hpsV, hpV]; done) | (simp [frsV, frV]; done) | (simp [txV]; done) | (simp [prtsV, prtV]; done))); (simp only [loS, bsV, Option.isSome_none, Option.isSome_some, List.cons_append, List.nil_append, List.map_cons, List.map_nil, TV.inst, List.getD_cons_zero, List.getD_cons_succ]; exact tv_)))
          · obtain ⟨hl8, hck⟩ := hin
            have hB4' : ∃ D, B4 = B ++ D := by
              obtain ⟨D4, hB4⟩ := hB4
              exact ⟨D3 ++ D4, by rw [hB4, hBB3, List.append_assoc]⟩
            obtain ⟨D4, hBB4⟩ := hB4'
            have hac2 := hac2 hl8
            have hbsz : ∀ (b : Nat) (es : List (List V)), frzV b es (bsV bb) = bsV bb := fun b es => by cases bb <;> rfl
            clear hny3 hnx3 hb5
            simp only [loS, loE, actT, winT, fq0]
            simp only [List.map_cons, List.map_nil, TB.inst, TV.inst, tv_map, zipT, List.cons_append, List.nil_append, Nat.add_zero]
            (have FX := And.intro hnl hle; repeat' (first | (refine sx ?_ ?_ <;> intro h <;> first | (exfalso; omega) | skip) | refine ny ?_ | refine WA_block ?_ | (refine uC64_6_26 ?_; refine ⟨by kernel_rfl, ?_⟩)))
            refine g_op ?_; refine g_call ?_; refine g_args ?_; refine s_fnA (sclone_o a.leads (by omega) _) ?_
            rintro v mo (⟨h1, rfl, rfl⟩ | ⟨rfl, rfl⟩)
            all_goals simp only [List.length_append, List.length_cons, List.length_nil, Nat.add_assoc, Nat.reduceAdd, Option.getD_some, List.append_assoc, List.cons_append, List.nil_append, List.append_nil]
            all_goals (have FX := And.intro hnl hle; repeat' (first | (refine sx ?_ ?_ <;> intro h <;> first | (exfalso; omega) | skip) | refine ny ?_ | refine WA_block ?_ | (refine uC64_6_26 ?_; refine ⟨by kernel_rfl, ?_⟩)))
            all_goals clear FX
            all_goals first
              | refine WA_ren (L := B4) (ks := [1, 3, 5, 11, 14, 15, 18, 17, 82, 83, 84, 48, 49]) (vs := inS holes bb [.lst (nlV l), .lst (nlV l), .int .i64 l.length, .int .i64 ((0 : Nat) : Int), .int .u64 ((2 ^ holes.length : Nat) : Int), .int .u64 ((s : Nat) : Int)]) (Ts := inE a dn up false (a.leads ++ pick holes (l.take 0))) (js := [0, 1, 2, 3]) ⟨_, rfl, (by simp only [inS, List.map_cons, List.map_nil, List.cons_append, List.nil_append, TV.inst, List.getD_cons_zero, List.getD_cons_succ]; exact tv_), (by simp only [inE, actT, winT, fq0, xlSt, xlEx, List.map_cons, List.map_nil, TB.inst, TV.inst, tv_map]; rfl), by decide⟩ (by decide) inS_ok inE_ok ?_
              | refine WA_ren (L := B4) (ks := [1, 3, 5, 11, 14, 15, 18, 17, 82, 83, 84, 48, 49]) (vs := inS holes bb [.lst (nlV l), .lst (nlV l), .int .i64 l.length, .int .i64 ((0 : Nat) : Int), .int .u64 ((2 ^ holes.length : Nat) : Int), .int .u64 ((s : Nat) : Int)]) (Ts := inE a dn up true (a.leads ++ pick holes (l.take 0))) (js := [0, 1, 2, 3, 5]) ⟨_, rfl, (by simp only [inS, List.map_cons, List.map_nil, List.cons_append, List.nil_append, TV.inst, List.getD_cons_zero, List.getD_cons_succ]; exact tv_), (by simp only [inE, actT, winT, fq0, xlSt, xlEx, List.map_cons, List.map_nil, TB.inst, TV.inst, tv_map, pick, List.take_zero, List.append_nil]; rfl), by decide⟩ (by decide) inS_ok inE_ok ?_
            all_goals rintro B5 ⟨D5, hB5⟩
            all_goals first
              | refine WA_whileT (σ := Bool × Nat) (L := B5) [1, 3, 5, 11, 14, 15, 18, 17, 82, 83, 84, 48, 49] (fun q => inS holes bb [.lst (nlV l), .lst (nlV l), .int .i64 l.length, .int .i64 (q.2 : Int), .int .u64 ((2 ^ holes.length : Nat) : Int), .int .u64 ((s : Nat) : Int)]) (fun q => inE a dn up q.1 (a.leads ++ pick holes (l.take q.2))) (fun q => q.2 ≤ l.length ∧ (q.1 = false → a.leads ++ pick holes (l.take q.2) = [])) (fun q => l.length - q.2) (false, 0) ⟨Nat.zero_le _, fun _ => by rw [h1]; rfl⟩ (by simp only [inS, zipT, List.map_cons, List.map_nil, List.cons_append, List.nil_append, TV.inst]; exact tv_) rfl (by decide) (fun _ _ => inS_ok) (fun _ _ => inE_ok) ?_
              | refine WA_whileT (σ := Bool × Nat) (L := B5) [1, 3, 5, 11, 14, 15, 18, 17, 82, 83, 84, 48, 49] (fun q => inS holes bb [.lst (nlV l), .lst (nlV l), .int .i64 l.length, .int .i64 (q.2 : Int), .int .u64 ((2 ^ holes.length : Nat) : Int), .int .u64 ((s : Nat) : Int)]) (fun q => inE a dn up q.1 (a.leads ++ pick holes (l.take q.2))) (fun q => q.2 ≤ l.length ∧ (q.1 = false → a.leads ++ pick holes (l.take q.2) = [])) (fun q => l.length - q.2) (true, 0) ⟨Nat.zero_le _, fun h => by cases h⟩ (by simp only [inS, zipT, List.map_cons, List.map_nil, List.cons_append, List.nil_append, TV.inst]; exact tv_) rfl (by decide) (fun _ _ => inS_ok) (fun _ _ => inE_ok) ?_
            all_goals
              rintro ⟨o, i⟩ ⟨hi, hoi⟩ B6 ⟨D6, hB6⟩ K6 hK6
              dsimp only at hi hoi
              have hB6' : B6 = B ++ (D4 ++ (D5 ++ D6)) := by rw [hB6, hB5, hBB4, List.append_assoc, List.append_assoc]
              have hpl : (a.leads ++ pick holes (l.take i)).length = a.leads.length + i := by rw [List.length_append, pick_len, List.length_take]; omega
              rcases Nat.lt_or_ge i l.length with hli | hge
              · have hg1 := nlV_get hli
                have hkm : l.getD i 0 < holes.length := by
                  rw [List.getD_eq_getElem?_getD, List.getElem?_eq_getElem hli]
                  exact hmn _ (List.getElem_mem _)
                have hg2 := ldsV_get hkm
                have hpt : a.leads ++ pick holes (l.take (i + 1)) = (a.leads ++ pick holes (l.take i)) ++ [holes.getD (l.getD i 0) l0] := by
                  rw [pick_take hli, List.append_assoc]
                have hny6 := hK6 (true, i + 1)
                rw [hpt] at hny6
                dsimp only at hny6
                have hnz6 := fun (_ : Unit) => hny6
                clear hny6 hpt hK6 hnx hsk htk hac2
                generalize l.getD i 0 = k at *
                generalize holes.getD k l0 = hk at *
                generalize a.leads ++ pick holes (l.take i) = p at *
                obtain ⟨x, y⟩ := hk
                unfold ldV at hg2
                dsimp only at hg2
                have hsn := ldsV_snoc p x y
                have hlv : (ldsV p).length = a.leads.length + i := by rw [ldsV_length, hpl]
                have hlt2 : (ldsV p).take (a.leads.length + i) = ldsV p := List.take_of_length_le (by rw [hlv]; exact Nat.le_refl _)
                cases o with
                | false =>
                  obtain rfl := hoi rfl
                  have hz : a.leads.length + i = 0 := by simpa using hpl.symm
                  have hsn : ldsV ([] ++ [(x, y)]) = [[V.int .i64 x, V.int .i64 y]] := rfl
                  simp only [inS, inE, actT, winT, fq0, xlSt, xlEx]
                  simp only [List.map_cons, List.map_nil, TB.inst, TV.inst, tv_map, zipT, List.cons_append, List.nil_append, Nat.add_zero]
                  (have FX := And.intro hnl (And.intro hll (And.intro hg1 (And.intro hg2 hlt2))); repeat' first | (first | (refine sx ?_ ?_ <;> intro h <;> first | (exfalso; omega) | skip) | refine ny ?_ | refine WA_block ?_ | (refine uC64_6_26 ?_; refine ⟨by kernel_rfl, ?_⟩)) | refine d_alt ?_ | refine wg_0 ?_ | refine wg_b ?_ | refine wg_c ?_ ?_ | refine wg_n ?_ | refine wm_cons ?_ ?_ | exact wm_nil | refine wg_op ?_)
                  all_goals (try (exfalso; omega))
                  all_goals first
                    | ((refine nextU_ hnz6 (()) [0, 1, 2, 3, 5] (⟨hli, fun h => by cases h⟩) (by omega) ?_ (ht := ?_); (focus (simp only [inE, actT, winT, fq0, xlSt, xlEx, hsn, List.length_append, List.length_cons, List.length_nil, Nat.zero_add, List.map_cons, List.map_nil, TB.inst, TV.inst, tv_map, List.cons_append, List.nil_append]; first | rfl | (simp [ptsV, ptV]; done) | (simp [hpsV, hpV]; done) | (simp [frsV, frV]; done) | (simp [txV]; done) | (simp [prtsV, prtV]; done))); (simp only [inS, List.cons_append, List.nil_append, List.map_cons, List.map_nil, TV.inst, List.getD_cons_zero, List.getD_cons_succ]; exact tv_)))
                    | ((refine nextU_ hnz6 (()) [0, 1, 2, 3, 4] (⟨hli, fun h => by cases h⟩) (by omega) ?_ (ht := ?_); (focus (simp only [inE, actT, winT, fq0, xlSt, xlEx, hsn, List.length_append, List.length_cons, List.length_nil, Nat.zero_add, List.map_cons, List.map_nil, TB.inst, TV.inst, tv_map, List.cons_append, List.nil_append]; first | rfl | (simp [ptsV, ptV]; done) | (simp [hpsV, hpV]; done) | (simp [frsV, frV]; done) | (simp [txV]; done) | (simp [prtsV, prtV]; done))); (simp only [inS, List.cons_append, List.nil_append, List.map_cons, List.map_nil, TV.inst, List.getD_cons_zero, List.getD_cons_succ]; exact tv_)))
                    | trace_state
                | true =>
                  simp only [inS, inE, actT, winT, fq0, xlSt, xlEx, hpl]
                  simp only [List.map_cons, List.map_nil, TB.inst, TV.inst, tv_map, zipT, List.cons_append, List.nil_append, Nat.add_zero]
                  (have FX := And.intro hnl (And.intro hll (And.intro hg1 (And.intro hg2 (And.intro hlt2 hlv)))); repeat' first | (first | (refine sx ?_ ?_ <;> intro h <;> first | (exfalso; omega) | skip) | refine ny ?_ | refine WA_block ?_ | (refine uC64_6_26 ?_; refine ⟨by kernel_rfl, ?_⟩)) | refine d_alt ?_ | refine wg_0 ?_ | refine wg_b ?_ | refine wg_c ?_ ?_ | refine wg_n ?_ | refine wm_cons ?_ ?_ | exact wm_nil | refine wg_op ?_)
                  all_goals (try (exfalso; omega))
                  all_goals first
                    | ((refine nextU_ hnz6 (()) [0, 1, 2, 3, 6] (⟨hli, fun h => by cases h⟩) (by omega) ?_ (ht := ?_); (focus (simp only [inE, actT, winT, fq0, xlSt, xlEx, hsn, hpl, List.length_append, List.length_cons, List.length_nil, Nat.zero_add, List.map_cons, List.map_nil, TB.inst, TV.inst, tv_map, List.cons_append, List.nil_append]; first | rfl | (simp [ptsV, ptV]; done) | (simp [hpsV, hpV]; done) | (simp [frsV, frV]; done) | (simp [txV]; done) | (simp [prtsV, prtV]; done))); (simp only [inS, List.cons_append, List.nil_append, List.map_cons, List.map_nil, TV.inst, List.getD_cons_zero, List.getD_cons_succ]; exact tv_)))
                    | ((refine nextU_ hnz6 (()) [0, 1, 2, 3, 5] (⟨hli, fun h => by cases h⟩) (by omega) ?_ (ht := ?_); (focus (simp only [inE, actT, winT, fq0, xlSt, xlEx, hsn, hpl, List.length_append, List.length_cons, List.length_nil, Nat.zero_add, List.map_cons, List.map_nil, TB.inst, TV.inst, tv_map, List.cons_append, List.nil_append]; first | rfl | (simp [ptsV, ptV]; done) | (simp [hpsV, hpV]; done) | (simp [frsV, frV]; done) | (simp [txV]; done) | (simp [prtsV, prtV]; done))); (simp only [inS, List.cons_append, List.nil_append, List.map_cons, List.map_nil, TV.inst, List.getD_cons_zero, List.getD_cons_succ]; exact tv_)))
                    | trace_state
              · obtain rfl : i = l.length := by omega
                clear hK6
                rw [List.take_length] at hpl hoi ⊢
                have hadd : addL a holes l = { a with leads := a.leads ++ pick holes l } := rfl
                have hfi := fun m => afits_c (addL a holes l) (add_lt ha hl8) (add_err e1 e2 hmn hl8) dn up e3 0 sm_zero m
                rw [hz1, hz2] at hfi
                have hnx6 := fun js t' m' (h : RoundEndT B6 [1, 3, 5, 11, 14, 15, 48, 49] (loS holes bn [.int .u64 ((2 ^ holes.length : Nat) : Int), .int .u64 ((s + 1 : Nat) : Int)]) (loE a dn up) js t' m') => hnx (js.map ((D4 ++ (D5 ++ D6)).length + ·)) t' m' (RoundEndT_up (by rw [hB6'] at h; exact h) loS_ok loE_ok)
                have hny6 := fun (_ : Unit) => hnx6
                clear hnx6 hnx
                generalize fitE (addL a holes l) dn up 0 = fe at *
                unfold actV at hfi
                rw [hadd] at hfi
                dsimp only at hfi
                clear hadd
                generalize a.leads ++ pick holes l = p at *
                have hlv : (ldsV p).length = a.leads.length + l.length := by rw [ldsV_length, hpl]
                have hlt2 : (ldsV p).take (a.leads.length + l.length) = ldsV p := List.take_of_length_le (by rw [hlv]; exact Nat.le_refl _)
                cases o with
                | false =>
                  obtain rfl := hoi rfl
                  have hwk : WkV (.agg [.int .i64 a.dip, .lst (prtsV a.parts), .lst (evsV a.evs), .nilsl]) (.agg [.int .i64 a.dip, .lst (prtsV a.parts), .lst (evsV a.evs), .lst (ldsV [])]) := wk_agg ⟨WkV.refl _, WkV.refl _, WkV.refl _, wk_nil, trivial⟩
                  have hfj := fun m => Gives_w0 hwk (hfi m)
                  clear hfi
                  simp only [inS, inE, actT, winT, fq0, xlSt, xlEx]
                  simp only [List.map_cons, List.map_nil, TB.inst, TV.inst, tv_map, zipT, List.cons_append, List.nil_append, Nat.add_zero]
                  (have FX := hnl; repeat' (first | (refine sx ?_ ?_ <;> intro h <;> first | (exfalso; omega) | skip) | (refine g_op ?_; refine g_call ?_; refine g_args ?_; (first | refine s_fn (hfj _) ?_) <;> try first | omega | assumption) | refine ny ?_ | refine WA_block ?_ | (refine uC64_6_26 ?_; refine ⟨by kernel_rfl, ?_⟩) | ((first | refine grp_cons (fun _ => hfj _) ?_) <;> try first | omega | assumption) | (refine g_d ?_; refine d_args ?_; (first | refine d_fn (hfj _) ?_ | refine d_fnQ (fun _ => hfj _) ?_) <;> try first | omega | assumption) | (refine g_d ?_; (first | refine d_fnY (hfj _) ?_) <;> try first | omega | assumption)))
                  all_goals (try (exfalso; omega))
                  all_goals first
                    | (have e := htk (by rw [hac2]; exact decide_eq_true (by omega)) hck
                       subst e
                       (refine nextU_ hny6 (()) [0, 1, 2] (hlt) (by omega) ?_ (ht := ?_); (focus (simp only [loE, actT, winT, fq0, List.map_cons, List.map_nil, TB.inst, TV.inst, tv_map, List.cons_append, List.nil_append]; first | rfl | (simp [ptsV, ptV]; done) | (simp [hpsV, hpV]; done) | (simp [frsV, frV]; done) | (simp [txV]; done) | (simp [prtsV, prtV]; done))); (simp only [loS, bsV, Option.isSome_none, Option.isSome_some, List.cons_append, List.nil_append, List.map_cons, List.map_nil, TV.inst, List.getD_cons_zero, List.getD_cons_succ]; exact tv_)))
                    | (have e := hsk (.inl (by rw [hac2]; exact decide_eq_false (by omega)))
                       subst e
                       (refine nextU_ hny6 (()) [0, 1, 2] (hlt) (by omega) ?_ (ht := ?_); (focus (simp only [loE, actT, winT, fq0, List.map_cons, List.map_nil, TB.inst, TV.inst, tv_map, List.cons_append, List.nil_append]; first | rfl | (simp [ptsV, ptV]; done) | (simp [hpsV, hpV]; done) | (simp [frsV, frV]; done) | (simp [txV]; done) | (simp [prtsV, prtV]; done))); (simp only [loS, List.cons_append, List.nil_append, List.map_cons, List.map_nil, TV.inst, List.getD_cons_zero, List.getD_cons_succ]; exact tv_)))
                    | trace_state
                | true =>
                  have hne : ∀ (a c d : Nat), (a + c = a + d) = (c = d) := fun a c d => by simp
                  have hn0 : ∀ (a d : Nat), (a = a + d) = (0 = d) := fun a d => by rw [eq_iff_iff]; omega
                  simp only [inS, inE, actT, winT, fq0, xlSt, xlEx, hpl]
                  simp only [List.map_cons, List.map_nil, TB.inst, TV.inst, tv_map, zipT, List.cons_append, List.nil_append, Nat.add_zero]
                  refine WA_fzM (j := 4) rfl ?_
                  simp only [List.map_cons, List.map_nil, List.map_append, hbsz]
                  simp (decide := true) only [List.map_cons, List.map_nil, List.map_append, frzV, frzC, List.set_cons_succ, List.set_cons_zero, hne, hn0, Nat.reduceEqDiff, false_and, true_and, if_false, if_true, hlv, Nat.le_refl, hlt2]
                  clear hne hn0
                  (have FX := hnl; repeat' (first | (refine sx ?_ ?_ <;> intro h <;> first | (exfalso; omega) | skip) | (refine g_op ?_; refine g_call ?_; refine g_args ?_; (first | refine s_fn (hfi _) ?_) <;> try first | omega | assumption) | refine ny ?_ | refine WA_block ?_ | (refine uC64_6_26 ?_; refine ⟨by kernel_rfl, ?_⟩) | ((first | refine grp_cons (fun _ => hfi _) ?_) <;> try first | omega | assumption) | (refine g_d ?_; refine d_args ?_; (first | refine d_fn (hfi _) ?_ | refine d_fnQ (fun _ => hfi _) ?_) <;> try first | omega | assumption) | (refine g_d ?_; (first | refine d_fnY (hfi _) ?_) <;> try first | omega | assumption)))
                  all_goals (try (exfalso; omega))
                  all_goals first
                    | (have e := htk (by rw [hac2]; exact decide_eq_true (by omega)) hck
                       subst e
                       (refine nextU_ hny6 (()) [0, 1, 2] (hlt) (by omega) ?_ (ht := ?_); (focus (simp only [loE, actT, winT, fq0, List.map_cons, List.map_nil, TB.inst, TV.inst, tv_map, List.cons_append, List.nil_append]; first | rfl | (simp [ptsV, ptV]; done) | (simp [hpsV, hpV]; done) | (simp [frsV, frV]; done) | (simp [txV]; done) | (simp [prtsV, prtV]; done))); (simp only [loS, bsV, Option.isSome_none, Option.isSome_some, List.cons_append, List.nil_append, List.map_cons, List.map_nil, TV.inst, List.getD_cons_zero, List.getD_cons_succ]; exact tv_)))
                    | (have e := hsk (.inl (by rw [hac2]; exact decide_eq_false (by omega)))
                       subst e
                       (refine nextU_ hny6 (()) [0, 1, 2] (hlt) (by omega) ?_ (ht := ?_); (focus (simp only [loE, actT, winT, fq0, List.map_cons, List.map_nil, TB.inst, TV.inst, tv_map, List.cons_append, List.nil_append]; first | rfl | (simp [ptsV, ptV]; done) | (simp [hpsV, hpV]; done) | (simp [frsV, frV]; done) | (simp [txV]; done) | (simp [prtsV, prtV]; done))); (simp only [loS, List.cons_append, List.nil_append, List.map_cons, List.map_nil, TV.inst, List.getD_cons_zero, List.getD_cons_succ]; exact tv_)))
                    | trace_state
    · obtain rfl : s = 2 ^ holes.length := by omega
      clear hK
      generalize bstL (accB a holes dn up) (2 ^ holes.length) = bb at *
      cases bb with
      | none =>
        dsimp only at hQ
        simp only [loS, loE, actT, winT, fq0, bsV, Option.isSome_none]
        simp only [List.map_cons, List.map_nil, TB.inst, TV.inst, tv_map, zipT, List.cons_append, List.nil_append, Nat.add_zero]
        (have FX := hll; repeat' (first | (refine sx ?_ ?_ <;> intro h <;> first | (exfalso; omega) | skip) | refine ny ?_ | refine WA_block ?_ | (refine uC64_6_26 ?_; refine ⟨by kernel_rfl, ?_⟩)))
        all_goals (try (exfalso; omega))
        all_goals (refine r_esA hQ (.inl ⟨rfl, rfl, wkn _⟩))
      | some l =>
        dsimp only at hQ
        simp only [loS, loE, actT, winT, fq0, bsV, Option.isSome_some]
        simp only [List.map_cons, List.map_nil, TB.inst, TV.inst, tv_map, zipT, List.cons_append, List.nil_append, Nat.add_zero]
        (have FX := hll; repeat' (first | (refine sx ?_ ?_ <;> intro h <;> first | (exfalso; omega) | skip) | refine ny ?_ | refine WA_block ?_ | (refine uC64_6_26 ?_; refine ⟨by kernel_rfl, ?_⟩)))
        all_goals (try (exfalso; omega))
        all_goals (rw [hBm, List.append_assoc])
        all_goals (refine r_esA hQ (fin_chV ⟨rfl, WkV.refl _⟩))
end Go.Proofs.YtihbeoplchiikaaGreatDoor
