import Derived.Test.YteogokmbedmkjaaG33
import Derived.Test.YteogokmbedmkjaaG15
namespace Go.Proofs.Yteogokmbedmkjaa
open Go.RowKit
attribute [local irreducible] WA WOs WDs WAn qThen qBlock tput
set_option maxHeartbeats 1000000
set_option maxRecDepth 20000
set_option linter.unusedSimpArgs false
set_option linter.unusedVariables false
theorem Gives_weak {P : Program} {f : FuncId} {vs : List V} {m : Mem} {v v' : V} (h : Gives P f vs m v) (hv : ∀ w ρ B x, RelV w ρ B v x → RelV w ρ B v' x) : Gives P f vs m v' := by
  refine ⟨h.1, fun w ρ xs hM hA => (h.2 w ρ xs hM hA).mono ?_⟩
  rintro e w' ⟨v0, mo, x, h1, ⟨rfl, rfl⟩, h3⟩
  rcases h3 with ⟨_, h4, h5⟩ | ⟨m', ρ', h4, _⟩
  · exact ⟨v', none, x, h1, ⟨rfl, rfl⟩, .inl ⟨rfl, h4, hv _ _ _ _ h5⟩⟩
  · cases h4
theorem rel_nil {w : World} {ρ : List Re} {B : Nat → Prop} {x : Value} (h : RelV w ρ B .nilsl x) : RelV w ρ B (.lst []) x := by
  cases h; exact .lnil none 0 (Nat.zero_le _) (fun _ => rfl)
theorem rel_tup {w : World} {ρ : List Re} {B : Nat → Prop} {a a' : V} {r : List V} {x : Value} (ha : ∀ y, RelV w ρ B a y → RelV w ρ B a' y) (h : RelV w ρ B (.tup (a :: r)) x) : RelV w ρ B (.tup (a' :: r)) x := by
  cases h with
  | tup cs xs hl hh =>
    refine .tup _ _ (by simpa using hl) fun i c x h1 h2 => ?_
    cases i with
    | zero =>
      simp at h1; subst h1
      exact ha _ (hh 0 a x rfl h2)
    | succ i => exact hh (i + 1) c x (by simpa using h1) h2
theorem Gives_nil2 {P : Program} {f : FuncId} {vs : List V} {m : Mem} {r : List V} (h : Gives P f vs m (.tup (.nilsl :: r))) : Gives P f vs m (.tup (.lst [] :: r)) :=
  Gives_weak h fun _ _ _ _ hr => rel_tup (fun _ => rel_nil) hr
def I64 (n : Int) : Prop := -9223372036854775808 ≤ n ∧ n ≤ 9223372036854775807
theorem wrapPl {a p A : Int} (ha : -1000000 ≤ a ∧ a ≤ 1000000) (hp : I64 p) (hA : (IntKind.i64.wrap (a + (IntKind.i64.wrap (1 * p)))) = A) : ((-1000000 ≤ A ∧ A ≤ 1000000) → A = a + p) ∧ (¬ (-1000000 ≤ A ∧ A ≤ 1000000) → ¬ (-1000000 ≤ a + p ∧ a + p ≤ 1000000)) := by
  unfold I64 at hp
  rw [Int.one_mul, i64w (n := p) hp.1 hp.2, IntKind.wrap_i64] at hA
  constructor <;> intro h <;> omega
theorem wrapPr {a p A : Int} (ha : -1000000 ≤ a ∧ a ≤ 1000000) (hp : I64 p) (hA : (IntKind.i64.wrap (a + p)) = A) : ((-1000000 ≤ A ∧ A ≤ 1000000) → A = a + p) ∧ (¬ (-1000000 ≤ A ∧ A ≤ 1000000) → ¬ (-1000000 ≤ a + p ∧ a + p ≤ 1000000)) := by
  unfold I64 at hp
  rw [IntKind.wrap_i64] at hA
  constructor <;> intro h <;> omega
def mv (p q r : Int) (s : Pl) : Pl := ⟨s.a + p, s.b + q, s.c + r, s.x, s.y, s.z⟩
def mvOk (p q r : Int) (s : Pl) : Prop := (-1000000 ≤ s.a + p ∧ s.a + p ≤ 1000000) ∧ (-1000000 ≤ s.b + q ∧ s.b + q ≤ 1000000) ∧ (-1000000 ≤ s.c + r ∧ s.c + r ≤ 1000000)
instance (p q r : Int) (s : Pl) : Decidable (mvOk p q r s) := by unfold mvOk; exact inferInstance
def mvR (p q r : Int) (l : List Pl) : V := if ∀ s ∈ l, mvOk p q r s then .tup [.lst (plsV (l.map (mv p q r))), .int .i64 0] else .tup [.lst [], .int .i64 2]
def mvR0 (p q r : Int) (l : List Pl) : V := if ∀ s ∈ l, mvOk p q r s then .tup [.lst (plsV (l.map (mv p q r))), .int .i64 0] else .tup [.nilsl, .int .i64 2]
theorem mvR_of {P : Program} {f : FuncId} {vs : List V} {m : Mem} {p q r : Int} {l : List Pl} (h : Gives P f vs m (mvR0 p q r l)) : Gives P f vs m (mvR p q r l) := by
  unfold mvR0 at h
  unfold mvR
  split at h
  · rw [if_pos (by assumption)]; exact h
  · rw [if_neg (by assumption)]; exact Gives_nil2 h
def gSt (i : Nat) : TV := match i with | 0 => .v .nilsl | i + 1 => .sl 1 (i + 1)
def gE (p q r : Int) (l : List Pl) (i : Nat) : Mem := .cells .own 24 3 [[.int .i64 p, .int .i64 q, .int .i64 r]] :: (match i with | 0 => [] | i + 1 => [.cells .own 107 6 (plsV ((l.map (mv p q r)).take (i + 1)))])
theorem gE_succ {p q r : Int} {l : List Pl} {i : Nat} (h : i < l.length) : plsV ((l.map (mv p q r)).take (i + 1)) = plsV ((l.map (mv p q r)).take i) ++ [[.int .i64 (l[i].a + p), .int .i64 (l[i].b + q), .int .i64 (l[i].c + r), .int .i64 l[i].x, .int .i64 l[i].y, .int .i64 l[i].z]] := by
  rw [List.take_succ_eq_append_getElem (by simpa using h)]
  simp [plsV, plV, mv]
theorem gE_len {p q r : Int} {l : List Pl} {i : Nat} (h : i ≤ l.length) : (plsV ((l.map (mv p q r)).take i)).length = i := by simp [plsV]; omega
theorem pmove_bad (l : List Pl) (p q r : Int) (h : frcErr l ≠ 0) (m : Mem) : Gives Try.prog 48 [.lst (plsV l), .agg [.int .i64 (p), .int .i64 (q), .int .i64 (r)]] m (.tup [.lst [], .int .i64 (frcErr l)]) := by
  refine Gives_nil2 ?_
  refine Gives_in Try.func48 rfl Try.ntmps48 Try.results48 (by kernel_rfl) (by simp) rfl fun Q hQ => ?_
  (repeat' (first | refine s_tp ?_ | refine s_tn ?_ | ((first | refine WOs_splitD (fun h => ?_) (fun h => ?_) | refine WOs_splitN (fun h => ?_) (fun h => ?_) | refine WDs_splitD (fun h => ?_) (fun h => ?_) | refine WDs_splitN (fun h => ?_) (fun h => ?_)) <;> first | (exfalso; omega) | skip) | (refine g_op ?_; first | (refine g_call ?_; refine g_args ?_; first | (refine s_fn (pcheckf_c _ _) ?_ <;> try first | omega | assumption) | fail) | refine s_mv ?_ | refine s_as ?_ | refine s_bin ?_ | refine s_ld ?_ | refine s_ia ?_ | refine s_fa ?_ | refine s_fd ?_ | refine s_ix ?_ | refine s_un ?_ | refine s_op ?_) | refine WA_seq' ?_ | refine qT_WA ?_ | refine WA_region ?_ | refine WOs_nil ?_ | (refine g_c ?_; first | refine c_T ?_ | refine c_F ?_) | (refine g_gd ?_; first | refine s_yes ?_ | refine s_no ?_ | refine s_noU ?_) | refine WA_skip ?_ | refine WA_ret ?_ | refine WA_exit ?_ | refine qT_ret ?_ | refine qT_exit ?_ | refine qB_exit ?_ | refine qB_other rfl ?_ | refine qB_normal ?_ | refine qB_ret ?_ | refine WA_block ?_ | refine qT_WAn ?_ | refine WAn_step ?_ | refine qT_normal ?_))
  all_goals (refine r_es hQ ?_; try with_reducible rfl)
theorem pmove_c (l : List Pl) (p q r : Int) (h : frcErr l = 0) (hp : I64 p) (hq : I64 q) (hr : I64 r) (m : Mem) : Gives Try.prog 48 [.lst (plsV l), .agg [.int .i64 (p), .int .i64 (q), .int .i64 (r)]] m (mvR p q r l) := by
  obtain ⟨hl3, hok⟩ := frcErr_ok h
  have hlen := plsV_length (l := l)
  have hget := hlen
  by_cases hne : l = []
  · subst hne
    unfold mvR
    rw [if_pos (fun s hs => nomatch hs)]
    refine Gives_nil2 ?_
    refine Gives_in Try.func48 rfl Try.ntmps48 Try.results48 (by kernel_rfl) (by simp) rfl fun Q hQ => ?_
    (have FX := And.intro hlen hget; repeat' (first | refine s_tp ?_ | refine s_tn ?_ | ((first | refine WOs_splitD (fun h => ?_) (fun h => ?_) | refine WOs_splitN (fun h => ?_) (fun h => ?_) | refine WDs_splitD (fun h => ?_) (fun h => ?_) | refine WDs_splitN (fun h => ?_) (fun h => ?_)) <;> first | (exfalso; omega) | skip) | (refine g_op ?_; first | (refine g_call ?_; refine g_args ?_; first | (refine s_fn (pcheckf_c _ _) ?_ <;> try first | omega | assumption) | (refine s_fn (h75 _) ?_ <;> try first | omega | assumption) | (refine s_fn (all_c _ _ _ _ ?_ ?_ _) ?_ <;> try first | omega | assumption) | fail) | refine s_mv ?_ | refine s_as ?_ | refine s_bin ?_ | refine s_ld ?_ | refine s_ia ?_ | refine s_fa ?_ | refine s_fd ?_ | refine s_ix ?_ | refine s_un ?_ | refine s_op ?_) | refine WA_seq' ?_ | refine qT_WA ?_ | refine WA_region ?_ | refine WOs_nil ?_ | (refine g_c ?_; first | refine c_T ?_ | refine c_F ?_) | (refine g_gd ?_; first | refine s_yes ?_ | refine s_no ?_ | refine s_noU ?_) | refine WA_skip ?_ | refine WA_ret ?_ | refine WA_exit ?_ | refine qT_ret ?_ | refine qT_exit ?_ | refine qB_exit ?_ | refine qB_other rfl ?_ | refine qB_normal ?_ | refine qB_ret ?_ | refine WA_block ?_ | refine qT_WAn ?_ | refine WAn_step ?_ | refine qT_normal ?_))
    refine WA_rounds 2 ?_
    (have FX := And.intro hlen hget; repeat' (first | refine s_tp ?_ | refine s_tn ?_ | ((first | refine WOs_splitD (fun h => ?_) (fun h => ?_) | refine WOs_splitN (fun h => ?_) (fun h => ?_) | refine WDs_splitD (fun h => ?_) (fun h => ?_) | refine WDs_splitN (fun h => ?_) (fun h => ?_)) <;> first | (exfalso; omega) | skip) | (refine g_op ?_; first | (refine g_call ?_; refine g_args ?_; first | (refine s_fn (pcheckf_c _ _) ?_ <;> try first | omega | assumption) | (refine s_fn (h75 _) ?_ <;> try first | omega | assumption) | (refine s_fn (all_c _ _ _ _ ?_ ?_ _) ?_ <;> try first | omega | assumption) | fail) | refine s_mv ?_ | refine s_as ?_ | refine s_bin ?_ | refine s_ld ?_ | refine s_ia ?_ | refine s_fa ?_ | refine s_fd ?_ | refine s_ix ?_ | refine s_un ?_ | refine s_op ?_) | refine WA_seq' ?_ | refine qT_WA ?_ | refine WA_region ?_ | refine WOs_nil ?_ | (refine g_c ?_; first | refine c_T ?_ | refine c_F ?_) | (refine g_gd ?_; first | refine s_yes ?_ | refine s_no ?_ | refine s_noU ?_) | refine WA_skip ?_ | refine WA_ret ?_ | refine WA_exit ?_ | refine qT_ret ?_ | refine qT_exit ?_ | refine qB_exit ?_ | refine qB_other rfl ?_ | refine qB_normal ?_ | refine qB_ret ?_ | refine WA_block ?_ | refine qT_WAn ?_ | refine WAn_step ?_ | refine qT_normal ?_))
    all_goals (refine r_es hQ ?_; try with_reducible rfl)
  have hl0 : 0 < l.length := List.length_pos_iff.2 hne
  refine mvR_of ?_
  generalize hE : mvR0 p q r l = E
  refine CallA_in Try.func48 rfl Try.ntmps48 Try.results48 (by kernel_rfl) (by simp) fun Q hQ => ?_
  (have FX := And.intro hlen hget; repeat' (first | refine s_tp ?_ | refine s_tn ?_ | ((first | refine WOs_splitD (fun h => ?_) (fun h => ?_) | refine WOs_splitN (fun h => ?_) (fun h => ?_) | refine WDs_splitD (fun h => ?_) (fun h => ?_) | refine WDs_splitN (fun h => ?_) (fun h => ?_)) <;> first | (exfalso; omega) | skip) | (refine g_op ?_; first | (refine g_call ?_; refine g_args ?_; first | (refine s_fn (pcheckf_c _ _) ?_ <;> try first | omega | assumption) | (refine s_fn (h75 _) ?_ <;> try first | omega | assumption) | (refine s_fn (all_c _ _ _ _ ?_ ?_ _) ?_ <;> try first | omega | assumption) | fail) | refine s_mv ?_ | refine s_as ?_ | refine s_bin ?_ | refine s_ld ?_ | refine s_ia ?_ | refine s_fa ?_ | refine s_fd ?_ | refine s_ix ?_ | refine s_un ?_ | refine s_op ?_) | refine WA_seq' ?_ | refine qT_WA ?_ | refine WA_region ?_ | refine WOs_nil ?_ | (refine g_c ?_; first | refine c_T ?_ | refine c_F ?_) | (refine g_gd ?_; first | refine s_yes ?_ | refine s_no ?_ | refine s_noU ?_) | refine WA_skip ?_ | refine WA_ret ?_ | refine WA_exit ?_ | refine qT_ret ?_ | refine qT_exit ?_ | refine qB_exit ?_ | refine qB_other rfl ?_ | refine qB_normal ?_ | refine qB_ret ?_ | refine WA_block ?_ | refine qT_WAn ?_ | refine WAn_step ?_ | refine qT_normal ?_))
  refine WA_whileM (σ := Nat) (L := lend m) [3, 7, 16, 17, 18] (fun i => [.ptr 0 0 0, gSt i, .v (.lst (plsV l)), .v (.int .i64 l.length), .v (.int .i64 i)]) (gE p q r l) (fun i => i ≤ l.length ∧ ∀ j (h : j < l.length), j < i → mvOk p q r l[j]) (fun i => l.length - i) 0 ⟨Nat.zero_le _, fun j h1 h2 => absurd h2 (Nat.not_lt_zero _)⟩ ?_ ?_ (by decide) ?_ ?_ ?_
  · simp [tget, TV.inst, gSt, argT]
  · simp [gE]
  · intro i _; cases i <;> simp [TV.ok, V.keeps, V.plain, plsV_plain, gSt, gE]
  · intro i _; cases i <;> simp [Blk.flat, plsV_flat, gE, flatL, V.flat]
  rintro i ⟨hi1, hi2⟩ B ⟨D, hB⟩ K hK
  rcases Nat.lt_or_ge i l.length with hi' | hi'
  · have hget := plsV_get hi'
    have hpo := (hok _ (List.getElem_mem hi')).1
    unfold Plc at hpo
    obtain ⟨A, hA⟩ : ∃ A, (IntKind.i64.wrap (l[i].a + (IntKind.i64.wrap (1 * p)))) = A := ⟨_, rfl⟩
    obtain ⟨Bb, hBb⟩ : ∃ A, (IntKind.i64.wrap (l[i].b + (IntKind.i64.wrap (1 * q)))) = A := ⟨_, rfl⟩
    obtain ⟨C, hC⟩ : ∃ A, (IntKind.i64.wrap (l[i].c + (IntKind.i64.wrap (1 * r)))) = A := ⟨_, rfl⟩
    have h75 := fun m => vplus_c l[i].a l[i].b l[i].c p q r 1 m
    simp only [hA, hBb, hC] at h75
    have w1 := wrapPl hpo.1 hp hA
    have w2 := wrapPl hpo.2.1 hq hBb
    have w3 := wrapPl hpo.2.2 hr hC
    have hso := gE_succ (p := p) (q := q) (r := r) hi'
    have hol := gE_len (p := p) (q := q) (r := r) (l := l) (i := i) (by omega)
    rcases i with _ | i
    · simp only [gE, gSt]
      simp only [zipT, List.map_cons, List.map_nil, TV.inst, Nat.add_zero]
      clear FX
      (have FX := And.intro hlen hget; repeat' (first | refine s_tp ?_ | refine s_tn ?_ | ((first | refine WOs_splitD (fun h => ?_) (fun h => ?_) | refine WOs_splitN (fun h => ?_) (fun h => ?_) | refine WDs_splitD (fun h => ?_) (fun h => ?_) | refine WDs_splitN (fun h => ?_) (fun h => ?_)) <;> first | (exfalso; omega) | skip) | (refine g_op ?_; first | (refine g_call ?_; refine g_args ?_; first | (refine s_fn (pcheckf_c _ _) ?_ <;> try first | omega | assumption) | (refine s_fn (h75 _) ?_ <;> try first | omega | assumption) | (refine s_fn (all_c _ _ _ _ ?_ ?_ _) ?_ <;> try first | omega | assumption) | fail) | refine s_mv ?_ | refine s_as ?_ | refine s_bin ?_ | refine s_ld ?_ | refine s_ia ?_ | refine s_fa ?_ | refine s_fd ?_ | refine s_ix ?_ | refine s_un ?_ | refine s_op ?_) | refine WA_seq' ?_ | refine qT_WA ?_ | refine WA_region ?_ | refine WOs_nil ?_ | (refine g_c ?_; first | refine c_T ?_ | refine c_F ?_) | (refine g_gd ?_; first | refine s_yes ?_ | refine s_no ?_ | refine s_noU ?_) | refine WA_skip ?_ | refine WA_ret ?_ | refine WA_exit ?_ | refine qT_ret ?_ | refine qT_exit ?_ | refine qB_exit ?_ | refine qB_other rfl ?_ | refine qB_normal ?_ | refine qB_ret ?_ | refine WA_block ?_ | refine qT_WAn ?_ | refine WAn_step ?_ | refine qT_normal ?_))
      all_goals first
        | (refine r_esA hQ (.inl ⟨rfl, ?_, rfl⟩); rw [← hE, mvR0, if_neg]; intro h0; have h1 := h0 _ (List.getElem_mem hi'); unfold mvOk at h1; omega)
        | (refine nextM_ hK (0 + 1) [0, 4] ⟨hi', fun j h1 h2 => ?_⟩ (by omega) ?_; (rcases Nat.lt_or_ge j (0) with c | c; exact hi2 j h1 c; (have : j = 0 := by omega); subst this; unfold mvOk; omega); (simp only [gE]; rw [hso, ← w1.1 (by omega), ← w2.1 (by omega), ← w3.1 (by omega)]; first | rfl | (simp [plsV]; done)))
    · have hoa : (plsV ((l.map (mv p q r)).take (i + 1))).take (i + 1) = plsV ((l.map (mv p q r)).take (i + 1)) := by rw [List.take_of_length_le (by omega)]
      simp only [gE, gSt]
      simp only [zipT, List.map_cons, List.map_nil, TV.inst, Nat.add_zero]
      clear FX
      (have FX := And.intro hlen (And.intro hget (And.intro hol hoa)); repeat' (first | refine s_tp ?_ | refine s_tn ?_ | ((first | refine WOs_splitD (fun h => ?_) (fun h => ?_) | refine WOs_splitN (fun h => ?_) (fun h => ?_) | refine WDs_splitD (fun h => ?_) (fun h => ?_) | refine WDs_splitN (fun h => ?_) (fun h => ?_)) <;> first | (exfalso; omega) | skip) | (refine g_op ?_; first | (refine g_call ?_; refine g_args ?_; first | (refine s_fn (pcheckf_c _ _) ?_ <;> try first | omega | assumption) | (refine s_fn (h75 _) ?_ <;> try first | omega | assumption) | (refine s_fn (all_c _ _ _ _ ?_ ?_ _) ?_ <;> try first | omega | assumption) | fail) | refine s_mv ?_ | refine s_as ?_ | refine s_bin ?_ | refine s_ld ?_ | refine s_ia ?_ | refine s_fa ?_ | refine s_fd ?_ | refine s_ix ?_ | refine s_un ?_ | refine s_op ?_) | refine WA_seq' ?_ | refine qT_WA ?_ | refine WA_region ?_ | refine WOs_nil ?_ | (refine g_c ?_; first | refine c_T ?_ | refine c_F ?_) | (refine g_gd ?_; first | refine s_yes ?_ | refine s_no ?_ | refine s_noU ?_) | refine WA_skip ?_ | refine WA_ret ?_ | refine WA_exit ?_ | refine qT_ret ?_ | refine qT_exit ?_ | refine qB_exit ?_ | refine qB_other rfl ?_ | refine qB_normal ?_ | refine qB_ret ?_ | refine WA_block ?_ | refine qT_WAn ?_ | refine WAn_step ?_ | refine qT_normal ?_))
      all_goals first
        | (refine r_esA hQ (.inl ⟨rfl, ?_, rfl⟩); rw [← hE, mvR0, if_neg]; intro h0; have h1 := h0 _ (List.getElem_mem hi'); unfold mvOk at h1; omega)
        | (refine nextM_ hK (i + 1 + 1) [0, 5] ⟨hi', fun j h1 h2 => ?_⟩ (by omega) ?_; (rcases Nat.lt_or_ge j (i + 1) with c | c; exact hi2 j h1 c; (have : j = i + 1 := by omega); subst this; unfold mvOk; omega); (simp only [gE]; rw [hso, ← w1.1 (by omega), ← w2.1 (by omega), ← w3.1 (by omega)]; first | rfl | (simp [plsV]; done)))
  · have hie : i = l.length := by omega
    subst hie
    obtain ⟨n, hn⟩ : ∃ n, l.length = n + 1 := ⟨l.length - 1, by omega⟩
    have hol := gE_len (p := p) (q := q) (r := r) (l := l) (i := l.length) (by omega)
    rw [hn] at hol
    simp only [hn, gE, gSt]
    simp only [zipT, List.map_cons, List.map_nil, TV.inst, Nat.add_zero]
    clear FX
    (have FX := And.intro hlen hol; repeat' (first | refine s_tp ?_ | refine s_tn ?_ | ((first | refine WOs_splitD (fun h => ?_) (fun h => ?_) | refine WOs_splitN (fun h => ?_) (fun h => ?_) | refine WDs_splitD (fun h => ?_) (fun h => ?_) | refine WDs_splitN (fun h => ?_) (fun h => ?_)) <;> first | (exfalso; omega) | skip) | (refine g_op ?_; first | (refine g_call ?_; refine g_args ?_; first | (refine s_fn (pcheckf_c _ _) ?_ <;> try first | omega | assumption) | (refine s_fn (h75 _) ?_ <;> try first | omega | assumption) | (refine s_fn (all_c _ _ _ _ ?_ ?_ _) ?_ <;> try first | omega | assumption) | fail) | refine s_mv ?_ | refine s_as ?_ | refine s_bin ?_ | refine s_ld ?_ | refine s_ia ?_ | refine s_fa ?_ | refine s_fd ?_ | refine s_ix ?_ | refine s_un ?_ | refine s_op ?_) | refine WA_seq' ?_ | refine qT_WA ?_ | refine WA_region ?_ | refine WOs_nil ?_ | (refine g_c ?_; first | refine c_T ?_ | refine c_F ?_) | (refine g_gd ?_; first | refine s_yes ?_ | refine s_no ?_ | refine s_noU ?_) | refine WA_skip ?_ | refine WA_ret ?_ | refine WA_exit ?_ | refine qT_ret ?_ | refine qT_exit ?_ | refine qB_exit ?_ | refine qB_other rfl ?_ | refine qB_normal ?_ | refine qB_ret ?_ | refine WA_block ?_ | refine qT_WAn ?_ | refine WAn_step ?_ | refine qT_normal ?_))
    have hall : ∀ s ∈ l, mvOk p q r s := by
      intro s hs
      obtain ⟨j, hj, rfl⟩ := List.getElem_of_mem hs
      exact hi2 j hj (by omega)
    have htk : (l.map (mv p q r)).take (n + 1) = l.map (mv p q r) := by rw [List.take_of_length_le (by simp; omega)]
    all_goals (refine r_esA hQ ?_)
    all_goals (refine fin_sl2 (D := D) (j := 1) hB rfl (by rw [hol]; exact Nat.le_refl _) (by rw [List.take_of_length_le (by omega)]; exact plsV_plain _) (fun m L => frz_int m L 3 _ _) ⟨?_, rfl⟩)
    all_goals (rw [List.take_of_length_le (by omega), htk, ← hE, mvR0, if_pos hall])
end Go.Proofs.Yteogokmbedmkjaa
