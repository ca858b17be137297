import Derived.Test.YteogokmbedmkjaaG17
import Derived.Test.YteogokmbedmkjaaG15
import Derived.Test.YteogokmbedmkjaaG40
import Derived.Test.YteogokmbedmkjaaYC
namespace Go.Proofs.Yteogokmbedmkjaa
open Go.RowKit
attribute [local irreducible] WA WOs WDs WAn qThen qBlock tput
set_option maxHeartbeats 1000000
set_option maxRecDepth 20000
set_option linter.unusedSimpArgs false
set_option linter.unusedVariables false
structure Br where
  a : Int
  b : Int
  c : Int
  d : Int
  e : Int
def brV (x : Br) : List V := [.int .i64 x.a, .int .i64 x.b, .int .i64 x.c, .int .i64 x.d, .int .i64 x.e]
def brsV (l : List Br) : List (List V) := l.map brV
theorem brsV_get {l : List Br} {i : Nat} (h : i < l.length) : (brsV l)[i]? = some [.int .i64 l[i].a, .int .i64 l[i].b, .int .i64 l[i].c, .int .i64 l[i].d, .int .i64 l[i].e] := by simp [brsV, brV, h]
theorem brsV_length {l : List Br} : (brsV l).length = l.length := by simp [brsV]
theorem brsV_all (l : List Br) : ((brsV l).all fun e => e.length == 5) = true := by simp [brsV, brV]
theorem lds_all2 (ls : List (Int × Int)) : ((ldsV ls).all fun e => e.length == 2) = true := by simp [ldsV]
theorem oks_brs {es : List (List V)} (h : ∀ x ∈ es, Okc (.agg [.int .i64, .int .i64, .int .i64, .int .i64, .int .i64]) x) : ∃ l : List Br, es = brsV l := by
  have key : ∀ x, Okc (.agg [.int .i64, .int .i64, .int .i64, .int .i64, .int .i64]) x → ∃ a : Br, x = brV a ∧ True := by
    intro x hx
    obtain ⟨a, _, rfl, _, h0⟩ := okcL_int (show OkcL _ x from hx)
    obtain ⟨b, _, rfl, _, h0⟩ := okcL_int h0
    obtain ⟨c, _, rfl, _, h0⟩ := okcL_int h0
    obtain ⟨d, _, rfl, _, h0⟩ := okcL_int h0
    obtain ⟨e, _, rfl, _, h0⟩ := okcL_int h0
    obtain rfl := okcL_nil h0
    exact ⟨⟨a, b, c, d, e⟩, rfl, trivial⟩
  obtain ⟨l, h1, _⟩ := oks_map key h
  exact ⟨l, h1⟩
def stp (x : Br) : Int := (x.b - x.a) * x.e + (x.b - x.c) * x.d
def okP (z : Br × (Int × Int)) : Prop := bearOk z.1.a z.1.b z.1.c z.1.d z.1.e ∧ 0 ≤ z.2.1 ∧ z.2.1 ≤ z.2.2 ∧ z.2.2 ≤ 10000000
instance (z : Br × (Int × Int)) : Decidable (okP z) := by unfold okP; exact inferInstance
def loZ (z : Br × (Int × Int)) : Int := (if z.2.2 * stp z.1 < z.2.1 * stp z.1 then z.2.2 * stp z.1 else z.2.1 * stp z.1) / (z.1.d * z.1.e)
def hiZ (z : Br × (Int × Int)) : Int := cdiv (if z.2.2 * stp z.1 > z.2.1 * stp z.1 then z.2.2 * stp z.1 else z.2.1 * stp z.1) (z.1.d * z.1.e)
def brErr (l : List Br) (ts : List (Int × Int)) : Int := if 300 < l.length then 8 else if l.length ≠ ts.length then 10 else if ∀ z ∈ l.zip ts, okP z then 0 else 2
theorem stp_bd {x : Br} (h : bearOk x.a x.b x.c x.d x.e) : (1 ≤ x.d * x.e ∧ x.d * x.e ≤ 90000000000) ∧ -(40000 * (x.d * x.e)) ≤ stp x ∧ stp x ≤ 40000 * (x.d * x.e) ∧ -12000000000 ≤ stp x ∧ stp x ≤ 12000000000 := by
  obtain ⟨h1, h2, h3, h4, h5⟩ := h
  have m1 := mulT (x := x.b - x.a) (y := x.e) (by omega) (by omega)
  have m2 := mulT (x := x.b - x.c) (y := x.d) (by omega) (by omega)
  have m3 := mulT3 h4 h5
  have k1 : x.e * 1 ≤ x.d * x.e := by rw [Int.mul_comm x.d]; exact Int.mul_le_mul_of_nonneg_left h4.1 (by omega)
  have k2 : x.d * 1 ≤ x.d * x.e := Int.mul_le_mul_of_nonneg_left h5.1 (by omega)
  have n1 : ((x.b - x.a) * x.e).natAbs = (x.b - x.a).natAbs * x.e.natAbs := Int.natAbs_mul _ _
  have n2 : ((x.b - x.c) * x.d).natAbs = (x.b - x.c).natAbs * x.d.natAbs := Int.natAbs_mul _ _
  have q1 : (x.b - x.a).natAbs * x.e.natAbs ≤ 20000 * x.e.natAbs := Nat.mul_le_mul (by omega) (Nat.le_refl _)
  have q2 : (x.b - x.c).natAbs * x.d.natAbs ≤ 20000 * x.d.natAbs := Nat.mul_le_mul (by omega) (Nat.le_refl _)
  unfold stp
  refine ⟨m3, ?_, ?_, ?_, ?_⟩ <;> omega
theorem tS_bd {t S D : Int} (ht : 0 ≤ t ∧ t ≤ 10000000) (hD : 1 ≤ D) (hS : -(40000 * D) ≤ S ∧ S ≤ 40000 * D) : -(400000000000 * D) ≤ t * S ∧ t * S ≤ 400000000000 * D := by
  have a1 : t * S ≤ t * (40000 * D) := Int.mul_le_mul_of_nonneg_left hS.2 ht.1
  have a2 : t * (-(40000 * D)) ≤ t * S := Int.mul_le_mul_of_nonneg_left hS.1 ht.1
  have a3 : t * (40000 * D) ≤ 10000000 * (40000 * D) := Int.mul_le_mul_of_nonneg_right ht.2 (by omega)
  rw [Int.mul_neg] at a2
  omega
theorem div_bd {n D : Int} (hD : 1 ≤ D) (h : -(400000000000 * D) ≤ n ∧ n ≤ 400000000000 * D) : -400000000000 ≤ n / D ∧ n / D ≤ 400000000000 :=
  ⟨(Int.le_ediv_iff_mul_le (by omega)).2 (by omega), Int.ediv_le_of_le_mul (by omega) (by omega)⟩
theorem zip_get {l : List Br} {ts : List (Int × Int)} {i : Nat} (h1 : i < l.length) (h2 : i < ts.length) : (l.zip ts)[i]'(by rw [List.length_zip]; omega) = (l[i], ts[i]) := by simp
theorem loZ_bd {z : Br × (Int × Int)} (h : okP z) : -400000000000 ≤ loZ z ∧ loZ z ≤ 400000000000 := by
  obtain ⟨h1, h2, h3, h4⟩ := h
  obtain ⟨a1, a2, a3, a4, a5⟩ := stp_bd h1
  have b1 := tS_bd (t := z.2.1) ⟨h2, by omega⟩ a1.1 ⟨a2, a3⟩
  have b2 := tS_bd (t := z.2.2) ⟨by omega, by omega⟩ a1.1 ⟨a2, a3⟩
  unfold loZ
  split
  · exact div_bd a1.1 b2
  · exact div_bd a1.1 b1
theorem hiZ_bd {z : Br × (Int × Int)} (h : okP z) : -400000000000 ≤ hiZ z ∧ hiZ z ≤ 400000000000 := by
  obtain ⟨h1, h2, h3, h4⟩ := h
  obtain ⟨a1, a2, a3, a4, a5⟩ := stp_bd h1
  have b1 := tS_bd (t := z.2.1) ⟨h2, by omega⟩ a1.1 ⟨a2, a3⟩
  have b2 := tS_bd (t := z.2.2) ⟨by omega, by omega⟩ a1.1 ⟨a2, a3⟩
  unfold hiZ cdiv
  split
  · have := div_bd (n := -(z.2.2 * stp z.1)) a1.1 (by omega); omega
  · have := div_bd (n := -(z.2.1 * stp z.1)) a1.1 (by omega); omega
/-- which of the two products is the lesser -/
theorem swap_neg {u v S : Int} (h : u ≤ v) (hS : S < 0) : (if v * S < u * S then v * S else u * S) = v * S ∧ (if v * S > u * S then v * S else u * S) = u * S := by
  have : v * S ≤ u * S := Int.mul_le_mul_of_nonpos_right h (by omega)
  constructor <;> split <;> omega
theorem swap_pos {u v S : Int} (h : u ≤ v) (hS : ¬ S < 0) : (if v * S < u * S then v * S else u * S) = u * S ∧ (if v * S > u * S then v * S else u * S) = v * S := by
  have : u * S ≤ v * S := Int.mul_le_mul_of_nonneg_right h (by omega)
  constructor <;> split <;> omega
theorem sumK_bd' {α : Type} {f : α → Int} {l : List α} {M : Int} (hM : 0 ≤ M) {k : Nat} (hk : k ≤ l.length) (hf : ∀ j (h : j < l.length), j < k → -M ≤ f l[j] ∧ f l[j] ≤ M) : -(k * M) ≤ sumK f l k ∧ sumK f l k ≤ k * M := by
  have e : sumK f l k = sumK f (l.take k) k := by unfold sumK; rw [List.take_take, Nat.min_self]
  rw [e]
  refine sumK_bd hM (fun p hp => ?_) k (by rw [List.length_take]; omega)
  obtain ⟨j, hj, rfl⟩ := List.getElem_of_mem hp
  rw [List.length_take] at hj
  rw [List.getElem_take]
  exact hf j (by omega) (by omega)
theorem pbridge_bad (l : List Br) (ts : List (Int × Int)) (h : 300 < l.length ∨ l.length ≠ ts.length) (m : Mem) : Gives Try.prog 38 [.lst (brsV l), .lst (ldsV ts)] m (.tup [.agg [.int .i64 0, .int .i64 0], .int .i64 (brErr l ts)]) := by
  have hla := brsV_length (l := l)
  have hlb := ldsV_length (ls := ts)
  unfold brErr
  rcases Nat.lt_or_ge 300 l.length with h1 | h1
  · rw [if_pos h1]
    refine Gives_in Try.func38 rfl Try.ntmps38 Try.results38 (by kernel_rfl) (by simp) rfl fun Q hQ => ?_
    (have FX := And.intro hla hlb; repeat' (first | refine s_tp ?_ | refine s_tn ?_ | refine d_tp ?_ | refine d_tn ?_ | ((first | refine WOs_splitD (fun h => ?_) (fun h => ?_) | refine WOs_splitN (fun h => ?_) (fun h => ?_) | refine WDs_splitD (fun h => ?_) (fun h => ?_) | refine WDs_splitN (fun h => ?_) (fun h => ?_)) <;> first | (exfalso; omega) | skip) | (refine g_op ?_; first | (refine g_call ?_; refine g_args ?_; first | fail) | refine s_mv ?_ | refine s_as ?_ | refine s_bin ?_ | refine s_ld ?_ | refine s_ia ?_ | refine s_fa ?_ | refine s_fd ?_ | refine s_ix ?_ | refine s_un ?_ | refine s_op ?_) | refine WA_seq' ?_ | refine qT_WA ?_ | refine WA_region ?_ | (refine d_raw (id := 18) ?_; refine ⟨fun i => if i == 10 then .w else if i == 1 || i == 3 || i == 7 then .q else .p, [.one 0, .one 1, .one 2, .one 3, .one 4, .one 5, .one 6, .one 7, .one 8, .one 9, .one 10], by kernel_rfl, ?_⟩) | (refine d_raw (id := 19) ?_; refine ⟨fun i => if i == 10 then .w else if i == 1 || i == 3 || i == 7 then .q else .p, [.one 0, .one 1, .one 2, .one 3, .one 4, .one 5, .one 6, .one 7, .one 8, .one 9, .one 10], by kernel_rfl, ?_⟩) | refine WDs_nil ?_ | refine d_gPP cl_nil mkP mkP ?_ | refine d_gPc mkP ?_ | refine d_gPPc mkP mkP ?_ | refine grp_nil ?_ | refine d_gSS cl_nil mkS mkS ?_ | (refine g_d ?_; first | (refine d_args ?_; first | fail) | refine d_op ?_ | refine d_yes ?_ | refine d_no ?_ | refine d_noU ?_) | refine WOs_nil ?_ | (refine g_c ?_; first | refine c_T ?_ | refine c_F ?_) | (refine g_gd ?_; first | refine s_yes ?_ | refine s_no ?_ | refine s_noU ?_) | refine WA_skip ?_ | refine WA_ret ?_ | refine WA_exit ?_ | refine qT_ret ?_ | refine qT_exit ?_ | refine qB_exit ?_ | refine qB_other rfl ?_ | refine qB_normal ?_ | refine qB_ret ?_ | refine WA_block ?_ | refine qT_WAn ?_ | refine WAn_step ?_ | refine qT_normal ?_))
    all_goals (refine r_es hQ ?_; try with_reducible rfl)
  · rw [if_neg (by omega), if_pos (by omega)]
    refine Gives_in Try.func38 rfl Try.ntmps38 Try.results38 (by kernel_rfl) (by simp) rfl fun Q hQ => ?_
    (have FX := And.intro hla hlb; repeat' (first | refine s_tp ?_ | refine s_tn ?_ | refine d_tp ?_ | refine d_tn ?_ | ((first | refine WOs_splitD (fun h => ?_) (fun h => ?_) | refine WOs_splitN (fun h => ?_) (fun h => ?_) | refine WDs_splitD (fun h => ?_) (fun h => ?_) | refine WDs_splitN (fun h => ?_) (fun h => ?_)) <;> first | (exfalso; omega) | skip) | (refine g_op ?_; first | (refine g_call ?_; refine g_args ?_; first | fail) | refine s_mv ?_ | refine s_as ?_ | refine s_bin ?_ | refine s_ld ?_ | refine s_ia ?_ | refine s_fa ?_ | refine s_fd ?_ | refine s_ix ?_ | refine s_un ?_ | refine s_op ?_) | refine WA_seq' ?_ | refine qT_WA ?_ | refine WA_region ?_ | (refine d_raw (id := 18) ?_; refine ⟨fun i => if i == 10 then .w else if i == 1 || i == 3 || i == 7 then .q else .p, [.one 0, .one 1, .one 2, .one 3, .one 4, .one 5, .one 6, .one 7, .one 8, .one 9, .one 10], by kernel_rfl, ?_⟩) | (refine d_raw (id := 19) ?_; refine ⟨fun i => if i == 10 then .w else if i == 1 || i == 3 || i == 7 then .q else .p, [.one 0, .one 1, .one 2, .one 3, .one 4, .one 5, .one 6, .one 7, .one 8, .one 9, .one 10], by kernel_rfl, ?_⟩) | refine WDs_nil ?_ | refine d_gPP cl_nil mkP mkP ?_ | refine d_gPc mkP ?_ | refine d_gPPc mkP mkP ?_ | refine grp_nil ?_ | refine d_gSS cl_nil mkS mkS ?_ | (refine g_d ?_; first | (refine d_args ?_; first | fail) | refine d_op ?_ | refine d_yes ?_ | refine d_no ?_ | refine d_noU ?_) | refine WOs_nil ?_ | (refine g_c ?_; first | refine c_T ?_ | refine c_F ?_) | (refine g_gd ?_; first | refine s_yes ?_ | refine s_no ?_ | refine s_noU ?_) | refine WA_skip ?_ | refine WA_ret ?_ | refine WA_exit ?_ | refine qT_ret ?_ | refine qT_exit ?_ | refine qB_exit ?_ | refine qB_other rfl ?_ | refine qB_normal ?_ | refine qB_ret ?_ | refine WA_block ?_ | refine qT_WAn ?_ | refine WAn_step ?_ | refine qT_normal ?_))
    all_goals (refine r_es hQ ?_; try with_reducible rfl)
theorem pbridge_c (l : List Br) (ts : List (Int × Int)) (h1 : l.length ≤ 300) (h2 : l.length = ts.length) (m : Mem) : Gives Try.prog 38 [.lst (brsV l), .lst (ldsV ts)] m (if ∀ z ∈ l.zip ts, okP z then .tup [.agg [.int .i64 (sumK loZ (l.zip ts) l.length), .int .i64 (sumK hiZ (l.zip ts) l.length)], .int .i64 0] else .tup [.agg [.int .i64 0, .int .i64 0], .int .i64 2]) := by
  have hla := brsV_length (l := l)
  have hlb := ldsV_length (ls := ts)
  have hga := hla
  have hgb := hla
  have hif := hla
  have hzl : (l.zip ts).length = l.length := by rw [List.length_zip]; omega
  have z1 := sumK_zero (f := loZ) (l := l.zip ts)
  have z2 := sumK_zero (f := hiZ) (l := l.zip ts)
  have hfl : (if ∀ z ∈ l.zip ts, okP z then V.tup [.agg [.int .i64 (sumK loZ (l.zip ts) l.length), .int .i64 (sumK hiZ (l.zip ts) l.length)], .int .i64 0] else .tup [.agg [.int .i64 0, .int .i64 0], .int .i64 2]).flat = true := by split <;> rfl
  generalize hE : (if ∀ z ∈ l.zip ts, okP z then V.tup [.agg [.int .i64 (sumK loZ (l.zip ts) l.length), .int .i64 (sumK hiZ (l.zip ts) l.length)], .int .i64 0] else .tup [.agg [.int .i64 0, .int .i64 0], .int .i64 2]) = E at hfl ⊢
  refine Gives_in Try.func38 rfl Try.ntmps38 Try.results38 (by kernel_rfl) (by simp) hfl fun Q hQ => ?_
  (have FX := And.intro hla (And.intro hlb (And.intro hga (And.intro hgb hif))); repeat' (first | refine s_tp ?_ | refine s_tn ?_ | refine d_tp ?_ | refine d_tn ?_ | ((first | refine WOs_splitD (fun h => ?_) (fun h => ?_) | refine WOs_splitN (fun h => ?_) (fun h => ?_) | refine WDs_splitD (fun h => ?_) (fun h => ?_) | refine WDs_splitN (fun h => ?_) (fun h => ?_)) <;> first | (exfalso; omega) | skip) | (refine g_op ?_; first | (refine g_call ?_; refine g_args ?_; first | (refine s_fn (checkbearing_c _ _ _ _ _ _) ?_ <;> try first | omega | assumption) | (refine s_fn (ptension_c _ _ _ _) ?_ <;> try first | omega | assumption) | (refine s_fn (hben _) ?_ <;> try first | omega | assumption) | (refine s_fn (floor_c _ _ ?_ ?_ ?_ _) ?_ <;> try first | omega | assumption) | (refine s_fn (ceil_c _ _ ?_ ?_ ?_ _) ?_ <;> try first | omega | assumption) | fail) | refine s_mv ?_ | refine s_as ?_ | refine s_bin ?_ | refine s_ld ?_ | refine s_ia ?_ | refine s_fa ?_ | refine s_fd ?_ | refine s_ix ?_ | refine s_un ?_ | refine s_op ?_) | refine WA_seq' ?_ | refine qT_WA ?_ | refine WA_region ?_ | (refine d_raw (id := 18) ?_; refine ⟨fun i => if i == 10 then .w else if i == 1 || i == 3 || i == 7 then .q else .p, [.one 0, .one 1, .one 2, .one 3, .one 4, .one 5, .one 6, .one 7, .one 8, .one 9, .one 10], by kernel_rfl, ?_⟩) | (refine d_raw (id := 19) ?_; refine ⟨fun i => if i == 10 then .w else if i == 1 || i == 3 || i == 7 then .q else .p, [.one 0, .one 1, .one 2, .one 3, .one 4, .one 5, .one 6, .one 7, .one 8, .one 9, .one 10], by kernel_rfl, ?_⟩) | refine WDs_nil ?_ | refine d_gPP cl_nil mkP mkP ?_ | refine d_gPc mkP ?_ | refine d_gPPc mkP mkP ?_ | refine grp_nil ?_ | (refine grp_cons (fun _ => checkbearing_c _ _ _ _ _ _) ?_ <;> try first | omega | assumption) | (refine grp_cons (fun _ => ptension_c _ _ _ _) ?_ <;> try first | omega | assumption) | (refine grp_cons (fun _ => hben _) ?_ <;> try first | omega | assumption) | (refine grp_cons (fun _ => floor_c _ _ ?_ ?_ ?_ _) ?_ <;> try first | omega | assumption) | (refine grp_cons (fun _ => ceil_c _ _ ?_ ?_ ?_ _) ?_ <;> try first | omega | assumption) | refine d_gSS cl_nil mkS mkS ?_ | (refine g_d ?_; first | (refine d_args ?_; first | (refine d_fn (checkbearing_c _ _ _ _ _ _) ?_ <;> try first | omega | assumption) | (refine d_fn (ptension_c _ _ _ _) ?_ <;> try first | omega | assumption) | (refine d_fn (hben _) ?_ <;> try first | omega | assumption) | (refine d_fn (floor_c _ _ ?_ ?_ ?_ _) ?_ <;> try first | omega | assumption) | (refine d_fn (ceil_c _ _ ?_ ?_ ?_ _) ?_ <;> try first | omega | assumption) | fail) | (refine d_fnY (checkbearing_c _ _ _ _ _ _) ?_ <;> try first | omega | assumption) | (refine d_fnY (ptension_c _ _ _ _) ?_ <;> try first | omega | assumption) | (refine d_fnY (hben _) ?_ <;> try first | omega | assumption) | (refine d_fnY (floor_c _ _ ?_ ?_ ?_ _) ?_ <;> try first | omega | assumption) | (refine d_fnY (ceil_c _ _ ?_ ?_ ?_ _) ?_ <;> try first | omega | assumption) | refine d_op ?_ | refine d_yes ?_ | refine d_no ?_ | refine d_noU ?_) | refine WOs_nil ?_ | (refine g_c ?_; first | refine c_T ?_ | refine c_F ?_) | (refine g_gd ?_; first | refine s_yes ?_ | refine s_no ?_ | refine s_noU ?_) | refine WA_skip ?_ | refine WA_ret ?_ | refine WA_exit ?_ | refine qT_ret ?_ | refine qT_exit ?_ | refine qB_exit ?_ | refine qB_other rfl ?_ | refine qB_normal ?_ | refine qB_ret ?_ | refine WA_block ?_ | refine qT_WAn ?_ | refine WAn_step ?_ | refine qT_normal ?_))
  refine WA_whileT (σ := Nat) (L := lend m) [1, 4, 6, 25, 26, 27] (fun i => [.v (.lst (ldsV ts)), .ptr 0 0 0, .ptr 1 0 0, .v (.lst (brsV l)), .v (.int .i64 l.length), .v (.int .i64 i)]) (fun i => [.cells .own 23 2 [[.v (.int .i64 0), .v (.int .i64 0)]], .cells .own 23 2 [[.v (.int .i64 (sumK loZ (l.zip ts) i)), .v (.int .i64 (sumK hiZ (l.zip ts) i))]]]) (fun i => i ≤ l.length ∧ ∀ j (h : j < (l.zip ts).length), j < i → okP (l.zip ts)[j]) (fun i => l.length - i) 0 ⟨Nat.zero_le _, fun j _ h => absurd h (Nat.not_lt_zero _)⟩ ?_ ?_ (by decide) ?_ ?_ ?_
  · simp [tget, TV.inst, argT]
  · simp [TB.inst, TV.inst, z1, z2]
  · intro i _; simp [TV.okT]
  · intro i _; simp [TB.ok, TV.okT]
  rintro i ⟨hi1, hi2⟩ B ⟨D, hB⟩ K hK
  simp only [List.map_cons, List.map_nil, TB.inst, TV.inst, tv_map, zipT, List.cons_append, List.nil_append, Nat.add_zero]
  have hlo : -(i * 400000000000 : Int) ≤ sumK loZ (l.zip ts) i ∧ sumK loZ (l.zip ts) i ≤ i * 400000000000 ∧ -(i * 400000000000 : Int) ≤ sumK hiZ (l.zip ts) i ∧ sumK hiZ (l.zip ts) i ≤ i * 400000000000 := by
    have q1 := sumK_bd' (f := loZ) (l := l.zip ts) (M := 400000000000) (by omega) (k := i) (by omega) (fun j h1 h2 => loZ_bd (hi2 j h1 h2))
    have q2 := sumK_bd' (f := hiZ) (l := l.zip ts) (M := 400000000000) (by omega) (k := i) (by omega) (fun j h1 h2 => hiZ_bd (hi2 j h1 h2))
    exact ⟨q1.1, q1.2, q2.1, q2.2⟩
  rcases Nat.lt_or_ge i l.length with hi' | hi'
  · have hga := brsV_get hi'
    have hgb := ldsV_get (ls := ts) (i := i) (by omega)
    have hzg : (l.zip ts)[i]'(by omega) = (l[i], ts[i]'(by omega)) := zip_get hi' (by omega)
    obtain ⟨⟨a, b, c, d, e⟩, hx⟩ : ∃ x, l[i] = x := ⟨_, rfl⟩
    obtain ⟨⟨u, v⟩, ht⟩ : ∃ x, ts[i]'(by omega) = x := ⟨_, rfl⟩
    rw [hx, ht] at hzg
    rw [hx] at hga
    rw [ht] at hgb
    dsimp only at hga hgb
    clear FX
    by_cases hk : bearOk a b c d e
    · have hif : (if bearOk a b c d e then (0 : Int) else 2) = 0 := if_pos hk
      obtain ⟨a1, a2, a3, a4, a5⟩ := stp_bd (x := ⟨a, b, c, d, e⟩) hk
      have hben := fun m => bend_c a b c d e hk m
      obtain ⟨S, hS⟩ : ∃ S, (b - a) * e + (b - c) * d = S := ⟨_, rfl⟩
      unfold stp at a2 a3 a4 a5
      dsimp only at a1 a2 a3 a4 a5
      rw [hS] at a2 a3 a4 a5 hben
      by_cases hu : 0 ≤ u ∧ u ≤ v ∧ v ≤ 10000000
      · have b1 := mulT4 (x := u) (y := S) ⟨hu.1, by omega⟩ ⟨a4, a5⟩
        have b2 := mulT4 (x := v) (y := S) ⟨by omega, by omega⟩ ⟨a4, a5⟩
        have hok : okP (⟨a, b, c, d, e⟩, (u, v)) := ⟨hk, hu⟩
        have c1 := loZ_bd hok
        have c2 := hiZ_bd hok
        have e1 : sumK loZ (l.zip ts) (i + 1) = sumK loZ (l.zip ts) i + loZ (⟨a, b, c, d, e⟩, (u, v)) := by rw [sumK_succ (by omega), hzg]
        have e2 : sumK hiZ (l.zip ts) (i + 1) = sumK hiZ (l.zip ts) i + hiZ (⟨a, b, c, d, e⟩, (u, v)) := by rw [sumK_succ (by omega), hzg]
        have q1 : loZ (⟨a, b, c, d, e⟩, (u, v)) = (if v * S < u * S then v * S else u * S) / (d * e) := by unfold loZ stp; dsimp only; rw [hS]
        have q2 : hiZ (⟨a, b, c, d, e⟩, (u, v)) = cdiv (if v * S > u * S then v * S else u * S) (d * e) := by unfold hiZ stp; dsimp only; rw [hS]
        rw [q1] at c1 e1
        rw [q2] at c2 e2
        have hnx : ∀ j (h : j < (l.zip ts).length), j < i + 1 → okP (l.zip ts)[j] := by
          intro j h1 h2
          rcases Nat.lt_or_ge j i with q | q
          · exact hi2 j h1 q
          · have : j = i := by omega
            subst this
            rw [hzg]; exact hok
        by_cases hneg : S < 0
        · obtain ⟨s1, s2⟩ := swap_neg (v := v) (u := u) hu.2.1 hneg
          rw [s1] at c1 e1
          rw [s2] at c2 e2
          (have FX := And.intro hla (And.intro hlb (And.intro hga (And.intro hgb hif))); repeat' (first | refine s_tp ?_ | refine s_tn ?_ | refine d_tp ?_ | refine d_tn ?_ | ((first | refine WOs_splitD (fun h => ?_) (fun h => ?_) | refine WOs_splitN (fun h => ?_) (fun h => ?_) | refine WDs_splitD (fun h => ?_) (fun h => ?_) | refine WDs_splitN (fun h => ?_) (fun h => ?_)) <;> first | (exfalso; omega) | skip) | (refine g_op ?_; first | (refine g_call ?_; refine g_args ?_; first | (refine s_fn (checkbearing_c _ _ _ _ _ _) ?_ <;> try first | omega | assumption) | (refine s_fn (ptension_c _ _ _ _) ?_ <;> try first | omega | assumption) | (refine s_fn (hben _) ?_ <;> try first | omega | assumption) | (refine s_fn (floor_c _ _ ?_ ?_ ?_ _) ?_ <;> try first | omega | assumption) | (refine s_fn (ceil_c _ _ ?_ ?_ ?_ _) ?_ <;> try first | omega | assumption) | fail) | refine s_mv ?_ | refine s_as ?_ | refine s_bin ?_ | refine s_ld ?_ | refine s_ia ?_ | refine s_fa ?_ | refine s_fd ?_ | refine s_ix ?_ | refine s_un ?_ | refine s_op ?_) | refine WA_seq' ?_ | refine qT_WA ?_ | refine WA_region ?_ | (refine d_raw (id := 18) ?_; refine ⟨fun i => if i == 10 then .w else if i == 1 || i == 3 || i == 7 then .q else .p, [.one 0, .one 1, .one 2, .one 3, .one 4, .one 5, .one 6, .one 7, .one 8, .one 9, .one 10], by kernel_rfl, ?_⟩) | (refine d_raw (id := 19) ?_; refine ⟨fun i => if i == 10 then .w else if i == 1 || i == 3 || i == 7 then .q else .p, [.one 0, .one 1, .one 2, .one 3, .one 4, .one 5, .one 6, .one 7, .one 8, .one 9, .one 10], by kernel_rfl, ?_⟩) | refine WDs_nil ?_ | refine d_gPP cl_nil mkP mkP ?_ | refine d_gPc mkP ?_ | refine d_gPPc mkP mkP ?_ | refine grp_nil ?_ | (refine grp_cons (fun _ => checkbearing_c _ _ _ _ _ _) ?_ <;> try first | omega | assumption) | (refine grp_cons (fun _ => ptension_c _ _ _ _) ?_ <;> try first | omega | assumption) | (refine grp_cons (fun _ => hben _) ?_ <;> try first | omega | assumption) | (refine grp_cons (fun _ => floor_c _ _ ?_ ?_ ?_ _) ?_ <;> try first | omega | assumption) | (refine grp_cons (fun _ => ceil_c _ _ ?_ ?_ ?_ _) ?_ <;> try first | omega | assumption) | refine d_gSS cl_nil mkS mkS ?_ | (refine g_d ?_; first | (refine d_args ?_; first | (refine d_fn (checkbearing_c _ _ _ _ _ _) ?_ <;> try first | omega | assumption) | (refine d_fn (ptension_c _ _ _ _) ?_ <;> try first | omega | assumption) | (refine d_fn (hben _) ?_ <;> try first | omega | assumption) | (refine d_fn (floor_c _ _ ?_ ?_ ?_ _) ?_ <;> try first | omega | assumption) | (refine d_fn (ceil_c _ _ ?_ ?_ ?_ _) ?_ <;> try first | omega | assumption) | fail) | (refine d_fnY (checkbearing_c _ _ _ _ _ _) ?_ <;> try first | omega | assumption) | (refine d_fnY (ptension_c _ _ _ _) ?_ <;> try first | omega | assumption) | (refine d_fnY (hben _) ?_ <;> try first | omega | assumption) | (refine d_fnY (floor_c _ _ ?_ ?_ ?_ _) ?_ <;> try first | omega | assumption) | (refine d_fnY (ceil_c _ _ ?_ ?_ ?_ _) ?_ <;> try first | omega | assumption) | refine d_op ?_ | refine d_yes ?_ | refine d_no ?_ | refine d_noU ?_) | refine WOs_nil ?_ | (refine g_c ?_; first | refine c_T ?_ | refine c_F ?_) | (refine g_gd ?_; first | refine s_yes ?_ | refine s_no ?_ | refine s_noU ?_) | refine WA_skip ?_ | refine WA_ret ?_ | refine WA_exit ?_ | refine qT_ret ?_ | refine qT_exit ?_ | refine qB_exit ?_ | refine qB_other rfl ?_ | refine qB_normal ?_ | refine qB_ret ?_ | refine WA_block ?_ | refine qT_WAn ?_ | refine WAn_step ?_ | refine qT_normal ?_))
          all_goals (rw [← e1, ← e2]; refine nextU_ hK (i + 1) [0, 1] ⟨hi', hnx⟩ (by omega) ?_; rfl)
        · obtain ⟨s1, s2⟩ := swap_pos (v := v) (u := u) hu.2.1 hneg
          rw [s1] at c1 e1
          rw [s2] at c2 e2
          (have FX := And.intro hla (And.intro hlb (And.intro hga (And.intro hgb hif))); repeat' (first | refine s_tp ?_ | refine s_tn ?_ | refine d_tp ?_ | refine d_tn ?_ | ((first | refine WOs_splitD (fun h => ?_) (fun h => ?_) | refine WOs_splitN (fun h => ?_) (fun h => ?_) | refine WDs_splitD (fun h => ?_) (fun h => ?_) | refine WDs_splitN (fun h => ?_) (fun h => ?_)) <;> first | (exfalso; omega) | skip) | (refine g_op ?_; first | (refine g_call ?_; refine g_args ?_; first | (refine s_fn (checkbearing_c _ _ _ _ _ _) ?_ <;> try first | omega | assumption) | (refine s_fn (ptension_c _ _ _ _) ?_ <;> try first | omega | assumption) | (refine s_fn (hben _) ?_ <;> try first | omega | assumption) | (refine s_fn (floor_c _ _ ?_ ?_ ?_ _) ?_ <;> try first | omega | assumption) | (refine s_fn (ceil_c _ _ ?_ ?_ ?_ _) ?_ <;> try first | omega | assumption) | fail) | refine s_mv ?_ | refine s_as ?_ | refine s_bin ?_ | refine s_ld ?_ | refine s_ia ?_ | refine s_fa ?_ | refine s_fd ?_ | refine s_ix ?_ | refine s_un ?_ | refine s_op ?_) | refine WA_seq' ?_ | refine qT_WA ?_ | refine WA_region ?_ | (refine d_raw (id := 18) ?_; refine ⟨fun i => if i == 10 then .w else if i == 1 || i == 3 || i == 7 then .q else .p, [.one 0, .one 1, .one 2, .one 3, .one 4, .one 5, .one 6, .one 7, .one 8, .one 9, .one 10], by kernel_rfl, ?_⟩) | (refine d_raw (id := 19) ?_; refine ⟨fun i => if i == 10 then .w else if i == 1 || i == 3 || i == 7 then .q else .p, [.one 0, .one 1, .one 2, .one 3, .one 4, .one 5, .one 6, .one 7, .one 8, .one 9, .one 10], by kernel_rfl, ?_⟩) | refine WDs_nil ?_ | refine d_gPP cl_nil mkP mkP ?_ | refine d_gPc mkP ?_ | refine d_gPPc mkP mkP ?_ | refine grp_nil ?_ | (refine grp_cons (fun _ => checkbearing_c _ _ _ _ _ _) ?_ <;> try first | omega | assumption) | (refine grp_cons (fun _ => ptension_c _ _ _ _) ?_ <;> try first | omega | assumption) | (refine grp_cons (fun _ => hben _) ?_ <;> try first | omega | assumption) | (refine grp_cons (fun _ => floor_c _ _ ?_ ?_ ?_ _) ?_ <;> try first | omega | assumption) | (refine grp_cons (fun _ => ceil_c _ _ ?_ ?_ ?_ _) ?_ <;> try first | omega | assumption) | refine d_gSS cl_nil mkS mkS ?_ | (refine g_d ?_; first | (refine d_args ?_; first | (refine d_fn (checkbearing_c _ _ _ _ _ _) ?_ <;> try first | omega | assumption) | (refine d_fn (ptension_c _ _ _ _) ?_ <;> try first | omega | assumption) | (refine d_fn (hben _) ?_ <;> try first | omega | assumption) | (refine d_fn (floor_c _ _ ?_ ?_ ?_ _) ?_ <;> try first | omega | assumption) | (refine d_fn (ceil_c _ _ ?_ ?_ ?_ _) ?_ <;> try first | omega | assumption) | fail) | (refine d_fnY (checkbearing_c _ _ _ _ _ _) ?_ <;> try first | omega | assumption) | (refine d_fnY (ptension_c _ _ _ _) ?_ <;> try first | omega | assumption) | (refine d_fnY (hben _) ?_ <;> try first | omega | assumption) | (refine d_fnY (floor_c _ _ ?_ ?_ ?_ _) ?_ <;> try first | omega | assumption) | (refine d_fnY (ceil_c _ _ ?_ ?_ ?_ _) ?_ <;> try first | omega | assumption) | refine d_op ?_ | refine d_yes ?_ | refine d_no ?_ | refine d_noU ?_) | refine WOs_nil ?_ | (refine g_c ?_; first | refine c_T ?_ | refine c_F ?_) | (refine g_gd ?_; first | refine s_yes ?_ | refine s_no ?_ | refine s_noU ?_) | refine WA_skip ?_ | refine WA_ret ?_ | refine WA_exit ?_ | refine qT_ret ?_ | refine qT_exit ?_ | refine qB_exit ?_ | refine qB_other rfl ?_ | refine qB_normal ?_ | refine qB_ret ?_ | refine WA_block ?_ | refine qT_WAn ?_ | refine WAn_step ?_ | refine qT_normal ?_))
          all_goals (rw [← e1, ← e2]; refine nextU_ hK (i + 1) [0, 1] ⟨hi', hnx⟩ (by omega) ?_; rfl)
      · (have FX := And.intro hla (And.intro hlb (And.intro hga (And.intro hgb hif))); repeat' (first | refine s_tp ?_ | refine s_tn ?_ | refine d_tp ?_ | refine d_tn ?_ | ((first | refine WOs_splitD (fun h => ?_) (fun h => ?_) | refine WOs_splitN (fun h => ?_) (fun h => ?_) | refine WDs_splitD (fun h => ?_) (fun h => ?_) | refine WDs_splitN (fun h => ?_) (fun h => ?_)) <;> first | (exfalso; omega) | skip) | (refine g_op ?_; first | (refine g_call ?_; refine g_args ?_; first | (refine s_fn (checkbearing_c _ _ _ _ _ _) ?_ <;> try first | omega | assumption) | (refine s_fn (ptension_c _ _ _ _) ?_ <;> try first | omega | assumption) | (refine s_fn (hben _) ?_ <;> try first | omega | assumption) | (refine s_fn (floor_c _ _ ?_ ?_ ?_ _) ?_ <;> try first | omega | assumption) | (refine s_fn (ceil_c _ _ ?_ ?_ ?_ _) ?_ <;> try first | omega | assumption) | fail) | refine s_mv ?_ | refine s_as ?_ | refine s_bin ?_ | refine s_ld ?_ | refine s_ia ?_ | refine s_fa ?_ | refine s_fd ?_ | refine s_ix ?_ | refine s_un ?_ | refine s_op ?_) | refine WA_seq' ?_ | refine qT_WA ?_ | refine WA_region ?_ | (refine d_raw (id := 18) ?_; refine ⟨fun i => if i == 10 then .w else if i == 1 || i == 3 || i == 7 then .q else .p, [.one 0, .one 1, .one 2, .one 3, .one 4, .one 5, .one 6, .one 7, .one 8, .one 9, .one 10], by kernel_rfl, ?_⟩) | (refine d_raw (id := 19) ?_; refine ⟨fun i => if i == 10 then .w else if i == 1 || i == 3 || i == 7 then .q else .p, [.one 0, .one 1, .one 2, .one 3, .one 4, .one 5, .one 6, .one 7, .one 8, .one 9, .one 10], by kernel_rfl, ?_⟩) | refine WDs_nil ?_ | refine d_gPP cl_nil mkP mkP ?_ | refine d_gPc mkP ?_ | refine d_gPPc mkP mkP ?_ | refine grp_nil ?_ | (refine grp_cons (fun _ => checkbearing_c _ _ _ _ _ _) ?_ <;> try first | omega | assumption) | (refine grp_cons (fun _ => ptension_c _ _ _ _) ?_ <;> try first | omega | assumption) | (refine grp_cons (fun _ => hben _) ?_ <;> try first | omega | assumption) | (refine grp_cons (fun _ => floor_c _ _ ?_ ?_ ?_ _) ?_ <;> try first | omega | assumption) | (refine grp_cons (fun _ => ceil_c _ _ ?_ ?_ ?_ _) ?_ <;> try first | omega | assumption) | refine d_gSS cl_nil mkS mkS ?_ | (refine g_d ?_; first | (refine d_args ?_; first | (refine d_fn (checkbearing_c _ _ _ _ _ _) ?_ <;> try first | omega | assumption) | (refine d_fn (ptension_c _ _ _ _) ?_ <;> try first | omega | assumption) | (refine d_fn (hben _) ?_ <;> try first | omega | assumption) | (refine d_fn (floor_c _ _ ?_ ?_ ?_ _) ?_ <;> try first | omega | assumption) | (refine d_fn (ceil_c _ _ ?_ ?_ ?_ _) ?_ <;> try first | omega | assumption) | fail) | (refine d_fnY (checkbearing_c _ _ _ _ _ _) ?_ <;> try first | omega | assumption) | (refine d_fnY (ptension_c _ _ _ _) ?_ <;> try first | omega | assumption) | (refine d_fnY (hben _) ?_ <;> try first | omega | assumption) | (refine d_fnY (floor_c _ _ ?_ ?_ ?_ _) ?_ <;> try first | omega | assumption) | (refine d_fnY (ceil_c _ _ ?_ ?_ ?_ _) ?_ <;> try first | omega | assumption) | refine d_op ?_ | refine d_yes ?_ | refine d_no ?_ | refine d_noU ?_) | refine WOs_nil ?_ | (refine g_c ?_; first | refine c_T ?_ | refine c_F ?_) | (refine g_gd ?_; first | refine s_yes ?_ | refine s_no ?_ | refine s_noU ?_) | refine WA_skip ?_ | refine WA_ret ?_ | refine WA_exit ?_ | refine qT_ret ?_ | refine qT_exit ?_ | refine qB_exit ?_ | refine qB_other rfl ?_ | refine qB_normal ?_ | refine qB_ret ?_ | refine WA_block ?_ | refine qT_WAn ?_ | refine WAn_step ?_ | refine qT_normal ?_))
        all_goals ((refine r_es hQ ?_; try with_reducible rfl); rw [← hE, if_neg]; intro h0; have h3 := h0 _ (List.getElem_mem (by omega : i < (l.zip ts).length)); rw [hzg] at h3; exact hu h3.2)
    · have hif : (if bearOk a b c d e then (0 : Int) else 2) = 2 := if_neg hk
      (have FX := And.intro hla (And.intro hlb (And.intro hga (And.intro hgb hif))); repeat' (first | refine s_tp ?_ | refine s_tn ?_ | refine d_tp ?_ | refine d_tn ?_ | ((first | refine WOs_splitD (fun h => ?_) (fun h => ?_) | refine WOs_splitN (fun h => ?_) (fun h => ?_) | refine WDs_splitD (fun h => ?_) (fun h => ?_) | refine WDs_splitN (fun h => ?_) (fun h => ?_)) <;> first | (exfalso; omega) | skip) | (refine g_op ?_; first | (refine g_call ?_; refine g_args ?_; first | (refine s_fn (checkbearing_c _ _ _ _ _ _) ?_ <;> try first | omega | assumption) | (refine s_fn (ptension_c _ _ _ _) ?_ <;> try first | omega | assumption) | (refine s_fn (hben _) ?_ <;> try first | omega | assumption) | (refine s_fn (floor_c _ _ ?_ ?_ ?_ _) ?_ <;> try first | omega | assumption) | (refine s_fn (ceil_c _ _ ?_ ?_ ?_ _) ?_ <;> try first | omega | assumption) | fail) | refine s_mv ?_ | refine s_as ?_ | refine s_bin ?_ | refine s_ld ?_ | refine s_ia ?_ | refine s_fa ?_ | refine s_fd ?_ | refine s_ix ?_ | refine s_un ?_ | refine s_op ?_) | refine WA_seq' ?_ | refine qT_WA ?_ | refine WA_region ?_ | (refine d_raw (id := 18) ?_; refine ⟨fun i => if i == 10 then .w else if i == 1 || i == 3 || i == 7 then .q else .p, [.one 0, .one 1, .one 2, .one 3, .one 4, .one 5, .one 6, .one 7, .one 8, .one 9, .one 10], by kernel_rfl, ?_⟩) | (refine d_raw (id := 19) ?_; refine ⟨fun i => if i == 10 then .w else if i == 1 || i == 3 || i == 7 then .q else .p, [.one 0, .one 1, .one 2, .one 3, .one 4, .one 5, .one 6, .one 7, .one 8, .one 9, .one 10], by kernel_rfl, ?_⟩) | refine WDs_nil ?_ | refine d_gPP cl_nil mkP mkP ?_ | refine d_gPc mkP ?_ | refine d_gPPc mkP mkP ?_ | refine grp_nil ?_ | (refine grp_cons (fun _ => checkbearing_c _ _ _ _ _ _) ?_ <;> try first | omega | assumption) | (refine grp_cons (fun _ => ptension_c _ _ _ _) ?_ <;> try first | omega | assumption) | (refine grp_cons (fun _ => hben _) ?_ <;> try first | omega | assumption) | (refine grp_cons (fun _ => floor_c _ _ ?_ ?_ ?_ _) ?_ <;> try first | omega | assumption) | (refine grp_cons (fun _ => ceil_c _ _ ?_ ?_ ?_ _) ?_ <;> try first | omega | assumption) | refine d_gSS cl_nil mkS mkS ?_ | (refine g_d ?_; first | (refine d_args ?_; first | (refine d_fn (checkbearing_c _ _ _ _ _ _) ?_ <;> try first | omega | assumption) | (refine d_fn (ptension_c _ _ _ _) ?_ <;> try first | omega | assumption) | (refine d_fn (hben _) ?_ <;> try first | omega | assumption) | (refine d_fn (floor_c _ _ ?_ ?_ ?_ _) ?_ <;> try first | omega | assumption) | (refine d_fn (ceil_c _ _ ?_ ?_ ?_ _) ?_ <;> try first | omega | assumption) | fail) | (refine d_fnY (checkbearing_c _ _ _ _ _ _) ?_ <;> try first | omega | assumption) | (refine d_fnY (ptension_c _ _ _ _) ?_ <;> try first | omega | assumption) | (refine d_fnY (hben _) ?_ <;> try first | omega | assumption) | (refine d_fnY (floor_c _ _ ?_ ?_ ?_ _) ?_ <;> try first | omega | assumption) | (refine d_fnY (ceil_c _ _ ?_ ?_ ?_ _) ?_ <;> try first | omega | assumption) | refine d_op ?_ | refine d_yes ?_ | refine d_no ?_ | refine d_noU ?_) | refine WOs_nil ?_ | (refine g_c ?_; first | refine c_T ?_ | refine c_F ?_) | (refine g_gd ?_; first | refine s_yes ?_ | refine s_no ?_ | refine s_noU ?_) | refine WA_skip ?_ | refine WA_ret ?_ | refine WA_exit ?_ | refine qT_ret ?_ | refine qT_exit ?_ | refine qB_exit ?_ | refine qB_other rfl ?_ | refine qB_normal ?_ | refine qB_ret ?_ | refine WA_block ?_ | refine qT_WAn ?_ | refine WAn_step ?_ | refine qT_normal ?_))
      all_goals ((refine r_es hQ ?_; try with_reducible rfl); rw [← hE, if_neg]; intro h0; have h3 := h0 _ (List.getElem_mem (by omega : i < (l.zip ts).length)); rw [hzg] at h3; exact hk h3.1)
  · have e : i = l.length := by omega
    subst e
    clear FX
    (have FX := And.intro hla (And.intro hlb (And.intro hga (And.intro hgb hif))); repeat' (first | refine s_tp ?_ | refine s_tn ?_ | refine d_tp ?_ | refine d_tn ?_ | ((first | refine WOs_splitD (fun h => ?_) (fun h => ?_) | refine WOs_splitN (fun h => ?_) (fun h => ?_) | refine WDs_splitD (fun h => ?_) (fun h => ?_) | refine WDs_splitN (fun h => ?_) (fun h => ?_)) <;> first | (exfalso; omega) | skip) | (refine g_op ?_; first | (refine g_call ?_; refine g_args ?_; first | (refine s_fn (checkbearing_c _ _ _ _ _ _) ?_ <;> try first | omega | assumption) | (refine s_fn (ptension_c _ _ _ _) ?_ <;> try first | omega | assumption) | (refine s_fn (hben _) ?_ <;> try first | omega | assumption) | (refine s_fn (floor_c _ _ ?_ ?_ ?_ _) ?_ <;> try first | omega | assumption) | (refine s_fn (ceil_c _ _ ?_ ?_ ?_ _) ?_ <;> try first | omega | assumption) | fail) | refine s_mv ?_ | refine s_as ?_ | refine s_bin ?_ | refine s_ld ?_ | refine s_ia ?_ | refine s_fa ?_ | refine s_fd ?_ | refine s_ix ?_ | refine s_un ?_ | refine s_op ?_) | refine WA_seq' ?_ | refine qT_WA ?_ | refine WA_region ?_ | (refine d_raw (id := 18) ?_; refine ⟨fun i => if i == 10 then .w else if i == 1 || i == 3 || i == 7 then .q else .p, [.one 0, .one 1, .one 2, .one 3, .one 4, .one 5, .one 6, .one 7, .one 8, .one 9, .one 10], by kernel_rfl, ?_⟩) | (refine d_raw (id := 19) ?_; refine ⟨fun i => if i == 10 then .w else if i == 1 || i == 3 || i == 7 then .q else .p, [.one 0, .one 1, .one 2, .one 3, .one 4, .one 5, .one 6, .one 7, .one 8, .one 9, .one 10], by kernel_rfl, ?_⟩) | refine WDs_nil ?_ | refine d_gPP cl_nil mkP mkP ?_ | refine d_gPc mkP ?_ | refine d_gPPc mkP mkP ?_ | refine grp_nil ?_ | (refine grp_cons (fun _ => checkbearing_c _ _ _ _ _ _) ?_ <;> try first | omega | assumption) | (refine grp_cons (fun _ => ptension_c _ _ _ _) ?_ <;> try first | omega | assumption) | (refine grp_cons (fun _ => hben _) ?_ <;> try first | omega | assumption) | (refine grp_cons (fun _ => floor_c _ _ ?_ ?_ ?_ _) ?_ <;> try first | omega | assumption) | (refine grp_cons (fun _ => ceil_c _ _ ?_ ?_ ?_ _) ?_ <;> try first | omega | assumption) | refine d_gSS cl_nil mkS mkS ?_ | (refine g_d ?_; first | (refine d_args ?_; first | (refine d_fn (checkbearing_c _ _ _ _ _ _) ?_ <;> try first | omega | assumption) | (refine d_fn (ptension_c _ _ _ _) ?_ <;> try first | omega | assumption) | (refine d_fn (hben _) ?_ <;> try first | omega | assumption) | (refine d_fn (floor_c _ _ ?_ ?_ ?_ _) ?_ <;> try first | omega | assumption) | (refine d_fn (ceil_c _ _ ?_ ?_ ?_ _) ?_ <;> try first | omega | assumption) | fail) | (refine d_fnY (checkbearing_c _ _ _ _ _ _) ?_ <;> try first | omega | assumption) | (refine d_fnY (ptension_c _ _ _ _) ?_ <;> try first | omega | assumption) | (refine d_fnY (hben _) ?_ <;> try first | omega | assumption) | (refine d_fnY (floor_c _ _ ?_ ?_ ?_ _) ?_ <;> try first | omega | assumption) | (refine d_fnY (ceil_c _ _ ?_ ?_ ?_ _) ?_ <;> try first | omega | assumption) | refine d_op ?_ | refine d_yes ?_ | refine d_no ?_ | refine d_noU ?_) | refine WOs_nil ?_ | (refine g_c ?_; first | refine c_T ?_ | refine c_F ?_) | (refine g_gd ?_; first | refine s_yes ?_ | refine s_no ?_ | refine s_noU ?_) | refine WA_skip ?_ | refine WA_ret ?_ | refine WA_exit ?_ | refine qT_ret ?_ | refine qT_exit ?_ | refine qB_exit ?_ | refine qB_other rfl ?_ | refine qB_normal ?_ | refine qB_ret ?_ | refine WA_block ?_ | refine qT_WAn ?_ | refine WAn_step ?_ | refine qT_normal ?_))
    all_goals ((refine r_es hQ ?_; try with_reducible rfl); rw [← hE, if_pos]; intro z hz; obtain ⟨j, hj, rfl⟩ := List.getElem_of_mem hz; exact hi2 j hj (by omega))
end Go.Proofs.Yteogokmbedmkjaa
