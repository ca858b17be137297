/- the law ActionLeast, over contracts -/
import Derived.Test.YtmigenmibohnkaaC41
import Derived.Test.YtmigenmibohnkaaYF
set_option linter.unusedSimpArgs false
set_option linter.unusedVariables false
namespace Go.Proofs.Ytmigenmibohnkaa
open Go.RowKit
attribute [local irreducible] WA WOs WDs WAn qThen qBlock tput
set_option maxHeartbeats 1000000
set_option maxRecDepth 20000
set_option linter.unusedSimpArgs false
set_option linter.unusedVariables false
set_option maxHeartbeats 4000000
attribute [local irreducible] smB cut sm
theorem uH6_5_14 {N : Nat} {l : List Oper} {t : List (Nat × V)} {m : Mem} {Q : Exit → List (Nat × V) → Mem → Prop} (h : RgN Try.prog N l t m Q (fun i => if i == 3 || i == 4 || i == 5 || i == 9 || i == 11 || i == 14 || i == 15 || i == 19 || i == 20 || i == 21 then .q else .p) [.one 0, .one 1, .one 2, .one 3, .one 4, .one 5, .one 6, .one 7, .one 8, .one 9, .one 10, .one 11, .one 12, .one 13, .one 14, .one 15, .one 16, .one 17, .one 18, .one 19, .one 20, .one 21, .one 22, .one 23]) : WA Try.prog N (.region 14 l.toArray true) t m Q := d_rgN h
theorem least_out (l : List Rk) (n d n2 d2 : Int) (hout : ¬ (few l 12 ∧ sane n d ∧ sane n2 d2 ∧ ¬ (l.length : Int) = 0)) (m : Mem) : Gives Try.prog 5 [.agg [.lst (rksV l)], .agg [.int .i64 n, .int .i64 d], .agg [.int .i64 n2, .int .i64 d2]] m (.bool true) := by
  have hla := rksV_length (l := l)
  refine Gives_in Try.func5 rfl Try.ntmps5 Try.results5 (by kernel_rfl) (by simp) rfl fun Q hQ => ?_
  (have FX := hla; repeat' (first | (refine sx ?_ ?_ <;> intro h <;> first | (exfalso; omega) | skip) | (refine g_op ?_; refine g_call ?_; refine g_args ?_; (first | refine s_fn (lawake_c _) ?_ | refine s_fn (lfew_c _ _ _) ?_ | refine s_fn (lsane_d _ _ _) ?_) <;> try first | omega | assumption) | refine ny ?_ | refine WA_block ?_ | (refine uH6_5_14 ?_; refine ⟨by kernel_rfl, ?_⟩) | ((first | refine grp_cons (fun _ => lawake_c _) ?_ | refine grp_cons (fun _ => lfew_c _ _ _) ?_ | refine grp_cons (fun _ => lsane_d _ _ _) ?_) <;> try first | omega | assumption) | (refine g_d ?_; refine d_args ?_; (first | refine d_fn (lawake_c _) ?_ | refine d_fn (lfew_c _ _ _) ?_ | refine d_fn (lsane_d _ _ _) ?_ | refine d_fnQ (fun _ => lawake_c _) ?_ | refine d_fnQ (fun _ => lfew_c _ _ _) ?_ | refine d_fnQ (fun _ => lsane_d _ _ _) ?_) <;> try first | omega | assumption) | (refine g_d ?_; (first | refine d_fnY (lawake_c _) ?_ | refine d_fnY (lfew_c _ _ _) ?_ | refine d_fnY (lsane_d _ _ _) ?_) <;> try first | omega | assumption)))
  all_goals (try (exfalso; first | exact hout ⟨by assumption, by assumption, by assumption, by assumption⟩ | omega))
  all_goals (refine r_es hQ ?_; try with_reducible rfl)
theorem valR_casesX (l : List Rk) (n d : Int) : ∃ z1 z2 e : Int, rchV (valR l n d) = .tup [.agg [.int .i64 z1, .int .i64 z2], .int .i64 e] := by
  rcases valR l n d with ⟨_ | q, e⟩
  · exact ⟨_, _, _, rfl⟩
  · exact ⟨_, _, _, rfl⟩
theorem cq_ge {p q : Rat} : 0 ≤ cmpQ p q ↔ q ≤ p := by
  have := cmpQ_lt (p := p) (q := q)
  constructor
  · intro h; exact Rat.not_lt.1 fun h2 => by have := this.2 h2; omega
  · intro h
    rcases Int.lt_or_le (cmpQ p q) 0 with h2 | h2
    · exact absurd (this.1 h2) (Rat.not_lt.2 h)
    · exact h2
theorem least_w (l : List Rk) (n d n2 d2 p1 p2 y1 y2 ey cy ex c1 c2 z1 z2 eg c3 r1 r2 eh c4 u1 u2 u3 u4 : Int) (h0 : ¬ (l.length : Int) = 0) (hb : (-1000000000 ≤ n ∧ n ≤ 1000000000) ∧ (-1000000000 ≤ d ∧ d ≤ 1000000000))
    (hfw : ∀ m, Gives Try.prog 21 [.agg [.lst (rksV l)], .int .i64 12] m (.bool true)) (hs1 : ∀ m, Gives Try.prog 22 [.agg [.int .i64 n, .int .i64 d]] m (.bool true)) (hs2 : ∀ m, Gives Try.prog 22 [.agg [.int .i64 n2, .int .i64 d2]] m (.bool true))
    (hre : ∀ m, Gives Try.prog 23 [.agg [.lst (rksV l)], .agg [.int .i64 n, .int .i64 d], .bool false] m (.tup [.agg [.int .i64 p1, .int .i64 p2], .int .i64 0]))
    (hcf : ∀ m, Gives Try.prog 26 [.agg [.int .i64 p1, .int .i64 p2]] m (.int .i64 0))
    (hva : ∀ m, Gives Try.prog 29 [.agg [.lst (rksV l)], .agg [.int .i64 p1, .int .i64 p2]] m (.tup [.agg [.int .i64 y1, .int .i64 y2], .int .i64 ey]))
    (hey : ey = 0 ∨ ey = 8) (hcy : ey = 0 → ∀ m, Gives Try.prog 18 [.agg [.int .i64 y1, .int .i64 y2], .agg [.int .i64 n, .int .i64 d]] m (.int .i64 cy)) (hcy0 : ey = 0 → 0 ≤ cy)
    (hcx : ∀ m, Gives Try.prog 26 [.agg [.int .i64 n2, .int .i64 d2]] m (.int .i64 ex))
    (hvx : ∀ m, Gives Try.prog 29 [.agg [.lst (rksV l)], .agg [.int .i64 n2, .int .i64 d2]] m (.tup [.agg [.int .i64 z1, .int .i64 z2], .int .i64 eg]))
    (k1 : ex = 0 → ∀ m, Gives Try.prog 18 [.agg [.int .i64 n2, .int .i64 d2], .agg [.int .i64 p1, .int .i64 p2]] m (.int .i64 c1))
    (k2 : ex = 0 → ∀ m, Gives Try.prog 18 [.agg [.int .i64 n2, .int .i64 d2], .agg [.int .i64 u1, .int .i64 u2]] m (.int .i64 c2))
    (k3 : ex = 0 → eg = 0 → ∀ m, Gives Try.prog 18 [.agg [.int .i64 z1, .int .i64 z2], .agg [.int .i64 n, .int .i64 d]] m (.int .i64 c3))
    (k4 : ex = 0 → eg = 0 → ¬ (c1 < 0 ∧ 0 ≤ c2 ∧ 0 ≤ c3))
    (hmo : ∀ m, Gives Try.prog 23 [.agg [.lst (rksV l)], .agg [.int .i64 (n + d), .int .i64 d], .bool false] m (.tup [.agg [.int .i64 r1, .int .i64 r2], .int .i64 eh]))
    (hfr : eh = 0 → ∀ m, Gives Try.prog 26 [.agg [.int .i64 r1, .int .i64 r2]] m (.int .i64 0))
    (k5 : eh = 0 → ∀ m, Gives Try.prog 18 [.agg [.int .i64 r1, .int .i64 r2], .agg [.int .i64 p1, .int .i64 p2]] m (.int .i64 c4)) (k6 : eh = 0 → 0 ≤ c4)
    (hga : (rksV l)[0]? = some [.int .i64 u1, .int .i64 u2, .int .i64 u3, .int .i64 u4]) (m : Mem) : Gives Try.prog 5 [.agg [.lst (rksV l)], .agg [.int .i64 n, .int .i64 d], .agg [.int .i64 n2, .int .i64 d2]] m (.bool true) := by
  have hla := rksV_length (l := l)
  refine Gives_in Try.func5 rfl Try.ntmps5 Try.results5 (by kernel_rfl) (by simp) rfl fun Q hQ => ?_
  (have FX := And.intro hla hga; repeat' (first | (refine sx ?_ ?_ <;> intro h <;> first | (exfalso; omega) | skip) | (refine g_op ?_; refine g_call ?_; refine g_args ?_; (first | refine s_fn (lawake_c _) ?_ | refine s_fn (hfw _) ?_ | refine s_fn (hs1 _) ?_ | refine s_fn (hs2 _) ?_ | refine s_fn (hre _) ?_ | refine s_fn (hcf _) ?_ | refine s_fn (hva _) ?_ | refine s_fn (hcx _) ?_ | refine s_fn (hvx _) ?_ | refine s_fn (hmo _) ?_ | refine s_fn (hcy (by assumption) _) ?_ | refine s_fn (k1 (by assumption) _) ?_ | refine s_fn (k2 (by assumption) _) ?_ | refine s_fn (k3 (by assumption) (by assumption) _) ?_ | refine s_fn (hfr (by assumption) _) ?_ | refine s_fn (k5 (by assumption) _) ?_) <;> try first | omega | assumption) | refine ny ?_ | refine WA_block ?_ | (refine uH6_5_14 ?_; refine ⟨by kernel_rfl, ?_⟩) | ((first | refine grp_cons (fun _ => lawake_c _) ?_ | refine grp_cons (fun _ => hfw _) ?_ | refine grp_cons (fun _ => hs1 _) ?_ | refine grp_cons (fun _ => hs2 _) ?_ | refine grp_cons (fun _ => hre _) ?_ | refine grp_cons (fun _ => hcf _) ?_ | refine grp_cons (fun _ => hva _) ?_ | refine grp_cons (fun _ => hcx _) ?_ | refine grp_cons (fun _ => hvx _) ?_ | refine grp_cons (fun _ => hmo _) ?_ | refine grp_cons (fun _ => hcy (by assumption) _) ?_ | refine grp_cons (fun _ => k1 (by assumption) _) ?_ | refine grp_cons (fun _ => k2 (by assumption) _) ?_ | refine grp_cons (fun _ => k3 (by assumption) (by assumption) _) ?_ | refine grp_cons (fun _ => hfr (by assumption) _) ?_ | refine grp_cons (fun _ => k5 (by assumption) _) ?_) <;> try first | omega | assumption) | (refine g_d ?_; refine d_args ?_; (first | refine d_fn (lawake_c _) ?_ | refine d_fn (hfw _) ?_ | refine d_fn (hs1 _) ?_ | refine d_fn (hs2 _) ?_ | refine d_fn (hre _) ?_ | refine d_fn (hcf _) ?_ | refine d_fn (hva _) ?_ | refine d_fn (hcx _) ?_ | refine d_fn (hvx _) ?_ | refine d_fn (hmo _) ?_ | refine d_fn (hcy (by assumption) _) ?_ | refine d_fn (k1 (by assumption) _) ?_ | refine d_fn (k2 (by assumption) _) ?_ | refine d_fn (k3 (by assumption) (by assumption) _) ?_ | refine d_fn (hfr (by assumption) _) ?_ | refine d_fn (k5 (by assumption) _) ?_ | refine d_fnQ (fun _ => lawake_c _) ?_ | refine d_fnQ (fun _ => hfw _) ?_ | refine d_fnQ (fun _ => hs1 _) ?_ | refine d_fnQ (fun _ => hs2 _) ?_ | refine d_fnQ (fun _ => hre _) ?_ | refine d_fnQ (fun _ => hcf _) ?_ | refine d_fnQ (fun _ => hva _) ?_ | refine d_fnQ (fun _ => hcx _) ?_ | refine d_fnQ (fun _ => hvx _) ?_ | refine d_fnQ (fun _ => hmo _) ?_ | refine d_fnQ (fun _ => hcy (by assumption) _) ?_ | refine d_fnQ (fun _ => k1 (by assumption) _) ?_ | refine d_fnQ (fun _ => k2 (by assumption) _) ?_ | refine d_fnQ (fun _ => k3 (by assumption) (by assumption) _) ?_ | refine d_fnQ (fun _ => hfr (by assumption) _) ?_ | refine d_fnQ (fun _ => k5 (by assumption) _) ?_) <;> try first | omega | assumption) | (refine g_d ?_; (first | refine d_fnY (lawake_c _) ?_ | refine d_fnY (hfw _) ?_ | refine d_fnY (hs1 _) ?_ | refine d_fnY (hs2 _) ?_ | refine d_fnY (hre _) ?_ | refine d_fnY (hcf _) ?_ | refine d_fnY (hva _) ?_ | refine d_fnY (hcx _) ?_ | refine d_fnY (hvx _) ?_ | refine d_fnY (hmo _) ?_ | refine d_fnY (hcy (by assumption) _) ?_ | refine d_fnY (k1 (by assumption) _) ?_ | refine d_fnY (k2 (by assumption) _) ?_ | refine d_fnY (k3 (by assumption) (by assumption) _) ?_ | refine d_fnY (hfr (by assumption) _) ?_ | refine d_fnY (k5 (by assumption) _) ?_) <;> try first | omega | assumption)))
  all_goals (try (exfalso; omega))
  all_goals (refine r_es hQ ?_; try with_reducible rfl)
theorem cmp_e (e : Int) (he : e ≠ 0) {P : Prop} : e = 0 → P := fun h => absurd h he
theorem least_in (l : List Rk) (n d n2 d2 : Int) (hf : few l 12) (hsa : sane n d) (hsb : sane n2 d2) (h0 : ¬ (l.length : Int) = 0) (m : Mem) : Gives Try.prog 5 [.agg [.lst (rksV l)], .agg [.int .i64 n, .int .i64 d], .agg [.int .i64 n2, .int .i64 d2]] m (.bool true) := by
  obtain ⟨hB, hl⟩ := few_b hf
  obtain ⟨b1, b2⟩ := sane_b hsa
  obtain ⟨b3, b4⟩ := sane_b hsb
  have hpos : 0 < (l.map toP).length := by rw [List.length_map]; omega
  have hla := rksV_length (l := l)
  have hfw := fun m => lfew_c l 12 m
  rw [decide_eq_true hf] at hfw
  have hs1 := fun m => lsane_d n d m
  rw [decide_eq_true hsa] at hs1
  have hs2 := fun m => lsane_d n2 d2 m
  rw [decide_eq_true hsb] at hs2
  have hre := fun m => areachx_c l hB n d b1 b2 false m
  rcases rcR_cases (l := l) (n := n) (d := d) false with ⟨p, hp, hat, hrc, hsp⟩ | ⟨e, he, hp⟩
  · rw [hp] at hre
    have hcu := atE_at hat
    obtain ⟨hv, hks, g1, g2, g3, g4⟩ := atE_ok hat
    have hcf := fun m => rcheckfrac_c p.num p.den (B64_num hsp) (B64_den hsp) m
    rw [frErr_sm hsp] at hcf
    have hva := fun m => avalue_c l hB p.num p.den (B64_num hsp) (B64_den hsp) m
    rw [valR_q hcu hsp] at hva
    have hcx := fun m => rcheckfrac_c n2 d2 b3 b4 m
    have hvx := fun m => avalue_c l hB n2 d2 b3 b4 m
    have hf5 := frErr_ok g1
    have hb5 : B64 (n + d) := by constructor <;> omega
    have hmo := fun m => areachx_c l hB (n + d) d hb5 b2 false m
    have hq1 := toQ_more g1
    have hga := ptsV_get (c := l.map toP) (i := 0) hpos
    rw [← hks] at hga
    have h00 := (hv.sm 0 hpos).1
    have hgt : ([V.int .i64 n, V.int .i64 d] : List V) = [.int .i64 (toQ (n, d)).num, .int .i64 ((toQ (n, d)).den : Int)] := by rw [g2, g3]
    obtain ⟨y1, y2, ey, cy, w1, w2, w3, w4⟩ : ∃ y1 y2 ey cy : Int, (∀ m, Gives Try.prog 29 [.agg [.lst (rksV l)], .agg [.int .i64 p.num, .int .i64 (p.den : Int)]] m (.tup [.agg [.int .i64 y1, .int .i64 y2], .int .i64 ey])) ∧ (ey = 0 ∨ ey = 8) ∧ (ey = 0 → ∀ m, Gives Try.prog 18 [.agg [.int .i64 y1, .int .i64 y2], .agg [.int .i64 n, .int .i64 d]] m (.int .i64 cy)) ∧ (ey = 0 → 0 ≤ cy) := by
      by_cases ho : valOk (l.map toP) p
      · rw [if_pos ho] at hva
        have hs := sm_valE hv ho
        refine ⟨_, _, _, cmpQ (valE (l.map toP) p) (toQ (n, d)), hva, .inl rfl, fun _ m => ?_, fun _ => ?_⟩
        · rw [hgt]; exact bcmp_c _ _ hs g4 m
        · have := rch_val hv hrc
          unfold rchd at this
          simp only [Bool.false_eq_true, if_false, decide_eq_true_eq] at this
          exact cq_ge.2 this
      · rw [if_neg ho] at hva
        exact ⟨_, _, _, 0, hva, .inr rfl, cmp_e 8 (by decide), cmp_e 8 (by decide)⟩
    obtain ⟨r1, r2, eh, c4, v1, v2, v3, v4⟩ : ∃ r1 r2 eh c4 : Int, (∀ m, Gives Try.prog 23 [.agg [.lst (rksV l)], .agg [.int .i64 (n + d), .int .i64 d], .bool false] m (.tup [.agg [.int .i64 r1, .int .i64 r2], .int .i64 eh])) ∧ (eh = 0 → ∀ m, Gives Try.prog 26 [.agg [.int .i64 r1, .int .i64 r2]] m (.int .i64 0)) ∧ (eh = 0 → ∀ m, Gives Try.prog 18 [.agg [.int .i64 r1, .int .i64 r2], .agg [.int .i64 p.num, .int .i64 (p.den : Int)]] m (.int .i64 c4)) ∧ (eh = 0 → 0 ≤ c4) := by
      rcases rcR_cases (l := l) (n := n + d) (d := d) false with ⟨r, h1, _, h2, h3⟩ | ⟨e, he, h1⟩
      · rw [h1] at hmo
        refine ⟨_, _, _, cmpQ r p, hmo, fun _ m => ?_, fun _ m => bcmp_c r p h3 hsp m, fun _ => ?_⟩
        · have := rcheckfrac_c r.num r.den (B64_num h3) (B64_den h3) m
          rw [frErr_sm h3] at this
          exact this
        · rw [hq1] at h2
          exact cq_ge.2 (rch_more hv (by grind) hrc h2)
      · rw [h1] at hmo
        exact ⟨_, _, _, 0, hmo, cmp_e e he, cmp_e e he, cmp_e e he⟩
    obtain ⟨z1, z2, eg, c1, c2, c3, x1, x2, x3, x4, x5⟩ : ∃ z1 z2 eg c1 c2 c3 : Int, (∀ m, Gives Try.prog 29 [.agg [.lst (rksV l)], .agg [.int .i64 n2, .int .i64 d2]] m (.tup [.agg [.int .i64 z1, .int .i64 z2], .int .i64 eg])) ∧ (frErr n2 d2 = 0 → ∀ m, Gives Try.prog 18 [.agg [.int .i64 n2, .int .i64 d2], .agg [.int .i64 p.num, .int .i64 (p.den : Int)]] m (.int .i64 c1)) ∧ (frErr n2 d2 = 0 → ∀ m, Gives Try.prog 18 [.agg [.int .i64 n2, .int .i64 d2], .agg [.int .i64 (Rat.num ((at' (l.map toP) 0).1)), .int .i64 ((Rat.den ((at' (l.map toP) 0).1) : Nat) : Int)]] m (.int .i64 c2)) ∧ (frErr n2 d2 = 0 → eg = 0 → ∀ m, Gives Try.prog 18 [.agg [.int .i64 z1, .int .i64 z2], .agg [.int .i64 n, .int .i64 d]] m (.int .i64 c3)) ∧ (frErr n2 d2 = 0 → eg = 0 → ¬ (c1 < 0 ∧ 0 ≤ c2 ∧ 0 ≤ c3)) := by
      by_cases h1 : frErr n2 d2 = 0
      · obtain ⟨h3, h4⟩ := frErr_q h1
        unfold rawQ at h3
        injection h3 with h5 h6
        have hgx : ([V.int .i64 n2, V.int .i64 d2] : List V) = [.int .i64 (toQ (n2, d2)).num, .int .i64 ((toQ (n2, d2)).den : Int)] := by rw [h5, h6]
        have hz : atE l n2 d2 = 0 := by unfold atE; rw [if_neg (by omega), h1]
        unfold valR at hvx
        rw [if_neg (by omega)] at hvx
        have q1 : ∀ m, Gives Try.prog 18 [.agg [.int .i64 n2, .int .i64 d2], .agg [.int .i64 p.num, .int .i64 (p.den : Int)]] m (.int .i64 (cmpQ (toQ (n2, d2)) p)) := fun m => by rw [hgx]; exact bcmp_c _ _ h4 hsp m
        have q2 : ∀ m, Gives Try.prog 18 [.agg [.int .i64 n2, .int .i64 d2], .agg [.int .i64 (Rat.num ((at' (l.map toP) 0).1)), .int .i64 ((Rat.den ((at' (l.map toP) 0).1) : Nat) : Int)]] m (.int .i64 (cmpQ (toQ (n2, d2)) (at' (l.map toP) 0).1)) := fun m => by rw [hgx]; exact bcmp_c _ _ h4 h00 m
        by_cases ho : valOk (l.map toP) (toQ (n2, d2))
        · rw [if_pos ho] at hvx
          have hs := sm_valE hv ho
          refine ⟨_, _, _, cmpQ (toQ (n2, d2)) p, cmpQ (toQ (n2, d2)) (at' (l.map toP) 0).1, cmpQ (valE (l.map toP) (toQ (n2, d2))) (toQ (n, d)), hvx, fun _ => q1, fun _ => q2, fun _ _ m => ?_, fun _ _ => ?_⟩
          · rw [hgt]; exact bcmp_c _ _ hs g4 m
          · rintro ⟨k1, k2, k3⟩
            have k1 := cmpQ_lt.1 k1
            have k2 := cq_ge.1 k2
            have k3 := cq_ge.1 k3
            have := rch_least hv hrc k2 k1
            grind
        · rw [if_neg ho] at hvx
          exact ⟨_, _, _, _, _, 0, hvx, fun _ => q1, fun _ => q2, fun _ => cmp_e 8 (by decide), fun _ => cmp_e 8 (by decide)⟩
      · rcases valR_casesX l n2 d2 with ⟨z1, z2, eg, hz⟩
        rw [hz] at hvx
        exact ⟨z1, z2, eg, 0, 0, 0, hvx, fun h => absurd h h1, fun h => absurd h h1, fun h => absurd h h1, fun h => absurd h h1⟩
    exact least_w l n d n2 d2 _ _ y1 y2 ey cy _ c1 c2 z1 z2 eg c3 r1 r2 eh c4 _ _ _ _ h0 (by omega) hfw hs1 hs2 hre hcf w1 w2 w3 w4 hcx x1 x2 x3 x4 x5 v1 v2 v3 v4 hga m
  · rw [hp] at hre
    have hx0 := he
    simp only [rchV, frO] at hre
    refine Gives_in Try.func5 rfl Try.ntmps5 Try.results5 (by kernel_rfl) (by simp) rfl fun Q hQ => ?_
    (have FX := And.intro hla hx0; repeat' (first | (refine sx ?_ ?_ <;> intro h <;> first | (exfalso; omega) | skip) | (refine g_op ?_; refine g_call ?_; refine g_args ?_; (first | refine s_fn (lawake_c _) ?_ | refine s_fn (hfw _) ?_ | refine s_fn (hs1 _) ?_ | refine s_fn (hs2 _) ?_ | refine s_fn (hre _) ?_) <;> try first | omega | assumption) | refine ny ?_ | refine WA_block ?_ | (refine uH6_5_14 ?_; refine ⟨by kernel_rfl, ?_⟩) | ((first | refine grp_cons (fun _ => lawake_c _) ?_ | refine grp_cons (fun _ => hfw _) ?_ | refine grp_cons (fun _ => hs1 _) ?_ | refine grp_cons (fun _ => hs2 _) ?_ | refine grp_cons (fun _ => hre _) ?_) <;> try first | omega | assumption) | (refine g_d ?_; refine d_args ?_; (first | refine d_fn (lawake_c _) ?_ | refine d_fn (hfw _) ?_ | refine d_fn (hs1 _) ?_ | refine d_fn (hs2 _) ?_ | refine d_fn (hre _) ?_ | refine d_fnQ (fun _ => lawake_c _) ?_ | refine d_fnQ (fun _ => hfw _) ?_ | refine d_fnQ (fun _ => hs1 _) ?_ | refine d_fnQ (fun _ => hs2 _) ?_ | refine d_fnQ (fun _ => hre _) ?_) <;> try first | omega | assumption) | (refine g_d ?_; (first | refine d_fnY (lawake_c _) ?_ | refine d_fnY (hfw _) ?_ | refine d_fnY (hs1 _) ?_ | refine d_fnY (hs2 _) ?_ | refine d_fnY (hre _) ?_) <;> try first | omega | assumption)))
    all_goals (try (exfalso; omega))
    all_goals (refine r_es hQ ?_; try with_reducible rfl)
theorem least_law (l : List Rk) (n d n2 d2 : Int) (m : Mem) : Gives Try.prog 5 [.agg [.lst (rksV l)], .agg [.int .i64 n, .int .i64 d], .agg [.int .i64 n2, .int .i64 d2]] m (.bool true) := by
  by_cases h : few l 12 ∧ sane n d ∧ sane n2 d2 ∧ ¬ (l.length : Int) = 0
  · exact least_in l n d n2 d2 h.1 h.2.1 h.2.2.1 h.2.2.2 m
  · exact least_out l n d n2 d2 h m
end Go.Proofs.Ytmigenmibohnkaa
