/- contract: the order of events, in the reference -/
import Derived.Test.YtbcjcbcakcdnfaaGreatC50
import Derived.Test.YtbcjcbcakcdnfaaGreatC32
import Derived.Test.YtbcjcbcakcdnfaaGreatC37
import Derived.Test.YtbcjcbcakcdnfaaGreatNG
import Derived.Test.YtbcjcbcakcdnfaaGreatD13
import Derived.Test.YtbcjcbcakcdnfaaGreatYE
import Derived.Test.YtbcjcbcakcdnfaaGreatC44
set_option linter.unusedSimpArgs false
set_option linter.unusedVariables false
namespace Go.Proofs.YtbcjcbcakcdnfaaGreat
open Go.RowKit
attribute [local irreducible] WA WOs WDs WAn qThen qBlock tput
set_option maxHeartbeats 1000000
set_option maxRecDepth 20000
set_option linter.unusedSimpArgs false
set_option linter.unusedVariables false
set_option maxHeartbeats 8000000
attribute [local irreducible] smB cut sm
def nusV (l : List Hp) : List (List V) := l.map fun h => [V.int .i64 (h.1 : Int)]
def dpsV (l : List Hp) : List (List V) := l.map fun h => [V.int .i64 h.2.num, V.int .i64 (h.2.den : Int)]
theorem nusV_length {l : List Hp} : (nusV l).length = l.length := by simp [nusV]
theorem dpsV_length {l : List Hp} : (dpsV l).length = l.length := by simp [dpsV]
theorem dpsV_get {l : List Hp} {i : Nat} (h : i < l.length) : (dpsV l)[i]? = some [V.int .i64 (l.getD i hp0).2.num, V.int .i64 ((l.getD i hp0).2.den : Int)] := by
  unfold dpsV; rw [List.getElem?_map, list_get h]; rfl
theorem nusV_plain (l : List Hp) : plainLL (nusV l) = true := by
  induction l with
  | nil => rfl
  | cons x xs ih => simp only [nusV, List.map_cons, plainLL, plainL, V.plain, Bool.true_and] at ih ⊢; exact ih
theorem dpsV_plain (l : List Hp) : plainLL (dpsV l) = true := by
  induction l with
  | nil => rfl
  | cons x xs ih => simp only [dpsV, List.map_cons, plainLL, plainL, V.plain, Bool.true_and] at ih ⊢; exact ih
theorem nusV_ins (l : List Hp) (d : Hp) : nusV (insH l d) = (nusV l).take (insHN l d.2) ++ [V.int .i64 (d.1 : Int)] :: (nusV l).drop (insHN l d.2) := by unfold nusV insH; simp [List.map_take, List.map_drop]
theorem dpsV_ins (l : List Hp) (d : Hp) : dpsV (insH l d) = (dpsV l).take (insHN l d.2) ++ [V.int .i64 d.2.num, V.int .i64 (d.2.den : Int)] :: (dpsV l).drop (insHN l d.2) := by unfold dpsV insH; simp [List.map_take, List.map_drop]
theorem insHN_at' {l : List Hp} {x : Rat} {n : Nat} (hn : n ≤ l.length) (h : ∀ j, j < n → (l.getD j hp0).2 ≤ x) (h2 : n = l.length ∨ ¬ (l.getD n hp0).2 ≤ x) : insHN l x = n := by
  unfold insHN
  exact tw_at (d := hp0) hn (fun j hj => decide_eq_true (h j hj)) (h2.imp id fun h => decide_eq_false h)
def roSt (k : Nat) : List Hp → TV
  | [] => .v .nilsl
  | _ :: r => .sl k (r.length + 1)
def roE (a : ActR) : List Hp → List TB
  | [] => [actT a]
  | p :: r => [actT a, .cells .own 3 1 ((nusV (p :: r)).map (List.map TV.v)), .cells .own 30 2 ((dpsV (p :: r)).map (List.map TV.v))]
def roS (l : List Hp) (i : Nat) : List TV := [.ptr 0 0 0, roSt 1 l, roSt 2 l, .v (.int .i64 i)]
theorem roE_ok {a : ActR} {l : List Hp} : (roE a l).all (TB.ok (roE a l).length) = true := by
  cases l with
  | nil => simp [TB.ok, TV.okT, roE, actT]
  | cons p r => simp only [roE, actT, List.all_cons, TB.ok, TV.okT, List.all_nil, Bool.and_true, Bool.and_self, tv_ok]
theorem roS_ok {a : ActR} {l : List Hp} {i : Nat} : (roS l i).all (TV.okT (roE a l).length) = true := by
  cases l with
  | nil => simp [TV.okT, roE, roS, roSt]
  | cons p r => simp [TV.okT, roE, roS, roSt]
theorem ro_fz {P : Program} {N : Nat} {c : Code} {Q : Exit → List (Nat × V) → Mem → Prop} {B : Mem} {b0 : Blk} {n T1 T2 : Nat} {i : Int} {es1 es2 : List (List V)} (h1 : es1.length = n) (h2 : es2.length = n) (h : WA P N c [(1, .ptr B.length 0 0), (5, .lst es1), (6, .lst es2), (7, .int .i64 i)] (B ++ [b0, .cells .ro T1 1 es1, .cells .ro T2 2 es2]) Q) :
    WA P N c [(1, .ptr B.length 0 0), (5, .sl (B.length + 1) n), (6, .sl (B.length + 2) n), (7, .int .i64 i)] (B ++ [b0, .cells .own T1 1 es1, .cells .own T2 2 es2]) Q := by
  refine WA_fz (b := B.length + 1) (st := .own) (ty := T1) (sz := 1) (es := es1) (by simp) ?_
  refine WA_fz (b := B.length + 2) (st := .own) (ty := T2) (sz := 2) (es := es2) (by simp) ?_
  have t1 : es1.take n = es1 := by rw [← h1]; exact List.take_length
  have t2 : es2.take n = es2 := by rw [← h2]; exact List.take_length
  have l1 : n ≤ es1.length := by omega
  have l2 : n ≤ es2.length := by omega
  simp only [List.map_cons, List.map_nil, frzV]
  simp [t1, t2, l1, l2]
  exact h
theorem nusV_take (l : List Hp) (n : Nat) : (nusV l).take n = nusV (l.take n) := by unfold nusV; rw [List.map_take]
theorem nusV_drop (l : List Hp) (n : Nat) : (nusV l).drop n = nusV (l.drop n) := by unfold nusV; rw [List.map_drop]
theorem dpsV_take (l : List Hp) (n : Nat) : (dpsV l).take n = dpsV (l.take n) := by unfold dpsV; rw [List.map_take]
theorem dpsV_drop (l : List Hp) (n : Nat) : (dpsV l).drop n = dpsV (l.drop n) := by unfold dpsV; rw [List.map_drop]
theorem insH_ne (l : List Hp) (d : Hp) : ∃ p r, insH l d = p :: r := by
  unfold insH
  cases l.take (insHN l d.2) with
  | nil => exact ⟨_, _, rfl⟩
  | cons a b => exact ⟨_, _, rfl⟩
theorem insH_lenN {l : List Hp} {d : Hp} {n : Nat} (hn : n ≤ l.length) (h : insHN l d.2 = n) : (insH l d).length = n + 1 + (l.length - n) := by
  unfold insH
  rw [h, List.length_append, List.length_take, List.length_cons, List.length_drop]
  omega
theorem fin_t3B {m0 D X B : Mem} {v1 v2 v3 u1 u2 u3 : V} {R : V → Option Mem → Prop} (hB : B = lend m0 ++ D) (h1 : FrzTo m0 (B ++ X) v1 u1) (h2 : FrzTo m0 (B ++ X) v2 u2) (h3 : FrzTo m0 (B ++ X) v3 u3) (h : R (.tup [u1, u2, u3]) none) : Fin m0 R (.tup [v1, v2, v3]) (B ++ X) := by
  subst hB
  refine .inr ⟨D ++ X, _, by simp, ?_, h⟩
  unfold FrzTo at h1 h2 h3
  show (frzs (frz _ _ 3) _).map V.tup = _
  simp only [frzs, h1, h2, h3, Option.map_some]
def nlV : V → V
  | .nilsl => .lst []
  | v => v
theorem nlV_rel {w : World} {ρ : List Re} {B : Nat → Prop} {v : V} {x : Value} (h : RelV w ρ B v x) : RelV w ρ B (nlV v) x := by
  unfold nlV
  split
  · cases h
    exact .lnil none 0 (by unfold maxLen; omega) (fun _ => rfl)
  · exact h
theorem WA_nl {P : Program} {N : Nat} {t : List (Nat × V)} {m : Mem} {c : Code} {Q : Exit → List (Nat × V) → Mem → Prop} (h : WA P N c (t.map fun p => (p.1, nlV p.2)) m Q) : WA P N c t m Q := by
  unfold WA at h ⊢
  intro F hF z w ρ a hR
  have e : ∀ (t : List (Nat × V)) i, tget (t.map fun p => (p.1, nlV p.2)) i = nlV (tget t i) := by
    intro t i
    induction t with
    | nil => rfl
    | cons p r ih =>
      simp only [List.map_cons, tget]
      split
      · rfl
      · exact ih
  exact h F hF z w ρ a ⟨hR.mem, fun i => by rw [e]; exact nlV_rel (hR.tm i), hR.size, hR.defers⟩
def roV (a : ActR) : V := match hapR a a.evs.length with
  | some l => .tup [.lst (nusV l), .lst (dpsV l), .bool true]
  | none => .tup [.lst [], .lst [], .bool false]
def hrL (a : ActR) (i : Nat) : List Hp := (hapR a i).getD []
theorem hr_next {a : ActR} {i : Nat} {l : List Hp} (h : hapR a i = some l) : (∀ x e, evtP a i = (some x, e) → hapR a (i + 1) = some (insH l (i, x))) ∧ (evtP a i = (none, 12) → hapR a (i + 1) = some l) ∧ (evtP a i = (none, 8) → hapR a (i + 1) = none) := by
  refine ⟨fun x e hx => ?_, fun hx => ?_, fun hx => ?_⟩ <;> simp only [hapR, h, hx] <;> rfl
theorem hr_sm {a : ActR} (h : acErr a = 0) {n : Nat} {l : List Hp} (hn : n ≤ a.evs.length) (hl : hapR a n = some l) : ∀ p ∈ l, sm p.2 := by
  intro p hp
  rw [hapR_eq] at hl
  obtain ⟨l0, h1, rfl⟩ := Option.map_eq_some_iff.1 hl
  rw [srtH_mem] at hp
  obtain ⟨g1, g2⟩ := (hapP_num h1).2 p hp
  exact (evtP_sm h (by omega) g2).1
theorem hr_up {a : ActR} {n : Nat} (h : hapR a n = none) {m : Nat} (hm : n ≤ m) : hapR a m = none := by
  rw [hapR_eq] at h ⊢
  have h0 : hapP a n = none := by simpa using h
  rw [hapP_up h0 hm]; rfl
theorem hr_len {a : ActR} {n : Nat} {l : List Hp} (h : hapR a n = some l) : l.length ≤ n := by
  rw [hapR_eq] at h
  obtain ⟨l0, h1, rfl⟩ := Option.map_eq_some_iff.1 h
  rw [srtH_len]; exact hapP_len h1
theorem uC52_25_11 {N : Nat} {l : List Oper} {t : List (Nat × V)} {m : Mem} {Q : Exit → List (Nat × V) → Mem → Prop} (h : RgN Tryz.prog N l t m Q (fun i => if i == 2 || i == 8 || i == 9 || i == 10 then .q else .p) [.one 0, .one 1, .one 2, .one 3, .one 4, .one 5, .one 6, .one 7, .one 8, .one 9, .one 10, .one 11, .one 12]) : WA Tryz.prog N (.region 11 l.toArray true) t m Q := d_rgN h
theorem uC52_25_13 {N : Nat} {l : List Oper} {t : List (Nat × V)} {m : Mem} {Q : Exit → List (Nat × V) → Mem → Prop} (h : RgN Tryz.prog N l t m Q (fun i => if i == 4 || i == 7 || i == 11 then .f else if i == 0 || i == 6 then .a else .p) [.one 1, .one 2, .one 3, .one 5, .one 8, .one 9, .one 10, .grp false [4, 7, 11] [0, 6], .one 12]) : WA Tryz.prog N (.region 13 l.toArray true) t m Q := d_rgN h
theorem uC52_25_14 {N : Nat} {l : List Oper} {t : List (Nat × V)} {m : Mem} {Q : Exit → List (Nat × V) → Mem → Prop} (h : RgN Tryz.prog N l t m Q (fun i => if i == 4 || i == 7 || i == 11 then .f else if i == 0 || i == 6 then .a else if i == 5 then .q else .p) [.one 1, .one 2, .one 3, .one 5, .one 8, .one 9, .one 10, .grp false [4, 7, 11] [0, 6], .one 12]) : WA Tryz.prog N (.region 14 l.toArray true) t m Q := d_rgN h
theorem rorder_c (a : ActR) (ha : Lt a) (hac : acErr a = 0) (m : Mem) : Gives Tryz.prog 25 [.agg (actV a)] m (roV a) := by
  have hlen := evsV_length (l := a.evs)
  have hga := hlen
  have hne := (acErr_evs hac).1
  unfold roV
  suffices key : CallA Tryz.prog 25 [.agg (actV a)] m (fun v' mo => v' = (match hapR a a.evs.length with | some l => .tup [oV (nusV l), oV (dpsV l), .bool true] | none => .tup [.nilsl, .nilsl, .bool false]) ∧ mo = none) from by
    refine Gives_weak key ?_
    cases hapR a a.evs.length with
    | none => exact wk_tup ⟨wk_nil, wk_nil, WkV.refl _, trivial⟩
    | some l => exact wk_tup ⟨wk_oV _, wk_oV _, WkV.refl _, trivial⟩
  unfold actV
  refine CallA_in Tryz.func25 rfl Tryz.ntmps25 Tryz.results25 (by kernel_rfl) (by simp) fun Q hQ => ?_
  (have FX := And.intro hlen hga; repeat' (first | (refine sx ?_ ?_ <;> intro h <;> first | (exfalso; omega) | skip) | refine ny ?_ | refine WA_block ?_ | (refine uC52_25_11 ?_; refine ⟨by kernel_rfl, ?_⟩) | (refine uC52_25_13 ?_; refine ⟨by kernel_rfl, ?_⟩) | (refine uC52_25_14 ?_; refine ⟨by kernel_rfl, ?_⟩)))
  refine WA_whileJ (σ := Nat) (L := lend m) [1, 5, 6, 7] (fun i => roS (hrL a i) i) (fun i => roE a (hrL a i)) (fun i => i ≤ a.evs.length ∧ hapR a i = some (hrL a i)) (fun i => a.evs.length - i) 0 [0] ⟨Nat.zero_le _, rfl⟩ ?_ rfl rfl (by decide) (by decide) (fun _ _ => roS_ok) (fun _ _ => roE_ok) ?_
  · exact tv_
  rintro i ⟨hi1, hl⟩ B ⟨D, hB⟩ K hK
  clear FX hga
  have hll := hr_len hl
  rcases Nat.lt_or_ge i a.evs.length with hi | hi
  · have hev := fun m => reventat_c a ha hac i hi m
    obtain ⟨n1, n2, n3⟩ := hr_next hl
    have hsm := hr_sm hac hi1 hl
    have hnx := hK (i + 1)
    unfold actV at hev
    have hga := hlen
    generalize hrL a i = l at *
    rcases evtP_code a i with ⟨x, hx⟩ | hx | hx
    · have hsx := (evtP_sm hac hi hx).1
      have hn := n1 x 0 hx
      have e0 : hrL a (i + 1) = insH l (i, x) := by unfold hrL; rw [hn]; rfl
      rw [e0] at hnx
      rw [hx] at hev
      simp only [rchV, frO] at hev
      have hny := fun (_ : Unit) => hnx
      cases l with
      | nil =>
        have hins : insH ([] : List Hp) (i, x) = [(i, x)] := rfl
        rw [hins] at hny
        simp only [roS, roE, actT, roSt]
        simp only [List.map_cons, List.map_nil, TB.inst, TV.inst, tv_map, zipT, List.cons_append, List.nil_append, Nat.add_zero]
        refine WA_nl ?_
        simp only [List.map_cons, List.map_nil, nlV]
        (have FX := And.intro hlen hga; repeat' (first | (refine sx ?_ ?_ <;> intro h <;> first | (exfalso; omega) | skip) | (refine g_op ?_; refine g_call ?_; refine g_args ?_; (first | refine s_fn (hev _) ?_) <;> try first | omega | assumption) | refine ny ?_ | refine WA_block ?_ | (refine uC52_25_11 ?_; refine ⟨by kernel_rfl, ?_⟩) | (refine uC52_25_13 ?_; refine ⟨by kernel_rfl, ?_⟩) | (refine uC52_25_14 ?_; refine ⟨by kernel_rfl, ?_⟩) | ((first | refine grp_cons (fun _ => hev _) ?_) <;> try first | omega | assumption) | (refine g_d ?_; refine d_args ?_; (first | refine d_fn (hev _) ?_ | refine d_fnQ (fun _ => hev _) ?_) <;> try first | omega | assumption) | (refine g_d ?_; (first | refine d_fnY (hev _) ?_) <;> try first | omega | assumption)))
        all_goals (try (exfalso; omega))
        refine WA_rounds 1 ?_
        (have FX := And.intro hlen hga; repeat' first | (first | (refine sx ?_ ?_ <;> intro h <;> first | (exfalso; omega) | skip) | (refine g_op ?_; refine g_call ?_; refine g_args ?_; (first | refine s_fn (hev _) ?_) <;> try first | omega | assumption) | refine ny ?_ | refine WA_block ?_ | (refine uC52_25_11 ?_; refine ⟨by kernel_rfl, ?_⟩) | (refine uC52_25_13 ?_; refine ⟨by kernel_rfl, ?_⟩) | (refine uC52_25_14 ?_; refine ⟨by kernel_rfl, ?_⟩) | ((first | refine grp_cons (fun _ => hev _) ?_) <;> try first | omega | assumption) | (refine g_d ?_; refine d_args ?_; (first | refine d_fn (hev _) ?_ | refine d_fnQ (fun _ => hev _) ?_) <;> try first | omega | assumption) | (refine g_d ?_; (first | refine d_fnY (hev _) ?_) <;> try first | omega | assumption)) | refine d_alt ?_ | refine wg_0 ?_ | refine wg_b ?_ | refine wg_c ?_ ?_ | refine wg_n ?_ | refine wm_cons ?_ ?_ | exact wm_nil | refine wg_op ?_)
        all_goals (try (exfalso; omega))
        all_goals ((refine nextU_ hny (()) [0, 6, 11] (⟨hi, hn⟩) (by omega) ?_ (ht := ?_); (focus (simp only [roE, actT, nusV, dpsV, List.map_cons, List.map_nil, TB.inst, TV.inst, tv_map, List.cons_append, List.nil_append]; first | rfl | (simp [ptsV, ptV]; done) | (simp [hpsV, hpV]; done) | (simp [frsV, frV]; done) | (simp [txV]; done) | (simp [prtsV, prtV]; done))); (simp only [roS, roSt, List.map_cons, List.map_nil, TV.inst, List.getD_cons_zero, List.getD_cons_succ]; exact tv_)))
      | cons p r =>
        obtain ⟨p', r', hpr'⟩ := insH_ne (p :: r) (i, x)
        rw [hpr'] at hny hn
        simp only [roS, roE, actT, roSt]
        simp only [List.map_cons, List.map_nil, TB.inst, TV.inst, tv_map, zipT, List.cons_append, List.nil_append, Nat.add_zero]
        refine ro_fz (by rw [nusV_length]; rfl) (by rw [dpsV_length]; rfl) ?_
        have hln := nusV_length (l := p :: r)
        have hld := dpsV_length (l := p :: r)
        clear n1 hnx e0
        generalize p :: r = l at *
        (have FX := And.intro hlen hga; repeat' (first | (refine sx ?_ ?_ <;> intro h <;> first | (exfalso; omega) | skip) | (refine g_op ?_; refine g_call ?_; refine g_args ?_; (first | refine s_fn (hev _) ?_) <;> try first | omega | assumption) | refine ny ?_ | refine WA_block ?_ | (refine uC52_25_11 ?_; refine ⟨by kernel_rfl, ?_⟩) | (refine uC52_25_13 ?_; refine ⟨by kernel_rfl, ?_⟩) | (refine uC52_25_14 ?_; refine ⟨by kernel_rfl, ?_⟩) | ((first | refine grp_cons (fun _ => hev _) ?_) <;> try first | omega | assumption) | (refine g_d ?_; refine d_args ?_; (first | refine d_fn (hev _) ?_ | refine d_fnQ (fun _ => hev _) ?_) <;> try first | omega | assumption) | (refine g_d ?_; (first | refine d_fnY (hev _) ?_) <;> try first | omega | assumption)))
        all_goals (try (exfalso; omega))
        refine WA_while (σ := Nat) [1, 5, 6, 7, 8, 10] (fun n => [.ptr B.length 0 0, .lst (nusV l), .lst (dpsV l), .int .i64 i, .ptr (B.length + 3) 0 0, .int .i64 n]) (fun _ => B ++ [.cells .own 26 4 [[.int .i64 a.dip, .lst (prtsV a.parts), .lst (evsV a.evs), .lst (ldsV a.leads)]], .cells .ro 3 1 (nusV l), .cells .ro 30 2 (dpsV l), .cells .own 30 2 [[.int .i64 x.num, .int .i64 (x.den : Int)]]]) (fun n => n ≤ l.length ∧ ∀ j, j < n → (l.getD j hp0).2 ≤ x) (fun n => l.length - n) 0 ⟨Nat.zero_le _, fun j h => absurd h (Nat.not_lt_zero _)⟩ tv_ rfl ?_
        rintro n ⟨hn0, hj⟩ K2 hK2
        simp only [zipT]
        clear FX hga
        have hal : ∀ (c : List Hp) k, k = 1 → (nusV c).all (fun e => e.length == k) = true := fun c k h => by subst h; simp [nusV]
        have had : ∀ (c : List Hp) k, k = 2 → (dpsV c).all (fun e => e.length == k) = true := fun c k h => by subst h; simp [dpsV]
        rcases Nat.lt_or_ge n l.length with hlt | hge
        · have hga := dpsV_get hlt
          have hmem : l.getD n hp0 ∈ l := by rw [List.getD_eq_getElem?_getD, List.getElem?_eq_getElem hlt]; exact List.getElem_mem hlt
          have hcm := fun m => bcmp_c (l.getD n hp0).2 x (hsm _ hmem) hsx m
          have c1 := cmpQ_le (p := (l.getD n hp0).2) (q := x)
          by_cases hpx : (l.getD n hp0).2 ≤ x
          · have hst : ∀ j, j < n + 1 → (l.getD j hp0).2 ≤ x := fun j h => by
              rcases Nat.lt_or_ge j n with h2 | h2
              · exact hj j h2
              · obtain rfl : j = n := by omega
                exact hpx
            have hneg := c1.2 hpx
            generalize (l.getD n hp0).2 = p at *
            (have FX := And.intro hln (And.intro hld hga); repeat' (first | (refine sx ?_ ?_ <;> intro h <;> first | (exfalso; omega) | skip) | (refine g_op ?_; refine g_call ?_; refine g_args ?_; (first | refine s_fn (hcm _) ?_) <;> try first | omega | assumption) | refine ny ?_ | refine WA_block ?_ | (refine uC52_25_11 ?_; refine ⟨by kernel_rfl, ?_⟩) | (refine uC52_25_13 ?_; refine ⟨by kernel_rfl, ?_⟩) | (refine uC52_25_14 ?_; refine ⟨by kernel_rfl, ?_⟩) | ((first | refine grp_cons (fun _ => hcm _) ?_) <;> try first | omega | assumption) | (refine g_d ?_; refine d_args ?_; (first | refine d_fn (hcm _) ?_ | refine d_fnQ (fun _ => hcm _) ?_) <;> try first | omega | assumption) | (refine g_d ?_; (first | refine d_fnY (hcm _) ?_) <;> try first | omega | assumption)))
            all_goals (try (exfalso; omega))
            all_goals (refine next_ hK2 (n + 1) ⟨hlt, hst⟩ (by omega))
          · have hneg : ¬ cmpQ (l.getD n hp0).2 x ≤ 0 := fun h => hpx (c1.1 h)
            have hN : insHN l (i, x).2 = n := insHN_at' hn0 hj (.inr hpx)
            generalize (l.getD n hp0).2 = p at *
            have h1 := nusV_take l n
            have h2 := nusV_drop l n
            have h3 : (nusV (l.drop n)).take (l.length - n) = nusV (l.drop n) := List.take_of_length_le (by rw [nusV_length, List.length_drop]; exact Nat.le_refl _)
            have h4 : (nusV (l.take n)).length = n := by rw [nusV_length, List.length_take]; omega
            have h5 : (nusV (l.drop n)).length = l.length - n := by rw [nusV_length, List.length_drop]
            have h6 : ((l.length : Int) - (n : Int)).toNat = l.length - n := by omega
            have h7 : ((n : Int) - ((0 : Nat) : Int)).toNat = n := by omega
            have h8 : (nusV (l.take n)).take n = nusV (l.take n) := List.take_of_length_le (by rw [h4]; exact Nat.le_refl _)
            have h9 : (nusV (l.take n) ++ [[V.int .i64 (i : Int)]]).take (n + 1) = nusV (l.take n) ++ [[V.int .i64 (i : Int)]] := List.take_of_length_le (by rw [List.length_append, h4]; exact Nat.le_refl _)
            have h10 : (nusV (l.take n) ++ [[V.int .i64 (i : Int)]]).length = n + 1 := by rw [List.length_append, h4]; rfl
            have g1 := dpsV_take l n
            have g2 := dpsV_drop l n
            have g3 : (dpsV (l.drop n)).take (l.length - n) = dpsV (l.drop n) := List.take_of_length_le (by rw [dpsV_length, List.length_drop]; exact Nat.le_refl _)
            have g4 : (dpsV (l.take n)).length = n := by rw [dpsV_length, List.length_take]; omega
            have g5 : (dpsV (l.drop n)).length = l.length - n := by rw [dpsV_length, List.length_drop]
            have g8 : (dpsV (l.take n)).take n = dpsV (l.take n) := List.take_of_length_le (by rw [g4]; exact Nat.le_refl _)
            have g9 : (dpsV (l.take n) ++ [[V.int .i64 x.num, V.int .i64 (x.den : Int)]]).take (n + 1) = dpsV (l.take n) ++ [[V.int .i64 x.num, V.int .i64 (x.den : Int)]] := List.take_of_length_le (by rw [List.length_append, g4]; exact Nat.le_refl _)
            have g10 : (dpsV (l.take n) ++ [[V.int .i64 x.num, V.int .i64 (x.den : Int)]]).length = n + 1 := by rw [List.length_append, g4]; rfl
            have hq1 : (nusV (l.take n) ++ [[V.int .i64 (i : Int)]]) ++ nusV (l.drop n) = nusV (p' :: r') := by rw [← hpr', nusV_ins, hN, h1, h2, List.append_assoc]; rfl
            have hq2 : (dpsV (l.take n) ++ [[V.int .i64 x.num, V.int .i64 (x.den : Int)]]) ++ dpsV (l.drop n) = dpsV (p' :: r') := by rw [← hpr', dpsV_ins, hN, g1, g2, List.append_assoc]; rfl
            have hq3 : n + 1 + (l.length - n) = r'.length + 1 := by rw [← insH_lenN hn0 hN, hpr']; rfl
            (have FX := And.intro hln (And.intro hld (And.intro hga (And.intro h1 (And.intro h2 (And.intro h3 (And.intro h4 (And.intro h5 (And.intro h6 (And.intro h7 (And.intro h8 (And.intro h9 (And.intro h10 (And.intro g1 (And.intro g2 (And.intro g3 (And.intro g4 (And.intro g5 (And.intro g8 (And.intro g9 (And.intro g10 (And.intro hal had))))))))))))))))))))); repeat' first | (first | (refine sx ?_ ?_ <;> intro h <;> first | (exfalso; omega) | skip) | (refine g_op ?_; refine g_call ?_; refine g_args ?_; (first | refine s_fn (hcm _) ?_) <;> try first | omega | assumption) | refine ny ?_ | refine WA_block ?_ | (refine uC52_25_11 ?_; refine ⟨by kernel_rfl, ?_⟩) | (refine uC52_25_13 ?_; refine ⟨by kernel_rfl, ?_⟩) | (refine uC52_25_14 ?_; refine ⟨by kernel_rfl, ?_⟩) | ((first | refine grp_cons (fun _ => hcm _) ?_) <;> try first | omega | assumption) | (refine g_d ?_; refine d_args ?_; (first | refine d_fn (hcm _) ?_ | refine d_fnQ (fun _ => hcm _) ?_) <;> try first | omega | assumption) | (refine g_d ?_; (first | refine d_fnY (hcm _) ?_) <;> try first | omega | assumption)) | refine d_alt ?_ | refine wg_0 ?_ | refine wg_b ?_ | refine wg_c ?_ ?_ | refine wg_n ?_ | refine wm_cons ?_ ?_ | exact wm_nil | refine wg_op ?_)
            all_goals (try (exfalso; omega))
            all_goals (simp only [hq1, hq2, hq3])
            all_goals ((refine nextU_ hny (()) [0, 8, 13] (⟨hi, hn⟩) (by omega) ?_ (ht := ?_); (focus (simp only [roE, actT, List.map_cons, List.map_nil, TB.inst, TV.inst, tv_map, List.cons_append, List.nil_append]; first | rfl | (simp [ptsV, ptV]; done) | (simp [hpsV, hpV]; done) | (simp [frsV, frV]; done) | (simp [txV]; done) | (simp [prtsV, prtV]; done))); (simp only [roS, roSt, List.map_cons, List.map_nil, TV.inst, List.getD_cons_zero, List.getD_cons_succ]; exact tv_)))
        · obtain rfl : n = l.length := by omega
          have hN : insHN l (i, x).2 = l.length := insHN_at' hn0 hj (.inl rfl)
          have hga := hln
          have h1 := nusV_take l l.length
          have h2 := nusV_drop l l.length
          have h3 : (nusV (l.drop l.length)).take (l.length - l.length) = nusV (l.drop l.length) := List.take_of_length_le (by rw [nusV_length, List.length_drop]; exact Nat.le_refl _)
          have h4 : (nusV (l.take l.length)).length = l.length := by rw [nusV_length, List.length_take]; omega
          have h5 : (nusV (l.drop l.length)).length = l.length - l.length := by rw [nusV_length, List.length_drop]
          have h6 : ((l.length : Int) - (l.length : Int)).toNat = l.length - l.length := by omega
          have h7 : ((l.length : Int) - ((0 : Nat) : Int)).toNat = l.length := by omega
          have h8 : (nusV (l.take l.length)).take l.length = nusV (l.take l.length) := List.take_of_length_le (by rw [h4]; exact Nat.le_refl _)
          have h9 : (nusV (l.take l.length) ++ [[V.int .i64 (i : Int)]]).take (l.length + 1) = nusV (l.take l.length) ++ [[V.int .i64 (i : Int)]] := List.take_of_length_le (by rw [List.length_append, h4]; exact Nat.le_refl _)
          have h10 : (nusV (l.take l.length) ++ [[V.int .i64 (i : Int)]]).length = l.length + 1 := by rw [List.length_append, h4]; rfl
          have g1 := dpsV_take l l.length
          have g2 := dpsV_drop l l.length
          have g3 : (dpsV (l.drop l.length)).take (l.length - l.length) = dpsV (l.drop l.length) := List.take_of_length_le (by rw [dpsV_length, List.length_drop]; exact Nat.le_refl _)
          have g4 : (dpsV (l.take l.length)).length = l.length := by rw [dpsV_length, List.length_take]; omega
          have g5 : (dpsV (l.drop l.length)).length = l.length - l.length := by rw [dpsV_length, List.length_drop]
          have g8 : (dpsV (l.take l.length)).take l.length = dpsV (l.take l.length) := List.take_of_length_le (by rw [g4]; exact Nat.le_refl _)
          have g9 : (dpsV (l.take l.length) ++ [[V.int .i64 x.num, V.int .i64 (x.den : Int)]]).take (l.length + 1) = dpsV (l.take l.length) ++ [[V.int .i64 x.num, V.int .i64 (x.den : Int)]] := List.take_of_length_le (by rw [List.length_append, g4]; exact Nat.le_refl _)
          have g10 : (dpsV (l.take l.length) ++ [[V.int .i64 x.num, V.int .i64 (x.den : Int)]]).length = l.length + 1 := by rw [List.length_append, g4]; rfl
          have hq1 : (nusV (l.take l.length) ++ [[V.int .i64 (i : Int)]]) ++ nusV (l.drop l.length) = nusV (p' :: r') := by rw [← hpr', nusV_ins, hN, h1, h2, List.append_assoc]; rfl
          have hq2 : (dpsV (l.take l.length) ++ [[V.int .i64 x.num, V.int .i64 (x.den : Int)]]) ++ dpsV (l.drop l.length) = dpsV (p' :: r') := by rw [← hpr', dpsV_ins, hN, g1, g2, List.append_assoc]; rfl
          have hq3 : l.length + 1 + (l.length - l.length) = r'.length + 1 := by rw [← insH_lenN hn0 hN, hpr']; rfl
          (have FX := And.intro hln (And.intro hld (And.intro hga (And.intro h1 (And.intro h2 (And.intro h3 (And.intro h4 (And.intro h5 (And.intro h6 (And.intro h7 (And.intro h8 (And.intro h9 (And.intro h10 (And.intro g1 (And.intro g2 (And.intro g3 (And.intro g4 (And.intro g5 (And.intro g8 (And.intro g9 (And.intro g10 (And.intro hal had))))))))))))))))))))); repeat' first | (first | (refine sx ?_ ?_ <;> intro h <;> first | (exfalso; omega) | skip) | refine ny ?_ | refine WA_block ?_ | (refine uC52_25_11 ?_; refine ⟨by kernel_rfl, ?_⟩) | (refine uC52_25_13 ?_; refine ⟨by kernel_rfl, ?_⟩) | (refine uC52_25_14 ?_; refine ⟨by kernel_rfl, ?_⟩)) | refine d_alt ?_ | refine wg_0 ?_ | refine wg_b ?_ | refine wg_c ?_ ?_ | refine wg_n ?_ | refine wm_cons ?_ ?_ | exact wm_nil | refine wg_op ?_)
          all_goals (try (exfalso; omega))
          all_goals (simp only [hq1, hq2, hq3])
          all_goals ((refine nextU_ hny (()) [0, 8, 13] (⟨hi, hn⟩) (by omega) ?_ (ht := ?_); (focus (simp only [roE, actT, List.map_cons, List.map_nil, TB.inst, TV.inst, tv_map, List.cons_append, List.nil_append]; first | rfl | (simp [ptsV, ptV]; done) | (simp [hpsV, hpV]; done) | (simp [frsV, frV]; done) | (simp [txV]; done) | (simp [prtsV, prtV]; done))); (simp only [roS, roSt, List.map_cons, List.map_nil, TV.inst, List.getD_cons_zero, List.getD_cons_succ]; exact tv_)))
    · have hn := n3 hx
      have hnn := hr_up hn hi
      rw [hnn] at hQ
      rw [hx] at hev
      simp only [rchV, frO] at hev
      cases l with
      | nil =>
        simp only [roS, roE, actT, roSt]
        simp only [List.map_cons, List.map_nil, TB.inst, TV.inst, tv_map, zipT, List.cons_append, List.nil_append, Nat.add_zero]
        (have FX := And.intro hlen hga; repeat' (first | (refine sx ?_ ?_ <;> intro h <;> first | (exfalso; omega) | skip) | (refine g_op ?_; refine g_call ?_; refine g_args ?_; (first | refine s_fn (hev _) ?_) <;> try first | omega | assumption) | refine ny ?_ | refine WA_block ?_ | (refine uC52_25_11 ?_; refine ⟨by kernel_rfl, ?_⟩) | (refine uC52_25_13 ?_; refine ⟨by kernel_rfl, ?_⟩) | (refine uC52_25_14 ?_; refine ⟨by kernel_rfl, ?_⟩) | ((first | refine grp_cons (fun _ => hev _) ?_) <;> try first | omega | assumption) | (refine g_d ?_; refine d_args ?_; (first | refine d_fn (hev _) ?_ | refine d_fnQ (fun _ => hev _) ?_) <;> try first | omega | assumption) | (refine g_d ?_; (first | refine d_fnY (hev _) ?_) <;> try first | omega | assumption)))
        all_goals (try (exfalso; omega))
        all_goals (refine r_esA hQ (.inl ⟨rfl, rfl, rfl⟩))
      | cons p r =>
        simp only [roS, roE, actT, roSt]
        simp only [List.map_cons, List.map_nil, TB.inst, TV.inst, tv_map, zipT, List.cons_append, List.nil_append, Nat.add_zero]
        (have FX := And.intro hlen hga; repeat' (first | (refine sx ?_ ?_ <;> intro h <;> first | (exfalso; omega) | skip) | (refine g_op ?_; refine g_call ?_; refine g_args ?_; (first | refine s_fn (hev _) ?_) <;> try first | omega | assumption) | refine ny ?_ | refine WA_block ?_ | (refine uC52_25_11 ?_; refine ⟨by kernel_rfl, ?_⟩) | (refine uC52_25_13 ?_; refine ⟨by kernel_rfl, ?_⟩) | (refine uC52_25_14 ?_; refine ⟨by kernel_rfl, ?_⟩) | ((first | refine grp_cons (fun _ => hev _) ?_) <;> try first | omega | assumption) | (refine g_d ?_; refine d_args ?_; (first | refine d_fn (hev _) ?_ | refine d_fnQ (fun _ => hev _) ?_) <;> try first | omega | assumption) | (refine g_d ?_; (first | refine d_fnY (hev _) ?_) <;> try first | omega | assumption)))
        all_goals (try (exfalso; omega))
        all_goals (refine r_esA hQ (.inl ⟨rfl, rfl, rfl⟩))
    · have hn := n2 hx
      have e0 : hrL a (i + 1) = l := by unfold hrL; rw [hn]; rfl
      rw [e0] at hnx
      rw [hx] at hev
      simp only [rchV, frO] at hev
      have hny := fun (_ : Unit) => hnx
      cases l with
      | nil =>
        simp only [roS, roE, actT, roSt]
        simp only [List.map_cons, List.map_nil, TB.inst, TV.inst, tv_map, zipT, List.cons_append, List.nil_append, Nat.add_zero]
        (have FX := And.intro hlen hga; repeat' (first | (refine sx ?_ ?_ <;> intro h <;> first | (exfalso; omega) | skip) | (refine g_op ?_; refine g_call ?_; refine g_args ?_; (first | refine s_fn (hev _) ?_) <;> try first | omega | assumption) | refine ny ?_ | refine WA_block ?_ | (refine uC52_25_11 ?_; refine ⟨by kernel_rfl, ?_⟩) | (refine uC52_25_13 ?_; refine ⟨by kernel_rfl, ?_⟩) | (refine uC52_25_14 ?_; refine ⟨by kernel_rfl, ?_⟩) | ((first | refine grp_cons (fun _ => hev _) ?_) <;> try first | omega | assumption) | (refine g_d ?_; refine d_args ?_; (first | refine d_fn (hev _) ?_ | refine d_fnQ (fun _ => hev _) ?_) <;> try first | omega | assumption) | (refine g_d ?_; (first | refine d_fnY (hev _) ?_) <;> try first | omega | assumption)))
        all_goals (try (exfalso; omega))
        all_goals ((refine nextU_ hny (()) [0] (⟨hi, hn⟩) (by omega) ?_ (ht := ?_); (focus (simp only [roE, actT, List.map_cons, List.map_nil, TB.inst, TV.inst, tv_map, List.cons_append, List.nil_append]; first | rfl | (simp [ptsV, ptV]; done) | (simp [hpsV, hpV]; done) | (simp [frsV, frV]; done) | (simp [txV]; done) | (simp [prtsV, prtV]; done))); (simp only [roS, roSt, List.map_cons, List.map_nil, TV.inst, List.getD_cons_zero, List.getD_cons_succ]; exact tv_)))
      | cons p r =>
        simp only [roS, roE, actT, roSt]
        simp only [List.map_cons, List.map_nil, TB.inst, TV.inst, tv_map, zipT, List.cons_append, List.nil_append, Nat.add_zero]
        (have FX := And.intro hlen hga; repeat' (first | (refine sx ?_ ?_ <;> intro h <;> first | (exfalso; omega) | skip) | (refine g_op ?_; refine g_call ?_; refine g_args ?_; (first | refine s_fn (hev _) ?_) <;> try first | omega | assumption) | refine ny ?_ | refine WA_block ?_ | (refine uC52_25_11 ?_; refine ⟨by kernel_rfl, ?_⟩) | (refine uC52_25_13 ?_; refine ⟨by kernel_rfl, ?_⟩) | (refine uC52_25_14 ?_; refine ⟨by kernel_rfl, ?_⟩) | ((first | refine grp_cons (fun _ => hev _) ?_) <;> try first | omega | assumption) | (refine g_d ?_; refine d_args ?_; (first | refine d_fn (hev _) ?_ | refine d_fnQ (fun _ => hev _) ?_) <;> try first | omega | assumption) | (refine g_d ?_; (first | refine d_fnY (hev _) ?_) <;> try first | omega | assumption)))
        all_goals (try (exfalso; omega))
        all_goals ((refine nextU_ hny (()) [0, 1, 2] (⟨hi, hn⟩) (by omega) ?_ (ht := ?_); (focus (simp only [roE, actT, List.map_cons, List.map_nil, TB.inst, TV.inst, tv_map, List.cons_append, List.nil_append]; first | rfl | (simp [ptsV, ptV]; done) | (simp [hpsV, hpV]; done) | (simp [frsV, frV]; done) | (simp [txV]; done) | (simp [prtsV, prtV]; done))); (simp only [roS, roSt, List.map_cons, List.map_nil, TV.inst, List.getD_cons_zero, List.getD_cons_succ]; exact tv_)))
  · have hie : i = a.evs.length := by omega
    subst hie
    rw [hl] at hQ
    have hga := hlen
    clear hK
    generalize hrL a a.evs.length = l at *
    cases l with
    | nil =>
      have e0 : oV (nusV []) = V.nilsl := rfl
      have e1 : oV (dpsV []) = V.nilsl := rfl
      dsimp only at hQ
      rw [e0, e1] at hQ
      simp only [roS, roE, actT, roSt]
      simp only [List.map_cons, List.map_nil, TB.inst, TV.inst, tv_map, zipT, List.cons_append, List.nil_append, Nat.add_zero]
      (have FX := And.intro hlen hga; repeat' (first | (refine sx ?_ ?_ <;> intro h <;> first | (exfalso; omega) | skip) | refine ny ?_ | refine WA_block ?_ | (refine uC52_25_11 ?_; refine ⟨by kernel_rfl, ?_⟩) | (refine uC52_25_13 ?_; refine ⟨by kernel_rfl, ?_⟩) | (refine uC52_25_14 ?_; refine ⟨by kernel_rfl, ?_⟩)))
      all_goals (try (exfalso; omega))
      all_goals (refine r_esA hQ (.inl ⟨rfl, rfl, rfl⟩))
    | cons p r =>
      have e0 : oV (nusV (p :: r)) = .lst (nusV (p :: r)) := rfl
      have e1 : oV (dpsV (p :: r)) = .lst (dpsV (p :: r)) := rfl
      dsimp only at hQ
      rw [e0, e1] at hQ
      simp only [roS, roE, actT, roSt]
      simp only [List.map_cons, List.map_nil, TB.inst, TV.inst, tv_map, zipT, List.cons_append, List.nil_append, Nat.add_zero]
      (have FX := And.intro hlen hga; repeat' (first | (refine sx ?_ ?_ <;> intro h <;> first | (exfalso; omega) | skip) | refine ny ?_ | refine WA_block ?_ | (refine uC52_25_11 ?_; refine ⟨by kernel_rfl, ?_⟩) | (refine uC52_25_13 ?_; refine ⟨by kernel_rfl, ?_⟩) | (refine uC52_25_14 ?_; refine ⟨by kernel_rfl, ?_⟩)))
      all_goals (try (exfalso; omega))
      all_goals (refine r_esA hQ (fin_t3B hB (frzTo_slB (k := r.length + 1) (es := nusV (p :: r)) (j := 1) hB rfl (by simp [nusV]) (nusV_plain _)) (frzTo_slB (k := r.length + 1) (es := dpsV (p :: r)) (j := 2) hB rfl (by simp [dpsV]) (dpsV_plain _)) (frz_bool _ _ _ _) ⟨rfl, rfl⟩))
end Go.Proofs.YtbcjcbcakcdnfaaGreat
