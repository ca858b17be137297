/- contract: a corner put into its place -/
import Derived.Test.YtihbeoplchiikaaGreatDoorC10
import Derived.Test.YtihbeoplchiikaaGreatDoorC12
import Derived.Test.YtihbeoplchiikaaGreatDoorYE
import Derived.Test.YtihbeoplchiikaaGreatDoorYN
set_option linter.unusedSimpArgs false
set_option linter.unusedVariables false
namespace Go.Proofs.YtihbeoplchiikaaGreatDoor
open Go.RowKit
attribute [local irreducible] WA WOs WDs WAn qThen qBlock tput
set_option maxHeartbeats 1000000
set_option maxRecDepth 20000
set_option linter.unusedSimpArgs false
set_option linter.unusedVariables false
attribute [local irreducible] smB cut sm
theorem ptsV_take (l : List Pt) (n : Nat) : (ptsV l).take n = ptsV (l.take n) := by unfold ptsV; rw [List.map_take]
theorem ptsV_drop (l : List Pt) (n : Nat) : (ptsV l).drop n = ptsV (l.drop n) := by unfold ptsV; rw [List.map_drop]
theorem uC48_120_2 {N : Nat} {l : List Oper} {t : List (Nat × V)} {m : Mem} {Q : Exit → List (Nat × V) → Mem → Prop} (h : RgN Tryz.prog N l t m Q (fun i => if i == 2 || i == 9 || i == 11 || i == 12 then .q else .p) [.one 0, .one 1, .one 2, .one 3, .one 4, .one 5, .one 6, .one 7, .one 8, .one 9, .one 10, .one 11, .one 12, .one 13, .one 14]) : WA Tryz.prog N (.region 2 l.toArray true) t m Q := d_rgN h
theorem uC48_120_4 {N : Nat} {l : List Oper} {t : List (Nat × V)} {m : Mem} {Q : Exit → List (Nat × V) → Mem → Prop} (h : RgN Tryz.prog N l t m Q (fun i => if i == 4 || i == 7 || i == 11 then .f else if i == 0 || i == 6 then .a else if i == 5 then .q else .p) [.one 1, .one 2, .one 3, .one 5, .one 8, .one 9, .one 10, .grp false [4, 7, 11] [0, 6], .one 12]) : WA Tryz.prog N (.region 4 l.toArray true) t m Q := d_rgN h
theorem rinsert_c (l : List Pt) (k : Pt) (hl : l.length ≤ 10000) (hs : ∀ p ∈ l, sm p.1) (hk : sm k.1) (m : Mem) : Gives Tryz.prog 120 [.lst (ptsV l), .agg (ptV k)] m (.lst (ptsV (kinP l k))) := by
  have hlen := ptsV_length (c := l)
  have hga := hlen
  obtain ⟨x, y⟩ := k
  unfold ptV
  refine CallA_in Tryz.func120 rfl Tryz.ntmps120 Tryz.results120 (by kernel_rfl) (by simp) fun Q hQ => ?_
  (have FX := And.intro hlen hga; repeat' (first | (refine sx ?_ ?_ <;> intro h <;> first | (exfalso; omega) | skip) | refine ny ?_ | refine WA_block ?_ | (refine uC48_120_2 ?_; refine ⟨by kernel_rfl, ?_⟩) | (refine uC48_120_4 ?_; refine ⟨by kernel_rfl, ?_⟩)))
  refine WA_whileK (σ := Nat) [0, 3, 5] (fun i => [.lst (ptsV l), .ptr (lend m).length 0 0, .int .i64 i]) (fun _ => [.cells .own 92 4 [[.int .i64 x.num, .int .i64 (x.den : Int), .int .i64 y.num, .int .i64 (y.den : Int)]]]) 1 (fun i => i ≤ l.length ∧ ∀ j, j < i → (at' l j).1 < x) (fun i => l.length - i) 0 ⟨Nat.zero_le _, fun j h => absurd h (Nat.not_lt_zero _)⟩ tv_ rfl (fun _ => rfl) (by intro s s' _ _; simp [conB, conS, V.keeps, V.plain, Blk.flat, flatL, plainL, V.flat]) (by intro s s' _ _; simp [conB, conS, V.keeps, V.plain, Blk.flat, flatL, plainL, V.flat]) ?_
  rintro i ⟨hi, hj⟩ K hK
  simp only [zipT]
  clear FX hga
  have hex : ∀ n, n ≤ l.length → kinN l x = n → ptsV (kinP l (x, y)) = ptsV (l.take n) ++ (ptV (x, y) :: ptsV (l.drop n)) := fun n _ h => by
    unfold kinP
    rw [h]
    unfold ptsV
    rw [List.map_append, List.map_cons]
  have hal : ∀ (c : List Pt) n, n = 4 → (ptsV c).all (fun e => e.length == n) = true := fun c n h => by subst h; simp [ptsV, ptV]
  rcases Nat.lt_or_ge i l.length with hlt | hge
  · have hga := ptsV_get hlt
    have hsp := hs (at' l i) (mem_at hlt)
    have hcm := fun m => bcmp_c (at' l i).1 x hsp hk m
    have c1 := cmpQ_lt (p := (at' l i).1) (q := x)
    by_cases hpx : (at' l i).1 < x
    · have hst : ∀ j, j < i + 1 → (at' l j).1 < x := fun j h => by
        rcases Nat.lt_or_ge j i with h2 | h2
        · exact hj j h2
        · obtain rfl : j = i := by omega
          exact hpx
      have hneg := c1.2 hpx
      generalize at' l i = p at *
      obtain ⟨u, v⟩ := p
      unfold ptV at hga
      dsimp only at hga hcm hneg
      (have FX := And.intro hlen hga; repeat' (first | (refine sx ?_ ?_ <;> intro h <;> first | (exfalso; omega) | skip) | (refine na ?_; (first | refine nb hcm ?_) <;> try first | omega | assumption) | refine ny ?_ | refine WA_block ?_ | (refine uC48_120_2 ?_; refine ⟨by kernel_rfl, ?_⟩) | (refine uC48_120_4 ?_; refine ⟨by kernel_rfl, ?_⟩) | (refine g_d ?_; (first | refine d_fnY (hcm _) ?_) <;> try first | omega | assumption)))
      all_goals (try (exfalso; omega))
      all_goals (refine nextL_ hK (i + 1) ⟨hlt, hst⟩ (by omega))
    · have hneg : ¬ cmpQ (at' l i).1 x < 0 := fun h => hpx (c1.1 h)
      have hq := hex i hi (kinN_at hi hj (.inr hpx))
      generalize at' l i = p at *
      obtain ⟨u, v⟩ := p
      unfold ptV at hga hq
      dsimp only at hga hcm hneg
      have h1 := ptsV_take l i
      have h2 := ptsV_drop l i
      have h3 : (ptsV (l.drop i)).take (l.length - i) = ptsV (l.drop i) := List.take_of_length_le (by rw [ptsV_length, List.length_drop]; exact Nat.le_refl _)
      have h4 : (ptsV (l.take i)).length = i := by rw [ptsV_length, List.length_take]; omega
      have h5 : (ptsV (l.drop i)).length = l.length - i := by rw [ptsV_length, List.length_drop]
      have h6 : ((l.length : Int) - (i : Int)).toNat = l.length - i := by omega
      have h7 : ((i : Int) - ((0 : Nat) : Int)).toNat = i := by omega
      have h8 : (ptsV (l.take i)).take i = ptsV (l.take i) := List.take_of_length_le (by rw [h4]; exact Nat.le_refl _)
      have h9 : (ptsV (l.take i) ++ [[V.int .i64 x.num, V.int .i64 (x.den : Int), V.int .i64 y.num, V.int .i64 (y.den : Int)]]).take (i + 1) = ptsV (l.take i) ++ [[V.int .i64 x.num, V.int .i64 (x.den : Int), V.int .i64 y.num, V.int .i64 (y.den : Int)]] := List.take_of_length_le (by rw [List.length_append, h4]; exact Nat.le_refl _)
      have h10 : (ptsV (l.take i) ++ [[V.int .i64 x.num, V.int .i64 (x.den : Int), V.int .i64 y.num, V.int .i64 (y.den : Int)]]).length = i + 1 := by rw [List.length_append, h4]; rfl
      have hk2 : i + 1 + (l.length - i) ≤ ((ptsV (l.take i) ++ [[V.int .i64 x.num, V.int .i64 (x.den : Int), V.int .i64 y.num, V.int .i64 (y.den : Int)]]) ++ ptsV (l.drop i)).length := by rw [List.length_append, h10, h5]; exact Nat.le_refl _
      have hfin : ((ptsV (l.take i) ++ [[V.int .i64 x.num, V.int .i64 (x.den : Int), V.int .i64 y.num, V.int .i64 (y.den : Int)]]) ++ ptsV (l.drop i)).take (i + 1 + (l.length - i)) = ptsV (kinP l (x, y)) := by
        rw [List.take_of_length_le (by rw [List.length_append, h10, h5]; exact Nat.le_refl _), hq, List.append_assoc]
        rfl
      (have FX := fx13 hlen hga h1 h2 h3 h4 h5 h6 h7 h8 h9 h10 hal; repeat' first | (first | (refine sx ?_ ?_ <;> intro h <;> first | (exfalso; omega) | skip) | (refine na ?_; (first | refine nb hcm ?_) <;> try first | omega | assumption) | refine ny ?_ | refine WA_block ?_ | (refine uC48_120_2 ?_; refine ⟨by kernel_rfl, ?_⟩) | (refine uC48_120_4 ?_; refine ⟨by kernel_rfl, ?_⟩) | (refine g_d ?_; (first | refine d_fnY (hcm _) ?_) <;> try first | omega | assumption)) | refine d_alt ?_ | refine wg_0 ?_ | refine wg_b ?_ | refine wg_c ?_ ?_ | refine wg_n ?_ | refine wm_cons ?_ ?_ | exact wm_nil | refine wg_op ?_)
      all_goals (try (exfalso; omega))
      all_goals (refine r_esA hQ (fin_sl (D := []) (B := lend m) (j := 5) (by simp) rfl hk2 (by rw [hfin]; exact ptsV_plain _) ⟨by rw [hfin], rfl⟩))
  · obtain rfl : i = l.length := by omega
    have hq := hex l.length hi (kinN_at hi hj (.inl rfl))
    unfold ptV at hq
    dsimp only at hq
    have hga := hlen
    have h1 := ptsV_take l l.length
    have h2 := ptsV_drop l l.length
    have h3 : (ptsV (l.drop l.length)).take (l.length - l.length) = ptsV (l.drop l.length) := List.take_of_length_le (by rw [ptsV_length, List.length_drop]; exact Nat.le_refl _)
    have h4 : (ptsV (l.take l.length)).length= l.length := by rw [ptsV_length, List.length_take]; omega
    have h5 : (ptsV (l.drop l.length)).length = l.length - l.length := by rw [ptsV_length, List.length_drop]
    have h6 : ((l.length : Int) - (l.length : Int)).toNat = l.length - l.length := by omega
    have h7 : ((l.length : Int) - ((0 : Nat) : Int)).toNat= l.length := by omega
    have h8 : (ptsV (l.take l.length)).take l.length = ptsV (l.take l.length) := List.take_of_length_le (by rw [h4]; exact Nat.le_refl _)
    have h9 : (ptsV (l.take l.length) ++ [[V.int .i64 x.num, V.int .i64 (x.den : Int), V.int .i64 y.num, V.int .i64 (y.den : Int)]]).take (l.length + 1) = ptsV (l.take l.length) ++ [[V.int .i64 x.num, V.int .i64 (x.den : Int), V.int .i64 y.num, V.int .i64 (y.den : Int)]] := List.take_of_length_le (by rw [List.length_append, h4]; exact Nat.le_refl _)
    have h10 : (ptsV (l.take l.length) ++ [[V.int .i64 x.num, V.int .i64 (x.den : Int), V.int .i64 y.num, V.int .i64 (y.den : Int)]]).length= l.length + 1 := by rw [List.length_append, h4]; rfl
    have hk2 : l.length + 1 + (l.length - l.length) ≤ ((ptsV (l.take l.length) ++ [[V.int .i64 x.num, V.int .i64 (x.den : Int), V.int .i64 y.num, V.int .i64 (y.den : Int)]]) ++ ptsV (l.drop l.length)).length := by rw [List.length_append, h10, h5]; exact Nat.le_refl _
    have hfin : ((ptsV (l.take l.length) ++ [[V.int .i64 x.num, V.int .i64 (x.den : Int), V.int .i64 y.num, V.int .i64 (y.den : Int)]]) ++ ptsV (l.drop l.length)).take (l.length + 1 + (l.length - l.length)) = ptsV (kinP l (x, y)) := by
      rw [List.take_of_length_le (by rw [List.length_append, h10, h5]; exact Nat.le_refl _), hq, List.append_assoc]
      rfl
    (have FX := fx13 hlen hga h1 h2 h3 h4 h5 h6 h7 h8 h9 h10 hal; repeat' first | (first | (refine sx ?_ ?_ <;> intro h <;> first | (exfalso; omega) | skip) | refine ny ?_ | refine WA_block ?_ | (refine uC48_120_2 ?_; refine ⟨by kernel_rfl, ?_⟩) | (refine uC48_120_4 ?_; refine ⟨by kernel_rfl, ?_⟩)) | refine d_alt ?_ | refine wg_0 ?_ | refine wg_b ?_ | refine wg_c ?_ ?_ | refine wg_n ?_ | refine wm_cons ?_ ?_ | exact wm_nil | refine wg_op ?_)
    all_goals (try (exfalso; omega))
    all_goals (refine r_esA hQ (fin_sl (D := []) (B := lend m) (j := 5) (by simp) rfl hk2 (by rw [hfin]; exact ptsV_plain _) ⟨by rw [hfin], rfl⟩))
end Go.Proofs.YtihbeoplchiikaaGreatDoor
