/- the law ActionEvents -/
import Derived.Test.YtbcjcbcakcdnfaaGreatH17
set_option linter.unusedSimpArgs false
set_option linter.unusedVariables false
namespace Go.Proofs.YtbcjcbcakcdnfaaGreat
open Go.RowKit
attribute [local irreducible] WA WOs WDs WAn qThen qBlock tput
set_option maxHeartbeats 1000000
set_option maxRecDepth 20000
set_option linter.unusedSimpArgs false
set_option linter.unusedVariables false
attribute [local irreducible] smB cut sm
theorem frO_form (r : Option Rat) : ∃ x1 x2, frO r = .agg [.int .i64 x1, .int .i64 x2] ∧ (∀ q, r = some q → x1 = q.num ∧ x2 = (q.den : Int)) ∧ (r = none → x1 = 0 ∧ x2 = 0) := by
  cases r with
  | none => exact ⟨0, 0, rfl, (fun q h => by cases h), fun _ => ⟨rfl, rfl⟩⟩
  | some q => exact ⟨q.num, (q.den : Int), rfl, (fun p h => by cases h; exact ⟨rfl, rfl⟩), fun h => by cases h⟩
theorem eatV_in {a : ActR} (hac : acErr a = 0) (s : List UInt8) : eatV a s = if enI a s < 0 then (none, 6) else evtP a (enN a s) := by
  unfold eatV; rw [if_neg (by omega)]
theorem eat_zero {a : ActR} {s : List UInt8} (h : (eatV a s).2 = 0) : ∃ x, eatV a s = (some x, 0) ∧ sm x := by
  rcases eat_cases a s with ⟨x, hx, _, hs, _⟩ | ⟨e, h0, hx⟩
  · exact ⟨x, hx, hs⟩
  · rw [hx] at h; exact absurd h h0
theorem eat_none {a : ActR} {s : List UInt8} (h : (eatV a s).2 ≠ 0) : (eatV a s).1 = none := by
  rcases eat_cases a s with ⟨x, hx, _, hs, _⟩ | ⟨e, h0, hx⟩
  · rw [hx] at h; exact absurd rfl h
  · rw [hx]
theorem events_law (a : ActR) (s : List UInt8) (n d : Int) (m : Mem) : Gives Tryz.prog 4 [.agg (actV a), .str s, .agg [.int .i64 n, .int .i64 d]] m (.bool true) := by
  by_cases h : light a ∧ ¬ 30 < (s.length : Int) ∧ sane n d
  · obtain ⟨hL, hs, hsa⟩ := h
    by_cases hac : acErr a = 0
    · have hlt := light_lt hL
      have hev := fun h => Nat.le_trans (light_few hL h).1 (by decide : 6 ≤ 12)
      obtain ⟨b1, b2⟩ := sane_b hsa
      have hnev : a.evs.length ≤ 20 := by have := hev hac; omega
      have hea := fun m => aeventat_c a hlt s m
      have haf := fun m => aaftertouch_c a hlt s m
      have hor := fun m => aorder_c a hlt hev m
      have hhp := fun m => ahappened_c a hlt hev n d b1 b2 m
      have hen := fun m => reventnumber_c a s m (by omega)
      have hro := fun m => rorder_c a hlt hac m
      have hcd := fun m => rcheckdip_c a hac n d b1 b2 m
      have hch : chkDip a n d = dipErr a n d := by unfold chkDip; rw [if_neg (by omega)]
      obtain ⟨x1, x2, hx, hx1, hx2⟩ := frO_form (eatV a s).1
      obtain ⟨y1, y2, hy, hy1, hy2⟩ := frO_form (aftV a s).1
      have hre : 0 ≤ enI a s → ∀ m, Gives Tryz.prog 23 [.agg (actV a), .int .i64 (enI a s)] m (.tup [.agg [.int .i64 x1, .int .i64 x2], .int .i64 (eatV a s).2]) := fun hi m => by
        obtain ⟨_, hlt2, _⟩ := enI_ok (a := a) (s := s) (by omega)
        have h1 := reventat_c a hlt hac (enN a s) hlt2 m
        have h2 : ((enN a s : Nat) : Int) = enI a s := by unfold enN; omega
        have h3 : evtP a (enN a s) = eatV a s := by rw [eatV_in hac, if_neg (by omega)]
        rw [h2, h3] at h1
        unfold rchV at h1
        rw [hx] at h1
        exact h1
      have hsu : ∃ z1 z2 o : Int, ((eatV a s).2 = 0 → ∀ m, Gives Tryz.prog 15 [.agg [.int .i64 a.dip, .int .i64 1], .agg [.int .i64 x1, .int .i64 x2]] m (.tup [.agg [.int .i64 z1, .int .i64 z2], .bool (decide (o = 1))])) ∧
          (((eatV a s).2 = 0 → (o = 1 → (aftV a s).2 = 0 ∧ y1 = z1 ∧ y2 = z2) ∧ (¬ o = 1 → (aftV a s).2 = 8 ∧ y1 = 0 ∧ y2 = 0)) ∧ (¬ (eatV a s).2 = 0 → (aftV a s).2 = (eatV a s).2 ∧ y1 = 0 ∧ y2 = 0 ∧ x1 = 0 ∧ x2 = 0)) := by
        by_cases he : (eatV a s).2 = 0
        · obtain ⟨x, hxe, hxs⟩ := eat_zero he
          have hd := (acErr_pts hac).dip
          have hsd : sm (a.dip : Rat) := sm_int (by omega)
          have hr := fun m => rsub_c (a.dip : Rat) x hsd hxs m
          obtain ⟨rfl, rfl⟩ := hx1 x (by rw [hxe])
          refine ⟨((a.dip : Rat) - x).num, (((a.dip : Rat) - x).den : Int), if sm ((a.dip : Rat) - x) then 1 else 0, fun _ m => ?_, fun _ => ⟨fun ho => ?_, fun ho => ?_⟩, fun h => absurd he h⟩
          · have h1 := hr m
            have h2 : smB ((a.dip : Rat) - x) = decide ((if sm ((a.dip : Rat) - x) then (1 : Int) else 0) = 1) := by
              by_cases hh : sm ((a.dip : Rat) - x)
              · rw [smB_of hh, if_pos hh]; rfl
              · rw [smB_no hh, if_neg hh]; rfl
            rw [h2] at h1
            exact h1
          · have hh : sm ((a.dip : Rat) - x) := by
              by_cases hh : sm ((a.dip : Rat) - x)
              · exact hh
              · rw [if_neg hh] at ho; cases ho
            have ha : aftV a s = (some ((a.dip : Rat) - x), 0) := by unfold aftV; rw [hxe]; dsimp only; rw [if_pos hh]
            rw [ha]
            exact ⟨rfl, hy1 _ (by rw [ha])⟩
          · have hh : ¬ sm ((a.dip : Rat) - x) := fun hh => ho (by rw [if_pos hh])
            have ha : aftV a s = (none, 8) := by unfold aftV; rw [hxe]; dsimp only; rw [if_neg hh]
            rw [ha]
            exact ⟨rfl, hy2 (by rw [ha])⟩
        · refine ⟨0, 0, 0, fun h => absurd h he, fun h => absurd h he, fun _ => ?_⟩
          have hn := eat_none he
          have ha : aftV a s = (none, (eatV a s).2) := by
            unfold aftV
            rcases hq : eatV a s with ⟨r, e⟩
            rw [hq] at hn
            dsimp only at hn
            subst hn
            rfl
          rw [ha]
          exact ⟨rfl, (hy2 (by rw [ha])).1, (hy2 (by rw [ha])).2, (hx2 hn).1, (hx2 hn).2⟩
      obtain ⟨z1, z2, o, hsu, F2⟩ := hsu
      have F1 : enI a s < 0 → (eatV a s).2 = 6 ∧ x1 = 0 ∧ x2 = 0 := fun hi => by
        have h1 : eatV a s = (none, 6) := by rw [eatV_in hac, if_pos hi]
        rw [h1] at hx2 ⊢
        exact ⟨rfl, hx2 rfl⟩
      unfold rchV at hea haf
      rw [hx] at hea
      rw [hy] at haf
      have hrs : hapR a a.evs.length = hapS a := hapR_eq a _
      unfold roV at hro
      unfold ordV at hor
      unfold hdV at hhp
      rw [hrs] at hro
      rw [if_neg (by omega)] at hor
      rw [hch] at hhp
      by_cases hdc : dipErr a n d = 0
      · rw [if_neg (by omega)] at hhp
        obtain ⟨_, q, hq, hqs, hqn, hqd⟩ := chkDip_ok (a := a) (n := n) (d := d) (by rw [hch]; exact hdc)
        rw [hq] at hhp
        cases hl : hapS a with
        | none =>
          rw [hl] at hro hor hhp
          refine events_w a s n d hL hs hsa hac (enI a s) x1 x2 (eatV a s).2 y1 y2 (aftV a s).2 z1 z2 o 0 8 8 (dipErr a n d) [] [] [] 0 hea haf hen hre hsu hor hro hhp hcd (fun _ => ⟨q, hqn, hqd, hqs, rfl⟩) (fun p h => by cases h) (fun j h => by simp at h) (by simp) F1 F2 ⟨(fun h => by cases h), fun _ => ⟨rfl, rfl⟩⟩ ⟨fun h => absurd hdc h, (fun _ _ => ⟨rfl, rfl⟩), fun _ h => by cases h⟩ (fun h => by cases h) (fun _ h => by cases h) (by simp) (by simp) m
        | some l =>
          rw [hl] at hro hor hhp
          have hsr := hapS_srt hl
          have hsmm : ∀ p ∈ l, sm p.2 := fun p hp => by
            obtain ⟨j, hj, rfl⟩ := List.getElem_of_mem hp
            have := hapS_sm hac hl hj
            rwa [List.getD_eq_getElem?_getD, List.getElem?_eq_getElem hj] at this
          have hlH : (hapN a (hapD l q)).length ≤ 1000 := by
            rw [hapN_len]
            have := List.length_filter_le (fun p : Hp => decide (p.2 ≤ q)) l
            unfold hapD
            omega
          refine events_w a s n d hL hs hsa hac (enI a s) x1 x2 (eatV a s).2 y1 y2 (aftV a s).2 z1 z2 o 1 0 0 (dipErr a n d) l (hapN a l) (hapN a (hapD l q)) (insHN l q) hea haf hen hre hsu hor hro hhp hcd (fun _ => ⟨q, hqn, hqd, hqs, rfl⟩) hsmm (fun j hj => hapS_num hl hj) (by omega) F1 F2 ⟨fun _ => rfl, fun h => absurd rfl h⟩ ⟨fun h => absurd hdc h, fun _ h => absurd rfl h, fun _ _ => rfl⟩ (fun _ => rfl) (fun _ _ => by rw [hapD_take hsr.1]) hlH (by rw [hapN_len]; omega) m
      · rw [if_pos hdc] at hhp
        cases hl : hapS a with
        | none =>
          rw [hl] at hro hor
          refine events_w a s n d hL hs hsa hac (enI a s) x1 x2 (eatV a s).2 y1 y2 (aftV a s).2 z1 z2 o 0 8 (dipErr a n d) (dipErr a n d) [] [] [] 0 hea haf hen hre hsu hor hro hhp hcd (fun h => absurd h hdc) (fun p h => by cases h) (fun j h => by simp at h) (by simp) F1 F2 ⟨(fun h => by cases h), fun _ => ⟨rfl, rfl⟩⟩ ⟨fun _ => ⟨rfl, rfl⟩, fun h => absurd h hdc, fun h => absurd h hdc⟩ (fun h => by cases h) (fun h => absurd h hdc) (by simp) (by simp) m
        | some l =>
          rw [hl] at hro hor
          have hsr := hapS_srt hl
          have hsmm : ∀ p ∈ l, sm p.2 := fun p hp => by
            obtain ⟨j, hj, rfl⟩ := List.getElem_of_mem hp
            have := hapS_sm hac hl hj
            rwa [List.getD_eq_getElem?_getD, List.getElem?_eq_getElem hj] at this
          refine events_w a s n d hL hs hsa hac (enI a s) x1 x2 (eatV a s).2 y1 y2 (aftV a s).2 z1 z2 o 1 0 (dipErr a n d) (dipErr a n d) l (hapN a l) [] 0 hea haf hen hre hsu hor hro hhp hcd (fun h => absurd h hdc) hsmm (fun j hj => hapS_num hl hj) (by omega) F1 F2 ⟨fun _ => rfl, fun h => absurd rfl h⟩ ⟨fun _ => ⟨rfl, rfl⟩, fun h => absurd h hdc, fun h => absurd h hdc⟩ (fun _ => rfl) (fun h => absurd h hdc) (by simp) (by rw [hapN_len]; omega) m
    · exact events_bad a s n d hL hs hsa hac m
  · exact events_out a s n d h m
end Go.Proofs.YtbcjcbcakcdnfaaGreat
