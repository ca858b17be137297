/- contracts: the sort of pairs -/
import Derived.Test.YtaoakololkcepaaB64
set_option linter.unusedSimpArgs false
set_option linter.unusedVariables false
namespace Go.Proofs.Ytaoakololkcepaa
open Go.RowKit
section
variable {w : World} {ρ : List Re} {M : Mem} {b : Nat} {blk0 : Blk} {rb : Re}
theorem out_owned (hM : RelM w ρ M) (hb : M[b]? = some blk0) (hr : ρ[b]? = some rb) {k : Nat} (h : owned (outM M b blk0) (ρ ++ [rb]) k) : blk0.own = true ∧ k = rb.blk := by
  obtain ⟨i, blk, r, h1, h2, h3, h4⟩ := h
  rcases outM_get hb h1 with ⟨rfl, rfl⟩ | ⟨q, hne, b0, g1, rfl⟩ | ⟨_, rfl⟩
  · rcases out_ρ hM hr h3 with ⟨q, _⟩ | ⟨_, rfl⟩
    · omega
    · exact ⟨h2, h4.symm⟩
  · rw [lendB_own] at h2; cases h2
  · simp [Blk.own] at h2
end
def Blk.flatS : Blk → Bool
  | .cells _ _ _ es => es.all flatL
  | _ => false
theorem CallW_of {P : Program} {f : FuncId} {tvs : List TV} {b : Nat} {blk0 blk' : Blk} {v : V} (h0 : blk0.own = true) (hl : ∃ ty sz es, blk0 = .cells .own ty sz es) (hf' : blk'.flatS = true) (ho' : blk'.own = true) (hv : v.flat = true) (hgo : isGo P f = true)
    (h : ∀ m : Mem, CallA P f (tvs.map (TV.inst fun _ => (lend m).length)) (lend m ++ [blk0]) (fun v' mo => v' = v ∧ ∃ ext, mo = some (lend m ++ (blk' :: ext)))) : CallW P f (tvs.map (TV.inst fun _ => b)) b blk0 blk' v := by
  intro M hb
  refine ⟨hgo, fun w ρ xs hM hA => ?_⟩
  have hbl : b < M.length := (List.getElem?_eq_some_iff.1 hb).1
  have hr : ρ[b]? = some (ρ[b]'(by rw [hM.len]; exact hbl)) := List.getElem?_eq_getElem _
  generalize ρ[b]'(by rw [hM.len]; exact hbl) = rb at hr
  have hO := hM.out hb h0 hr
  have hlen : (lend (M.set b .dead)).length = M.length := by simp [lend]
  have hA' : RelAs w (ρ ++ [rb]) (outM M b blk0) (tvs.map (TV.inst fun _ => (lend (M.set b .dead)).length)) xs := by
    refine ⟨by have := hA.1; simpa using this, fun i u x h1 h2 => ?_⟩
    rw [List.getElem?_map, Option.map_eq_some_iff] at h1
    obtain ⟨tv, g1, rfl⟩ := h1
    have g2 := hA.2 i (tv.inst fun _ => b) x (by rw [List.getElem?_map, g1]; rfl) h2
    have hnew : (ρ ++ [rb])[M.length]? = some rb := by rw [List.getElem?_append_right (by rw [hM.len]; exact Nat.le_refl _), hM.len]; simp
    cases tv with
    | v y => exact g2.mono (Nat.le_refl _) (fun _ _ _ => rfl) (fun _ _ h => (out_bad hM hb hr).1 h) (fun _ _ h => prefix_get h)
    | ptr i a o =>
      simp only [TV.inst] at g2 ⊢
      rw [hlen]
      cases g2 with | ptr _ _ _ r k1 => rw [hr] at k1; cases k1; exact .ptr _ _ _ _ hnew
    | sl i n =>
      simp only [TV.inst] at g2 ⊢
      rw [hlen]
      cases g2 with | sl _ _ r k1 k2 k3 => rw [hr] at k1; cases k1; exact .sl _ _ _ hnew k2 k3
    | mp i =>
      simp only [TV.inst] at g2 ⊢
      rw [hlen]
      cases g2 with | mp _ r k1 => rw [hr] at k1; cases k1; exact .mp _ _ hnew
  refine ((h (M.set b .dead)).2 w (ρ ++ [rb]) xs hO hA').mono ?_
  rintro e w' ⟨v', mo, x, rfl, ⟨rfl, ext, rfl⟩, hh⟩
  rcases hh with ⟨e, _⟩ | ⟨m', ρ', e, af, rv⟩
  · cases e
  · cases e
    have hno : ∀ k, k < w.heap.size → k ≠ rb.blk → w'.heap[k]? = w.heap[k]? := fun k hk hn => af.keep.block k hk fun ho => hn (out_owned hM hb hr ho).2
    have hown : owned M ρ rb.blk := ⟨b, blk0, rb, hb, h0, hr, rfl⟩
    have hρ : ∀ (i : Nat) r, ρ[i]? = some r → ρ'[i]? = some r := fun i r h => af.pre i r (prefix_get h)
    have hρb : ρ'[M.length]? = some rb := af.pre _ _ (by rw [List.getElem?_append_right (by rw [hM.len]; exact Nat.le_refl _), hM.len]; simp)
    have hY : ∀ (i : Nat) blk, (M.set b blk')[i]? = some blk → (i = b ∧ blk = blk') ∨ (i ≠ b ∧ M[i]? = some blk) := by
      intro i blk h
      by_cases e : b = i
      · subst e
        rw [List.getElem?_set, if_pos rfl, if_pos hbl] at h
        cases h; exact .inl ⟨rfl, rfl⟩
      · rw [List.getElem?_set, if_neg e] at h
        exact .inr ⟨fun q => e q.symm, h⟩
    have hnb : ∀ (i : Nat) blk r, i ≠ b → M[i]? = some blk → blk ≠ .dead → ρ[i]? = some r → r.blk ≠ rb.blk := fun i blk r hne h1 h2 h3 e => hne (hM.inj i b blk blk0 r rb h1 h2 hb (Blk.bad_of_own h0) h3 hr e)
    have hbad : ∀ k, bad (M.set b blk') ρ k → bad M ρ k := by
      rintro k ⟨i, blk, r, h1, h2, h3, h4⟩
      rcases hY i blk h1 with ⟨rfl, rfl⟩ | ⟨hne, g⟩
      · exact ⟨_, blk0, r, hb, Blk.bad_of_own h0, h3, h4⟩
      · exact ⟨i, blk, r, g, h2, h3, h4⟩
    have hV : ∀ {u : V} {y : Value}, RelV w ρ (bad M ρ) u y → RelV w' ρ (bad (M.set b blk') ρ) u y := fun hu =>
      hu.mono af.keep.size (fun k hk hn => hno k hk fun e => hn (e ▸ bad_of_owned hown)) (fun k _ h => hbad k h) (fun _ _ h => h)
    have hm' : (lend (M.set b .dead) ++ blk' :: ext)[M.length]? = some blk' := by rw [List.getElem?_append_right (by omega), hlen]; simp
    have hmem : RelM w' ρ (M.set b blk') := by
      refine ⟨by rw [List.length_set]; exact hM.len, fun i st ty sz es h => ?_, fun i j blk blk1 r r' h1 h2 h3 h4 h5 h6 h7 => ?_, fun i st vs φ h => ?_⟩
      · rcases hY i _ h with ⟨rfl, e⟩ | ⟨hne, g⟩
        · obtain ⟨r, cur, k1, k2, k3, k4, k5, k6, k7, k8, k9⟩ := af.mem.cells M.length st ty sz es (by rw [hm', e])
          rw [hρb] at k1; cases k1
          refine ⟨_, cur, hr, k2, k3, k4, k5, k6, k7, k8, fun p j e' u a1 a2 => ?_⟩
          obtain ⟨b1, y, b2, b3⟩ := k9 p j e' u a1 a2
          rw [← e] at hf'
          simp only [Blk.flatS, List.all_eq_true] at hf'
          exact ⟨b1, y, b2, flat_rel b3 (flatL_mem (hf' e' (List.mem_of_getElem? a1)) u (List.mem_of_getElem? a2))⟩
        · obtain ⟨r, cur, k1, k2, k3, k4, k5, k6, k7, k8, k9⟩ := hM.cells i st ty sz es g
          refine ⟨r, cur, k1, k2, k3, (hno _ (heap_lt k4) (hnb i _ r hne g (by simp) k1)).trans k4, k5, k6, k7, k8, fun p j e' u a1 a2 => ?_⟩
          obtain ⟨b1, y, b2, b3⟩ := k9 p j e' u a1 a2
          exact ⟨b1, y, b2, hV b3⟩
      · have conv : ∀ (i : Nat) blk, (M.set b blk')[i]? = some blk → ∃ blk2, M[i]? = some blk2 ∧ (blk ≠ .dead → blk2 ≠ .dead) ∧ (blk.bad = true → blk2.bad = true) := by
          intro i blk h
          rcases hY i blk h with ⟨rfl, rfl⟩ | ⟨hne, g⟩
          · exact ⟨_, hb, fun _ => Blk.live_of_bad (Blk.bad_of_own h0), fun _ => Blk.bad_of_own h0⟩
          · exact ⟨_, g, fun h => h, fun h => h⟩
        obtain ⟨c1, q1, q2, _⟩ := conv i blk h1
        obtain ⟨c2, q3, _, q4⟩ := conv j blk1 h3
        exact hM.inj i j c1 c2 r r' q1 (q2 h2) q3 (q4 h4) h5 h6 h7
      · rcases hY i _ h with ⟨rfl, e⟩ | ⟨hne, g⟩
        · rw [← e] at hf'; simp [Blk.flatS] at hf'
        · obtain ⟨r, k1, k2⟩ := hM.objs i st vs φ g
          exact ⟨r, k1, k2.mono (fun hlt => hno _ hlt (hnb i _ r hne g (by simp) k1)) fun u y h => hV h⟩
    refine ⟨v', _, x, rfl, ⟨rfl, rfl⟩, .inr ⟨_, ρ, rfl, ⟨⟨af.keep.os, af.keep.tape, af.keep.output, af.keep.size, fun k hk hn => hno k hk fun e => hn (e ▸ hown)⟩, fun _ _ h => h, hmem, fun k hk ho => ?_, fun k _ h => hbad k h⟩, flat_rel rv hv⟩⟩
    obtain ⟨i, blk, r, h1, h2, h3, h4⟩ := ho
    rcases hY i blk h1 with ⟨rfl, rfl⟩ | ⟨hne, g⟩
    · exact ⟨_, blk0, r, hb, h0, h3, h4⟩
    · exact ⟨i, blk, r, g, h2, h3, h4⟩
theorem CallW_in {P : Program} {f : FuncId} {fn : Func} {c : Code} {n : Nat} {rs : Array ResultVar} {tvs : List TV} {b : Nat} {ty sz : Nat} {es es' : List (List V)} {v : V} (hf : P.funcs[f]? = some fn) (hb : fn.body = some c) (hN : fn.ntmps = n) (hr : fn.results = rs) (hg : isGo P f = true) (hn : tvs.length ≤ n)
    (hfl : es'.all flatL = true) (hv : v.flat = true)
    (h : ∀ (m : Mem) (Q : Exit → List (Nat × V) → Mem → Prop), (∀ e t m', (e = .normal ∨ e = .ret) → ∀ ext, resV P t m' rs.toList = some v → m' = lend m ++ (.cells .own ty sz es' :: ext) → Q e t m') → WA P n c (argT 0 (tvs.map (TV.inst fun _ => (lend m).length))) (lend m ++ [.cells .own ty sz es]) Q) :
    CallW P f (tvs.map (TV.inst fun _ => b)) b (.cells .own ty sz es) (.cells .own ty sz es') v := by
  subst hN; subst hr
  refine CallW_of rfl ⟨_, _, _, rfl⟩ hfl rfl hv hg fun m => CallA_introD hf hb hg (by simpa using hn) (h m _ ?_)
  intro e t m' he ext hres hm'
  refine ⟨he, ?_⟩
  rw [hres]
  exact ⟨rfl, ext, by rw [hm']⟩
section
variable {N : Nat} {t : List (Nat × V)} {m : Mem} {c : Operand} {x y : Code} {Q : Exit → List (Nat × V) → Mem → Prop}
theorem r_esW {P : Program} {e : Exit} {v v' : V} {m0 ext : Mem} {blk1 blk' : Blk} {rs : List ResultVar} (hQ : ∀ e t m', (e = .normal ∨ e = .ret) → ∀ ext, resV P t m' rs = some v → m' = lend m0 ++ (blk' :: ext) → Q e t m') (h : v' = v) (hbk : blk1 = blk') (he : e = .normal ∨ e = .ret := by first | exact .inl rfl | exact .inr rfl | fail) (hr : resV P t m rs = some v' := by first | exact rv_ | fail) (hm : m = lend m0 ++ (blk1 :: ext) := by first | exact rfl | fail) : Q e t m := hQ e t m he ext (h ▸ hr) (hbk ▸ hm)
end
attribute [local irreducible] WA WOs WDs WAn qThen qBlock tput
set_option maxHeartbeats 1000000
set_option maxRecDepth 20000
set_option linter.unusedSimpArgs false
set_option linter.unusedVariables false
set_option maxHeartbeats 4000000
theorem srtI_len {l cur : List Pr} {i : Nat} (h : srtI l cur i) : cur.length = l.length := h.1.length_eq
theorem srtJ_len {l cur : List Pr} {i j : Nat} (h : srtJ l cur i j) : cur.length = l.length := h.1.length_eq
theorem uB65_148_4 {N : Nat} {l : List Oper} {t : List (Nat × V)} {m : Mem} {Q : Exit → List (Nat × V) → Mem → Prop} (h : RgN Try.prog N l t m Q (fun i => if i == 8 || i == 13 || i == 14 then .q else .p) [.one 0, .one 1, .one 2, .one 3, .one 4, .one 5, .one 6, .one 7, .one 8, .one 9, .one 10, .one 11, .one 12, .one 13, .one 14, .one 15, .one 16]) : WA Try.prog N (.region 4 l.toArray true) t m Q := d_rgN h
theorem uB65_148_6 {N : Nat} {l : List Oper} {t : List (Nat × V)} {m : Mem} {Q : Exit → List (Nat × V) → Mem → Prop} (h : RgN Try.prog N l t m Q (fun i => if i == 15 || i == 17 then .w else if i == 9 || i == 13 then .q else .p) [.one 0, .one 1, .one 2, .one 3, .one 4, .one 5, .one 6, .one 7, .one 8, .one 9, .one 10, .one 11, .one 12, .one 13, .one 14, .one 15, .one 16, .one 17]) : WA Try.prog N (.region 6 l.toArray true) t m Q := d_rgN h
theorem inssort_w (b : Nat) (l T : List Pr) (hp : T.Perm l) (hs : T.Pairwise leP) (h0 : 1 ≤ l.length) (hl : l.length ≤ 1000) : CallW Try.prog 148 [.sl b l.length, .int .i64 0, .int .i64 l.length, .clo (.func 106) [] []] b (.cells .own 52 2 (prsV l)) (.cells .own 52 2 (prsV T)) (.tup []) := by
  have hlen := prsV_length (l := l)
  have hga := hlen
  have hgb := hlen
  have hti := hlen
  have htj := hlen
  have htk := hlen
  have hcl := fun m => gdis1_c pr0 pr0 m
  refine CallW_in (tvs := [.sl 0 l.length, .v (.int .i64 0), .v (.int .i64 l.length), .v (.clo (.func 106) [] [])]) (v := .tup []) (es' := prsV T) Try.func148 rfl Try.ntmps148 Try.results148 (by kernel_rfl) (by simp) (prsV_flat _) rfl fun m Q hQ => ?_
  simp only [List.map_cons, List.map_nil, TV.inst]
  (have FX := And.intro hlen (And.intro hga (And.intro hgb (And.intro hti (And.intro htj htk)))); repeat' (first | (refine sx ?_ ?_ <;> intro h <;> first | (exfalso; omega) | skip) | (refine g_op ?_; refine g_call ?_; refine g_args ?_; (first | refine s_fn (hcl _) ?_) <;> try first | omega | assumption) | (refine g_op ?_; refine g_dyn ?_; refine g_dargs ?_; first | (refine s_fn (hcl _) ?_ <;> try first | omega | assumption)) | refine ny ?_ | refine WA_block ?_ | (refine uB65_148_4 ?_; refine ⟨by kernel_rfl, ?_⟩) | (refine uB65_148_6 ?_; refine ⟨by kernel_rfl, ?_⟩) | ((first | refine grp_cons (fun _ => hcl _) ?_) <;> try first | omega | assumption) | (refine g_d ?_; refine d_args ?_; (first | refine d_fn (hcl _) ?_ | refine d_fnQ (fun _ => hcl _) ?_) <;> try first | omega | assumption) | (refine g_d ?_; (first | refine d_fnY (hcl _) ?_) <;> try first | omega | assumption) | (refine g_d ?_; first | (refine d_dyn (hcl _) ?_ <;> try first | omega | assumption) | (refine d_dynY (hcl _) ?_ <;> try first | omega | assumption))))
  refine WA_whileK (σ := Nat × List Pr) [0, 1, 2, 3, 8] (fun s => [.sl (lend m).length l.length, .int .i64 0, .int .i64 l.length, .clo (.func 106) [] [], .int .i64 ((s.1 : Int) + 1)]) (fun s => [.cells .own 52 2 (prsV s.2)]) 1 (fun s => s.1 + 1 ≤ l.length ∧ srtI l s.2 (s.1 + 1)) (fun s => l.length - s.1) (0, l) ⟨h0, srtI_one l⟩ ?_ rfl (fun _ => rfl) (by intro s s' _ _; simp [conS, V.keeps, V.plain, V.flat, flatL]) (by intro s s' _ _; simp [conB, Blk.flat, prsV_pl]) ?_
  · show _ = [_, _, _, _, V.int .i64 (((0 : Nat) : Int) + 1)]
    exact tv_
  rintro ⟨i, cur⟩ ⟨hi1, hsi⟩ K hK
  dsimp only at hi1 hsi
  simp only [zipT]
  clear FX hcl hlen
  have hlen : (prsV cur).length = l.length := by rw [prsV_length, srtI_len hsi]
  rcases Nat.lt_or_ge (i + 1) l.length with hi | hi
  · have hcl := fun m => gdis1_c pr0 pr0 m
    have hga := hlen
    have hgb := hlen
    have hti := hlen
    have htj := hlen
    have htk := hlen
    (have FX := And.intro hlen (And.intro hga (And.intro hgb (And.intro hti (And.intro htj htk)))); repeat' (first | (refine sx ?_ ?_ <;> intro h <;> first | (exfalso; omega) | skip) | (refine g_op ?_; refine g_call ?_; refine g_args ?_; (first | refine s_fn (hcl _) ?_) <;> try first | omega | assumption) | (refine g_op ?_; refine g_dyn ?_; refine g_dargs ?_; first | (refine s_fn (hcl _) ?_ <;> try first | omega | assumption)) | refine ny ?_ | refine WA_block ?_ | (refine uB65_148_4 ?_; refine ⟨by kernel_rfl, ?_⟩) | (refine uB65_148_6 ?_; refine ⟨by kernel_rfl, ?_⟩) | ((first | refine grp_cons (fun _ => hcl _) ?_) <;> try first | omega | assumption) | (refine g_d ?_; refine d_args ?_; (first | refine d_fn (hcl _) ?_ | refine d_fnQ (fun _ => hcl _) ?_) <;> try first | omega | assumption) | (refine g_d ?_; (first | refine d_fnY (hcl _) ?_) <;> try first | omega | assumption) | (refine g_d ?_; first | (refine d_dyn (hcl _) ?_ <;> try first | omega | assumption) | (refine d_dynY (hcl _) ?_ <;> try first | omega | assumption))))
    all_goals (try (exfalso; omega))
    clear FX hcl hga hgb hti htj htk hlen
    refine WA_whileK (σ := Nat × List Pr) [0, 1, 2, 3, 8, 9] (fun s => [.sl (lend m).length l.length, .int .i64 0, .int .i64 l.length, .clo (.func 106) [] [], .int .i64 ((i : Int) + 1), .int .i64 s.1]) (fun s => [.cells .own 52 2 (prsV s.2)]) 1 (fun s => s.1 ≤ i + 1 ∧ srtJ l s.2 (i + 1) s.1) (fun s => s.1) (i + 1, cur) ⟨Nat.le_refl _, srtJ_start hsi⟩ ?_ rfl (fun _ => rfl) (by intro s s' _ _; simp [conS, V.keeps, V.plain, V.flat, flatL]) (by intro s s' _ _; simp [conB, Blk.flat, prsV_pl]) ?_
    · show _ = [_, _, _, _, _, V.int .i64 (((i + 1 : Nat) : Int))]
      rw [Int.natCast_add]; exact tv_
    rintro ⟨j, cu⟩ ⟨hj1, hsj⟩ K2 hK2
    dsimp only at hj1 hsj
    simp only [zipT]
    have hcu := srtJ_len hsj
    have hlen : (prsV cu).length = l.length := by rw [prsV_length, hcu]
    cases j with
    | zero =>
      have hz := srtJ_zero hsj
      have hcl := fun m => gdis1_c pr0 pr0 m
      have hga := hlen
      have hgb := hlen
      have hti := hlen
      have htj := hlen
      have htk := hlen
      (have FX := And.intro hlen (And.intro hga (And.intro hgb (And.intro hti (And.intro htj htk)))); repeat' (first | (refine sx ?_ ?_ <;> intro h <;> first | (exfalso; omega) | skip) | (refine g_op ?_; refine g_call ?_; refine g_args ?_; (first | refine s_fn (hcl _) ?_) <;> try first | omega | assumption) | (refine g_op ?_; refine g_dyn ?_; refine g_dargs ?_; first | (refine s_fn (hcl _) ?_ <;> try first | omega | assumption)) | refine ny ?_ | refine WA_block ?_ | (refine uB65_148_4 ?_; refine ⟨by kernel_rfl, ?_⟩) | (refine uB65_148_6 ?_; refine ⟨by kernel_rfl, ?_⟩) | ((first | refine grp_cons (fun _ => hcl _) ?_) <;> try first | omega | assumption) | (refine g_d ?_; refine d_args ?_; (first | refine d_fn (hcl _) ?_ | refine d_fnQ (fun _ => hcl _) ?_) <;> try first | omega | assumption) | (refine g_d ?_; (first | refine d_fnY (hcl _) ?_) <;> try first | omega | assumption) | (refine g_d ?_; first | (refine d_dyn (hcl _) ?_ <;> try first | omega | assumption) | (refine d_dynY (hcl _) ?_ <;> try first | omega | assumption))))
      all_goals (try (exfalso; omega))
      all_goals (refine nextL_ hK (i + 1, cu) ⟨by omega, hz⟩ (by dsimp only; omega) (ht := ?_))
      all_goals (show _ = [_, _, _, _, V.int .i64 (((i + 1 : Nat) : Int) + 1)]; rw [Int.natCast_add]; exact tv_)
    | succ j =>
      have hstop := srtJ_stop hsj hj1
      have hstep := srtJ_step hsj hj1 (by omega)
      have hga1 := prsV_get (l := cu) (i := j + 1) (by omega)
      have hgb1 := prsV_get (l := cu) (i := j) (by omega)
      have hset1 : (prsV cu).set (j + 1) (prV (cu.getD j pr0)) = prsV (cu.set (j + 1) (cu.getD j pr0)) := prsV_set
      have hset2 : (prsV (cu.set (j + 1) (cu.getD j pr0))).set j (prV (cu.getD (j + 1) pr0)) = prsV (swpP cu j) := prsV_set
      have hgc : (prsV (cu.set (j + 1) (cu.getD j pr0)))[j]? = some (prV (cu.getD j pr0)) := by
        rw [prsV_get (by rw [List.length_set]; omega), getD_setP, if_neg (by omega)]
      obtain ⟨⟨dn, dq⟩, hd⟩ : ∃ p, cu.getD (j + 1) pr0 = p := ⟨_, rfl⟩
      obtain ⟨⟨pn, pq⟩, hpp⟩ : ∃ p, cu.getD j pr0 = p := ⟨_, rfl⟩
      rw [hd] at hstop hstep hga1 hset2
      rw [hpp] at hstop hstep hgb1 hset1 hset2 hgc
      generalize swpP cu j = cw at *
      generalize cu.set (j + 1) (pn, pq) = cx at *
      have hcl := fun m => gdis1_c (dn, dq) (pn, pq) m
      have hcn := cmpP_lt (p := (dn, dq)) (q := (pn, pq))
      generalize cmpP (dn, dq) (pn, pq) = cv at hcl hcn
      unfold prV at hga1 hgb1 hset1 hset2 hgc hcl
      dsimp only at hga1 hgb1 hset1 hset2 hgc hcl
      have hga := hga1
      have hgb := hgb1
      have hti : ((j + 1 : Nat) : Int).toNat = j + 1 := by omega
      have htj := And.intro hset1 (And.intro hset2 hgc)
      have htk : ((j + 1 : Nat) : Int) - 1 = (j : Int) := by omega
      by_cases hlt : leP (pn, pq) (dn, dq)
      · have hc0 : ¬ cv < 0 := fun h => (hcn.1 h) hlt
        have hz := hstop hlt
        (have FX := And.intro hlen (And.intro hga (And.intro hgb (And.intro hti (And.intro htj htk)))); repeat' (first | (refine sx ?_ ?_ <;> intro h <;> first | (exfalso; omega) | skip) | (refine g_op ?_; refine g_call ?_; refine g_args ?_; (first | refine s_fn (hcl _) ?_) <;> try first | omega | assumption) | (refine g_op ?_; refine g_dyn ?_; refine g_dargs ?_; first | (refine s_fn (hcl _) ?_ <;> try first | omega | assumption)) | refine ny ?_ | refine WA_block ?_ | (refine uB65_148_4 ?_; refine ⟨by kernel_rfl, ?_⟩) | (refine uB65_148_6 ?_; refine ⟨by kernel_rfl, ?_⟩) | ((first | refine grp_cons (fun _ => hcl _) ?_) <;> try first | omega | assumption) | (refine g_d ?_; refine d_args ?_; (first | refine d_fn (hcl _) ?_ | refine d_fnQ (fun _ => hcl _) ?_) <;> try first | omega | assumption) | (refine g_d ?_; (first | refine d_fnY (hcl _) ?_) <;> try first | omega | assumption) | (refine g_d ?_; first | (refine d_dyn (hcl _) ?_ <;> try first | omega | assumption) | (refine d_dynY (hcl _) ?_ <;> try first | omega | assumption))))
        all_goals (try (exfalso; omega))
        all_goals (refine nextL_ hK (i + 1, cu) ⟨by omega, hz⟩ (by dsimp only; omega) (ht := ?_))
        all_goals (show _ = [_, _, _, _, V.int .i64 (((i + 1 : Nat) : Int) + 1)]; rw [Int.natCast_add]; exact tv_)
      · have hc0 := hcn.2 hlt
        have hz := hstep hlt
        (have FX := And.intro hlen (And.intro hga (And.intro hgb (And.intro hti (And.intro htj htk)))); repeat' (first | (refine sx ?_ ?_ <;> intro h <;> first | (exfalso; omega) | skip) | (refine g_op ?_; refine g_call ?_; refine g_args ?_; (first | refine s_fn (hcl _) ?_) <;> try first | omega | assumption) | (refine g_op ?_; refine g_dyn ?_; refine g_dargs ?_; first | (refine s_fn (hcl _) ?_ <;> try first | omega | assumption)) | refine ny ?_ | refine WA_block ?_ | (refine uB65_148_4 ?_; refine ⟨by kernel_rfl, ?_⟩) | (refine uB65_148_6 ?_; refine ⟨by kernel_rfl, ?_⟩) | ((first | refine grp_cons (fun _ => hcl _) ?_) <;> try first | omega | assumption) | (refine g_d ?_; refine d_args ?_; (first | refine d_fn (hcl _) ?_ | refine d_fnQ (fun _ => hcl _) ?_) <;> try first | omega | assumption) | (refine g_d ?_; (first | refine d_fnY (hcl _) ?_) <;> try first | omega | assumption) | (refine g_d ?_; first | (refine d_dyn (hcl _) ?_ <;> try first | omega | assumption) | (refine d_dynY (hcl _) ?_ <;> try first | omega | assumption))))
        all_goals (try (exfalso; omega))
        all_goals (refine nextL_ hK2 (j, cw) ⟨by omega, hz⟩ (by dsimp only; omega))
  · have hie : i + 1 = cur.length := by rw [srtI_len hsi]; omega
    rw [hie] at hsi
    have hend := srtI_end hsi hp hs
    rw [hend]
    rw [hend] at hlen
    have hcl := fun m => gdis1_c pr0 pr0 m
    have hga := hlen
    have hgb := hlen
    have hti := hlen
    have htj := hlen
    have htk := hlen
    (have FX := And.intro hlen (And.intro hga (And.intro hgb (And.intro hti (And.intro htj htk)))); repeat' (first | (refine sx ?_ ?_ <;> intro h <;> first | (exfalso; omega) | skip) | (refine g_op ?_; refine g_call ?_; refine g_args ?_; (first | refine s_fn (hcl _) ?_) <;> try first | omega | assumption) | (refine g_op ?_; refine g_dyn ?_; refine g_dargs ?_; first | (refine s_fn (hcl _) ?_ <;> try first | omega | assumption)) | refine ny ?_ | refine WA_block ?_ | (refine uB65_148_4 ?_; refine ⟨by kernel_rfl, ?_⟩) | (refine uB65_148_6 ?_; refine ⟨by kernel_rfl, ?_⟩) | ((first | refine grp_cons (fun _ => hcl _) ?_) <;> try first | omega | assumption) | (refine g_d ?_; refine d_args ?_; (first | refine d_fn (hcl _) ?_ | refine d_fnQ (fun _ => hcl _) ?_) <;> try first | omega | assumption) | (refine g_d ?_; (first | refine d_fnY (hcl _) ?_) <;> try first | omega | assumption) | (refine g_d ?_; first | (refine d_dyn (hcl _) ?_ <;> try first | omega | assumption) | (refine d_dynY (hcl _) ?_ <;> try first | omega | assumption))))
    all_goals (try (exfalso; omega))
    all_goals (refine r_esW hQ ?_ ?_ <;> try with_reducible rfl)
end Go.Proofs.Ytaoakololkcepaa
