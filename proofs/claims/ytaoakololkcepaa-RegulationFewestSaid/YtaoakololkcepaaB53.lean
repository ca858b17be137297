/- contract: the steps with the fewest passes, in the reference -/
import Derived.Test.YtaoakololkcepaaB52
set_option linter.unusedSimpArgs false
set_option linter.unusedVariables false
namespace Go.Proofs.Ytaoakololkcepaa
open Go.RowKit
attribute [local irreducible] WA WOs WDs WAn qThen qBlock tput
set_option maxHeartbeats 1000000
set_option maxRecDepth 20000
set_option linter.unusedSimpArgs false
set_option linter.unusedVariables false
set_option maxHeartbeats 8000000
def bsV (s : Bst) : V := if s.f = true then .lst (nsV s.l) else .nilsl
theorem or_lt {p q p2 q2 : Int} : 0 ≤ orI (cmpI p p2) (cmpI q q2) ↔ ¬ (p < p2 ∨ p = p2 ∧ q < q2) := by
  have h1 := cmpI_lt (x := p) (y := p2)
  have h2 := cmpI_eq (x := p) (y := p2)
  have h3 := cmpI_lt (x := q) (y := q2)
  unfold orI
  split <;> omega
theorem nxA_nxL {ads : List AdR} {l l' : List Int} (h : nxA ads l = some l') : nxL ads l = l' := by
  unfold nxA at h
  unfold nxL
  split at h
  · rename_i e
    rw [e]
    exact Option.some.inj h
  · cases h
theorem nxL_len (ads : List AdR) (l : List Int) : (nxL ads l).length = l.length := by
  have h := crL_len (ads := ads) ads.length l
  unfold nxL
  split
  · rename_i e
    rw [e] at h
    rw [List.length_set]
    exact h
  · rename_i e
    rw [e] at h
    exact h
/-- what the loop knows -/
structure FwI (b : BnR) (n : Nat) (l : List Int) (s : Bst) (mo : Bool) : Prop where
  ok : BstOk b s
  ll : l.length = b.ads.length
  go : mo = true → stOk b.ads l ∧ rkK b.ads l b.ads.length < n ∧ fwF b n l s = fwB b
  no : mo = false → s = fwB b
  nl : s.f = false → s.l = []
theorem fwI_step {b : BnR} (hw : ∀ i, i < b.ads.length → (b.ads.getD i adz).least ≤ (b.ads.getD i adz).most) {n : Nat} {l : List Int} {s : Bst} (h : FwI b n l s true) : ∃ n', n = n' + 1 ∧ FwI b n' (nxL b.ads l) (updB b l s) (nxA b.ads l).isSome := by
  obtain ⟨h1, h2, h3⟩ := h.go rfl
  obtain ⟨n', rfl⟩ : ∃ n', n = n' + 1 := ⟨n - 1, by omega⟩
  have hu := updB_ok h1 h.ok
  refine ⟨n', rfl, hu, by rw [nxL_len]; exact h.ll, fun hm => ?_, fun hm => ?_, fun hf => ?_⟩
  · cases hn : nxA b.ads l with
    | none => rw [hn] at hm; cases hm
    | some l' =>
      rw [nxA_nxL hn]
      have hr := nxA_rank h1 hw hn
      refine ⟨nxA_ok h1 hw hn, by omega, ?_⟩
      unfold fwF at h3
      rw [hn] at h3
      exact h3
  · cases hn : nxA b.ads l with
    | none =>
      unfold fwF at h3
      rw [hn] at h3
      exact h3
    | some l' => rw [hn] at hm; cases hm
  · unfold updB at hf ⊢
    split
    · rename_i hc
      rw [if_pos hc] at hf
      exact h.nl hf
    · rename_i hc
      rw [if_neg hc] at hf
      cases hf
theorem fin_lib {m0 D : Mem} {es : List (List V)} {a : Int} {c : Bool} {R : V → Option Mem → Prop} (h : plainLL es = true) (hR : R (.tup [.lst es, .int .i64 a, .bool c]) none) : Fin m0 R (.tup [.lst es, .int .i64 a, .bool c]) (lend m0 ++ D) := by
  refine .inr ⟨D, _, rfl, ?_, hR⟩
  show (frzs (frz _ _ 3) [_, _, _]).map V.tup = _
  have e2 : frz (lend m0 ++ D) m0.length 3 (.bool c) = some (.bool c) := frz_plain _ _ _ rfl (by simp) (by simp) (by simp) (by simp)
  rw [frzs_cons (frz_ls h) (frzs_cons (frz_int _ _ _ _ _) (frzs_cons e2 rfl))]
  rfl

theorem rfewest_c (b : BnR) (h0 : bnErr b = 0) (m : Mem) : Gives Try.prog 61 [.agg [.lst (mssV b.ms), .lst (adsV b.ads)]] m (.tup [.lst (nsV (fwB b).l), .int .i64 (fwB b).p, .bool (fwB b).f]) := by
  have hk := bn_ok h0
  have hbd := bnd_ok hk
  have hfa := hbd.fa
  have hw : ∀ i, i < b.ads.length → (b.ads.getD i adz).least ≤ (b.ads.getD i adz).most := fun i hi => by have := hbd.le i hi; have := hbd.mo i hi; omega
  have hef : ∀ k, k < b.ads.length → (b.ads.getD k adz).effs.length ≤ 1000 := fun k hk2 => by have := (ad_ok (hk.ae k hk2)).fe; omega
  have hla := adsV_length (l := b.ads)
  have hre : ∀ n, n = b.ads.length → List.replicate n [V.int .i64 0] = nsV (filL b.ads 0) := fun n h => by rw [h, filL_zero]
  have hga := hla
  have hlb := hla
  have hbg := hla
  have hbr := hla
  have hps := hla
  have hsz := hla
  have hsb := hla
  have hci := hla
  have hnw := hla
  suffices key : CallA Try.prog 61 [.agg [.lst (mssV b.ms), .lst (adsV b.ads)]] m (fun v mo => mo = none ∧ WkV v (.tup [.lst (nsV (fwB b).l), .int .i64 (fwB b).p, .bool (fwB b).f])) from Gives_of key fun v mo h => h
  refine CallA_in Try.func61 rfl Try.ntmps61 Try.results61 (by kernel_rfl) (by simp) fun Q hQ => ?_
  (have FX := And.intro hla (And.intro hga (And.intro hre (And.intro hlb hbg))); repeat' (first | (refine sx ?_ ?_ <;> intro h <;> first | (exfalso; omega) | skip) | (refine g_op ?_; refine g_call ?_; refine g_args ?_; (first | refine s_fn (hbr _ _ ?_) ?_ | refine s_fn (hps _ _ ?_) ?_ | refine s_fn (hsz _ _ ?_) ?_ | refine s_fn (hsb _) ?_ | refine s_fn (hci _ _ ?_) ?_ | refine s_fnW (hnw) ?_) <;> try first | omega | assumption) | refine ny ?_ | refine WA_block ?_))
  all_goals (try (exfalso; omega))
  refine WA_whileP (σ := Nat) (M := lend m) [1, 5, 6] (fun i => [.ptr (lend m).length 0 0, .sl ((lend m).length + 1) b.ads.length, .int .i64 i]) (fun i => [.cells .own 25 2 [[.lst (mssV b.ms), .lst (adsV b.ads)]], .cells .own 3 1 (nsV (filL b.ads i))]) 2 (fun i => i ≤ b.ads.length) (fun i => b.ads.length - i) 0 (Nat.zero_le _) tv_ rfl (fun _ => rfl) (by intro s s' _ _; simp [conB, conS, V.keeps, V.plain, Blk.flat, flatL, plainL, V.flat]) (fun _ _ _ _ => ⟨.inr rfl, .inl (cI_flat _), trivial⟩) ?_
  rintro i hi1 K hK
  simp only [zipT]
  clear FX hga hre hlb hbg
  have hre := hla
  have hbg := hla
  have hlb : (nsV (filL b.ads i)).length = b.ads.length := by rw [nsV_length, filL_length]
  rcases Nat.lt_or_ge i b.ads.length with hi | hi
  · have hga := adsV_get hi
    have hsu := filL_succ hi
    have hre := nsV_get (l := filL b.ads i) (i := i) (by rw [filL_length]; exact hi)
    generalize filL b.ads i = fl at *
    generalize b.ads.getD i adz = y at *
    obtain ⟨yn, ye, yl, ym, yp, ya⟩ := y
    unfold adV at hga
    dsimp only at hsu
    (have FX := And.intro hla (And.intro hga (And.intro hre (And.intro hlb hbg))); repeat' (first | (refine sx ?_ ?_ <;> intro h <;> first | (exfalso; omega) | skip) | (refine g_op ?_; refine g_call ?_; refine g_args ?_; (first | refine s_fn (hbr _ _ ?_) ?_ | refine s_fn (hps _ _ ?_) ?_ | refine s_fn (hsz _ _ ?_) ?_ | refine s_fn (hsb _) ?_ | refine s_fn (hci _ _ ?_) ?_ | refine s_fnW (hnw) ?_) <;> try first | omega | assumption) | refine ny ?_ | refine WA_block ?_))
    all_goals (try (exfalso; omega))
    all_goals (refine nextP_ hK (i + 1) hi (by omega) (hm := by rw [hsu, nsV_set]; rfl))
  · obtain rfl : i = b.ads.length := by omega
    have hga := hla
    clear hK
    rw [filL_all] at *
    (have FX := And.intro hla (And.intro hga (And.intro hre (And.intro hlb hbg))); repeat' (first | (refine sx ?_ ?_ <;> intro h <;> first | (exfalso; omega) | skip) | (refine g_op ?_; refine g_call ?_; refine g_args ?_; (first | refine s_fn (hbr _ _ ?_) ?_ | refine s_fn (hps _ _ ?_) ?_ | refine s_fn (hsz _ _ ?_) ?_ | refine s_fn (hsb _) ?_ | refine s_fn (hci _ _ ?_) ?_ | refine s_fnW (hnw) ?_) <;> try first | omega | assumption) | refine ny ?_ | refine WA_block ?_))
    all_goals (try (exfalso; omega))
    refine WA_whileP (σ := Nat × List Int × Bst × Bool) (M := lend m) [1, 5, 7, 8, 9, 10] (fun s => [.ptr (lend m).length 0 0, .sl ((lend m).length + 1) b.ads.length, bsV s.2.2.1, .int .i64 s.2.2.1.p, .bool s.2.2.1.f, .bool s.2.2.2]) (fun s => [.cells .own 25 2 [[.lst (mssV b.ms), .lst (adsV b.ads)]], .cells .own 3 1 (nsV s.2.1)]) 2 (fun s => FwI b s.1 s.2.1 s.2.2.1 s.2.2.2) (fun s => if s.2.2.2 = true then s.1 + 1 else 0) (rkK b.ads (lstL b.ads) b.ads.length + 1, lstL b.ads, ⟨false, [], 0, 0⟩, true) ⟨(fun h => by cases h), (lstL_ok hw).1, (fun _ => ⟨lstL_ok hw, Nat.lt_succ_self _, rfl⟩), (fun h => by cases h), fun _ => rfl⟩ tv_ rfl (fun _ => rfl) (by rintro ⟨n, l, ⟨f, bl, p, q⟩, mo⟩ ⟨n2, l2, ⟨f2, bl2, p2, q2⟩, mo2⟩ _ _; cases f <;> cases f2 <;> simp [conB, conS, bsV, V.keeps, V.plain, Blk.flat, flatL, plainL, V.flat, nsV_plain]) (fun _ _ _ _ => ⟨.inr rfl, .inl (cI_flat _), trivial⟩) ?_
    rintro ⟨n, l, s, mo⟩ hI K hK
    dsimp only at hI
    simp only [zipT]
    clear FX hga hre hlb hbg
    have hga := hla
    have hre := hla
    have hbg := hla
    have hlb := hla
    cases mo with
    | false =>
      have he := hI.no rfl
      rw [← he] at hQ
      obtain ⟨f, bl, p, q⟩ := s
      cases f with
      | false =>
        simp only [bsV, Bool.false_eq_true, if_false]
        (have FX := And.intro hla (And.intro hga (And.intro hre (And.intro hlb hbg))); repeat' (first | (refine sx ?_ ?_ <;> intro h <;> first | (exfalso; omega) | skip) | (refine g_op ?_; refine g_call ?_; refine g_args ?_; (first | refine s_fn (hbr _ _ ?_) ?_ | refine s_fn (hps _ _ ?_) ?_ | refine s_fn (hsz _ _ ?_) ?_ | refine s_fn (hsb _) ?_ | refine s_fn (hci _ _ ?_) ?_ | refine s_fnW (hnw) ?_) <;> try first | omega | assumption) | refine ny ?_ | refine WA_block ?_))
        all_goals (try (exfalso; omega))
        have hbn : bl = [] := hI.nl rfl
        subst hbn
        refine r_esA hQ (.inl ⟨rfl, rfl, ?_⟩)
        exact wk_tup ⟨wk_nil, WkV.refl _, WkV.refl _, trivial⟩
      | true =>
        simp only [bsV, if_true]
        (have FX := And.intro hla (And.intro hga (And.intro hre (And.intro hlb hbg))); repeat' (first | (refine sx ?_ ?_ <;> intro h <;> first | (exfalso; omega) | skip) | (refine g_op ?_; refine g_call ?_; refine g_args ?_; (first | refine s_fn (hbr _ _ ?_) ?_ | refine s_fn (hps _ _ ?_) ?_ | refine s_fn (hsz _ _ ?_) ?_ | refine s_fn (hsb _) ?_ | refine s_fn (hci _ _ ?_) ?_ | refine s_fnW (hnw) ?_) <;> try first | omega | assumption) | refine ny ?_ | refine WA_block ?_))
        all_goals (try (exfalso; omega))
        refine r_esA hQ (fin_lib (nsV_plain _) ⟨rfl, WkV.refl _⟩)
    | true =>
      obtain ⟨hst, _, _⟩ := hI.go rfl
      obtain ⟨n', rfl, hI2⟩ := fwI_step hw hI
      have hsx := steps_bd hbd hst.2
      have hbr := fun (m : Mem) (k : Nat) (h : ∃ st, m[k]? = some (.cells st 3 1 (nsV l))) => h.elim fun st h => rbroken_s b hbd hef l hst.1 hsx b.ads.length hst.1.symm m k h
      have hps := fun (m : Mem) (k : Nat) (h : ∃ st, m[k]? = some (.cells st 3 1 (nsV l))) => h.elim fun st h => rpasses_s b hbd l hst.1 hsx m k h b.ads.length hst.1.symm
      have hsz := fun (m : Mem) (k : Nat) (h : ∃ st, m[k]? = some (.cells st 3 1 (nsV l))) => h.elim fun st h => rsizes_s l (by have := hst.1; omega) (fun k hk3 => hsx k (by have := hst.1; omega)) m k h b.ads.length hst.1.symm
      have hci := fun (m : Mem) (k : Nat) (h : ∃ st, m[k]? = some (.cells st 3 1 (nsV l))) => h.elim fun st h => bcopyints_s l (by have := hst.1; omega) m k h b.ads.length hst.1.symm
      rw [hst.1] at hsz
      have hnw := rnext_w b hbd l hst ((lend m).length + 1)
      have hlb := nuV_length (l := brkP b l b.ms.length)
      have hu1 : brkP b l b.ms.length ≠ [] → updB b l s = s := fun h => by unfold updB; rw [if_pos (.inr h)]
      have hu2 : s.f = true → ¬ (pasK b.ads l b.ads.length < s.p ∨ pasK b.ads l b.ads.length = s.p ∧ sumA l b.ads.length < s.q) → updB b l s = s := fun h h2 => by unfold updB; rw [if_pos (.inl ⟨h, or_lt.2 h2⟩)]
      have hu3 : brkP b l b.ms.length = [] → (s.f = false ∨ (pasK b.ads l b.ads.length < s.p ∨ pasK b.ads l b.ads.length = s.p ∧ sumA l b.ads.length < s.q)) → updB b l s = ⟨true, l, pasK b.ads l b.ads.length, sumA l b.ads.length⟩ := fun h h2 => by
        unfold updB
        rw [if_neg]
        rintro (⟨g1, g2⟩ | g)
        · rcases h2 with h2 | h2
          · rw [g1] at h2; cases h2
          · exact or_lt.1 g2 h2
        · exact g h
      have hBn : brkP b l b.ms.length ≠ [] ↔ 0 < (brkP b l b.ms.length).length := by cases brkP b l b.ms.length <;> simp
      have hBz : brkP b l b.ms.length = [] ↔ ¬ 0 < (brkP b l b.ms.length).length := by cases brkP b l b.ms.length <;> simp
      have hbo := hI.ok
      rw [hBn] at hu1
      rw [hBz] at hu3
      clear hBn hBz hI
      generalize brkP b l b.ms.length = BP at *
      generalize hPK : pasK b.ads l b.ads.length = PK at *
      generalize hSA : sumA l b.ads.length = SA at *
      generalize nxL b.ads l = nl at *
      generalize (nxA b.ads l).isSome = nb at *
      obtain ⟨f, bl, p, q⟩ := s
      cases f with
      | false =>
        have hsb := hla
        dsimp only at hu2
        clear hu2
        simp only [bsV, Bool.false_eq_true, if_false]
        (have FX := And.intro hla (And.intro hga (And.intro hre (And.intro hlb hbg))); repeat' (first | (refine sx ?_ ?_ <;> intro h <;> first | (exfalso; omega) | skip) | (refine g_op ?_; refine g_call ?_; refine g_args ?_; (first | refine s_fn (hbr _ _ ?_) ?_ | refine s_fn (hps _ _ ?_) ?_ | refine s_fn (hsz _ _ ?_) ?_ | refine s_fn (hsb _) ?_ | refine s_fn (hci _ _ ?_) ?_ | refine s_fnW (hnw) ?_) <;> try first | omega | assumption) | refine ny ?_ | refine WA_block ?_))
        all_goals (try (exfalso; first | omega | contradiction))
        all_goals try (exact ⟨_, ev_⟩)
        all_goals first
          | (rw [hu1 (by omega)] at hI2
             refine nextP_ hK (n', nl, ⟨false, bl, p, q⟩, nb) hI2 (by dsimp only; split <;> simp)
             done)
          | (rw [hu3 (by omega) (.inl rfl)] at hI2
             refine nextP_ hK (n', nl, ⟨true, l, PK, SA⟩, nb) hI2 (by dsimp only; split <;> simp)
             done)
      | true =>
        obtain ⟨g1, g2, g3, g4⟩ := hbo rfl
        dsimp only at g1 g2 g3 g4
        have hsb := fun m => rsizes_c bl (by have := g1.1; omega) (fun k hk3 => steps_bd hbd g1.2 k (by have := g1.1; omega)) m
        rw [g1.1, ← g4] at hsb
        dsimp only at hsb hu2 hu3 hu1
        simp only [bsV, if_true]
        (have FX := And.intro hla (And.intro hga (And.intro hre (And.intro hlb hbg))); repeat' (first | (refine sx ?_ ?_ <;> intro h <;> first | (exfalso; omega) | skip) | (refine g_op ?_; refine g_call ?_; refine g_args ?_; (first | refine s_fn (hbr _ _ ?_) ?_ | refine s_fn (hps _ _ ?_) ?_ | refine s_fn (hsz _ _ ?_) ?_ | refine s_fn (hsb _) ?_ | refine s_fn (hci _ _ ?_) ?_ | refine s_fnW (hnw) ?_) <;> try first | omega | assumption) | refine ny ?_ | refine WA_block ?_))
        all_goals (try (exfalso; first | omega | contradiction))
        all_goals try (exact ⟨_, ev_⟩)
        all_goals first
          | (rw [hu1 (by omega)] at hI2
             refine nextP_ hK (n', nl, ⟨true, bl, p, q⟩, nb) hI2 (by dsimp only; split <;> simp)
             done)
          | (rw [hu2 rfl (by omega)] at hI2
             refine nextP_ hK (n', nl, ⟨true, bl, p, q⟩, nb) hI2 (by dsimp only; split <;> simp)
             done)
          | (rw [hu3 (by omega) (.inr (by omega))] at hI2
             refine nextP_ hK (n', nl, ⟨true, l, PK, SA⟩, nb) hI2 (by dsimp only; split <;> simp)
             done)
end Go.Proofs.Ytaoakololkcepaa
