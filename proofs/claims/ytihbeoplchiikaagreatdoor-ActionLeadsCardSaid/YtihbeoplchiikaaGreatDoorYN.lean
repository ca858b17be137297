import Derived.Test.YtihbeoplchiikaaGreatDoorYC
import Derived.RangeFuncIn
import Derived.MapKept
set_option linter.unusedSimpArgs false
set_option linter.unusedVariables false
/- a group of a drawn region whose steps look at one another: the walk of each of its orders -/
namespace Go.Proofs.YtihbeoplchiikaaGreatDoor
open Go.RowKit
section
variable {P : Program} {N : Nat} {ops : Array Oper} {kd : Nat → Kd} {LL : Lim} {is : List El} {t : List (Nat × V)} {m : Mem} {Q K : List (Nat × V) → Mem → Prop}
theorem d_alt {cs ns : List Nat} {f : Nat} (h : WDg P N ops kd LL (fun t m => WDs P N ops kd LL is t m Q) f cs ns t m) (hf : cs.length + ns.length = f := by first | exact rfl | fail) : WDs P N ops kd LL (.grp false cs ns :: is) t m Q := by
  subst hf
  unfold WDs
  exact h
theorem wg_0 (h : K t m) : WDg P N ops kd LL K 0 [] [] t m := ⟨rfl, rfl, h⟩
/-- one of a group's steps, and what follows -/
def WGo (P : Program) (N : Nat) (ops : Array Oper) (kd : Nat → Kd) (LL : Lim) (i : Nat) (t : List (Nat × V)) (m : Mem) (R : List (Nat × V) → Mem → Prop) : Prop := ∃ o, ops[i]? = some o ∧ WDop P N LL (kd i) t m o.op o.dst R
/-- each of the makers that are left -/
def WGm (P : Program) (N : Nat) (ops : Array Oper) (kd : Nat → Kd) (LL : Lim) (K : List (Nat × V) → Mem → Prop) (f : Nat) (cs ns l : List Nat) (t : List (Nat × V)) (m : Mem) : Prop := ∀ n ∈ l, WGo P N ops kd LL n t m fun t m => WDg P N ops kd LL K f cs (ns.erase n) t m
theorem wg_b {c f : Nat} {cs ns : List Nat} (h : WGm P N ops kd LL K f (c :: cs) ns ns t m) (hb : ns.any (fun n => reach ops ops.size c n) = true := by first | exact rfl | fail) : WDg P N ops kd LL K (f + 1) (c :: cs) ns t m := by
  refine ⟨fun c' cs' e hr => ?_, h⟩
  cases e
  obtain ⟨n, hn, hx⟩ := List.any_eq_true.1 hb
  rw [hr n hn] at hx
  cases hx
theorem wg_c {c f : Nat} {cs ns : List Nat} (h1 : WGo P N ops kd LL c t m fun t m => WDg P N ops kd LL K f cs ns t m) (h : WGm P N ops kd LL K f (c :: cs) ns ns t m) : WDg P N ops kd LL K (f + 1) (c :: cs) ns t m := by
  refine ⟨fun c' cs' e _ => ?_, h⟩
  cases e
  exact h1
theorem wg_n {f : Nat} {ns : List Nat} (h : WGm P N ops kd LL K f [] ns ns t m) : WDg P N ops kd LL K (f + 1) [] ns t m := ⟨fun c' cs' e _ => (by cases e), h⟩
theorem wm_nil {f : Nat} {cs ns : List Nat} : WGm P N ops kd LL K f cs ns [] t m := fun n hn => by cases hn
theorem wm_cons {f n : Nat} {cs ns ns' l : List Nat} (h1 : WGo P N ops kd LL n t m fun t m => WDg P N ops kd LL K f cs ns' t m) (h : WGm P N ops kd LL K f cs ns l t m) (he : ns.erase n = ns' := by first | exact rfl | fail) : WGm P N ops kd LL K f cs ns (n :: l) t m := by
  subst he
  intro k hk
  rcases List.mem_cons.1 hk with rfl | hk
  · exact h1
  · exact h k hk
theorem wg_op {R : List (Nat × V) → Mem → Prop} {i d : Nat} {op : Op} {ty : TypeId} {pos : String} {af : Array Edge} {g : Option (Nat × Bool)} {p : Prop} {v : V} {m' : Mem} (h : R ((d, v) :: t) m') (hi : ops[i]? = some ⟨some d, op, ty, pos, af, g⟩ := by first | exact rfl | fail) (hd : dOkB N (some d) = true := by first | exact rfl | fail) (hev : evA P t m op = some (p, v, m') := by first | exact ev_ | fail) (hp : p := by first | exact trivial | assumption | omega)
    (hk : kOk P LL (kd i) t op m m' v := by first | (simp [kOk, isPure, isFresh, isRd, isLd, V.det, detL]; done) | (refine Or.inr (Or.inr ⟨_, _, _, _, _, rfl, Or.inr ⟨lk_, Or.inl ?_⟩⟩); simp only [List.length_append, List.length_cons, List.length_nil]; omega) | (exact Or.inr (Or.inr ⟨_, _, _, 0, 0, rfl, Or.inl lk_⟩)) | (refine Or.inr (Or.inr ⟨_, _, _, _, _, rfl, Or.inr ⟨lk_, Or.inr ⟨_, ev_, ?_⟩⟩⟩); rfl)) : WGo P N ops kd LL i t m R := by
  refine ⟨_, hi, dOk_b hd, ?_⟩
  dsimp only
  split
  · rename_i fo args ts
    exfalso
    have : evA P t m (.call ⟨.value fo, args, ts⟩) = none := rfl
    rw [this] at hev
    cases hev
  · rw [hev]
    exact ⟨hp, hk, h⟩
/-- behind a piece of code, slots and blocks as they are told -/
theorem WA_cutT1 {x y : Code} {Q : Exit → List (Nat × V) → Mem → Prop} {σ : Type} {L : Mem} (ks : List Nat) (st : σ → List TV) (E : σ → List TB) (inv : σ → Prop) (hks : ks.Nodup) (hst : ∀ s, inv s → (st s).all (TV.okT (E s).length) = true) (hf : ∀ s, inv s → (E s).all (TB.ok (E s).length) = true)
    (h1 : ∀ K : List (Nat × V) → Mem → Prop, (∀ s' js t' m', RoundEndT L ks (st s') (E s') js t' m' → inv s' → True → K t' m') → WA P N x t m (qThen K Q))
    (h2 : ∀ s, inv s → ∀ B : Mem, (∃ D, B = L ++ D) → WA P N y (zipT ks ((st s).map (TV.inst fun i => B.length + i))) (B ++ (E s).map (TB.inst fun i => B.length + i)) Q) : WA P N (.seq x y) t m Q := by
  refine WA_seq' (WA_mono (h1 (fun t m => ∃ s js, RoundEndT L ks (st s) (E s) js t m ∧ inv s) fun s js t m h hi _ => ⟨s, js, h, hi⟩) fun e t m h => ?_)
  cases e with
  | normal =>
    obtain ⟨s, js, h, hi⟩ := h
    exact WA_ren h hks (hst s hi) (hf s hi) (h2 s hi)
  | _ => exact h
end
end Go.Proofs.YtihbeoplchiikaaGreatDoor
/- range over a function: consumer and iterator over one memory -/
namespace Go.Proofs.YtihbeoplchiikaaGreatDoor
open Go.RowKit

/-! ### a loop's record -/
end Go.Proofs.YtihbeoplchiikaaGreatDoor
/- maps from texts to numbers or truth values, of the call's own -/
namespace Go.Proofs.YtihbeoplchiikaaGreatDoor
open Go.RowKit

section
variable {P : Program} {t : List (Nat × V)} {m : Mem} {K : V → Mem → Prop}
end
section
variable {P : Program} {N : Nat} {t : List (Nat × V)} {m m' : Mem} {Q : List (Nat × V) → Mem → Prop} {ops : Array Oper} {rest : List Oper} {k : Option Nat} {ty : TypeId} {pos : String} {af : Array Edge}
theorem WOs_x {op : Op} (hd : dOk N k) (hc : (∀ f args ts, op ≠ .call ⟨.value f, args, ts⟩)) (he : evA P t m op = none) (hv : cvStr P t op = none) (h : XOp P t m op fun v m' => WOs P N ops rest (tput t k v) m' Q) : WOs P N ops (⟨k, op, ty, pos, af, none⟩ :: rest) t m Q := by
  simp only [WOs, WOp]
  refine ⟨hd, ?_⟩
  split
  · rename_i heq; rw [he] at heq; cases heq
  · rw [hv]; exact h
end
end Go.Proofs.YtihbeoplchiikaaGreatDoor
/- a yield, as a step of a walk -/
namespace Go.Proofs.YtihbeoplchiikaaGreatDoor
open Go.RowKit
section
variable {P : Program} {N : Nat} {ops : Array Oper} {rest : List Oper} {kd : Nat → Kd} {LL : Lim} {is : List El} {t : List (Nat × V)} {m : Mem} {Q : List (Nat × V) → Mem → Prop} {f : Operand} {l : List Operand} {ts : Array TypeId} {ty : TypeId} {pos : String} {af : Array Edge} {vs : List V} {d lp : Nat}
theorem YieldA.mono {m : Mem} {R R' : V → Option Mem → Prop} (h : YieldA P lp vs m R) (hR : ∀ v mo, R v mo → R' v mo) : YieldA P lp vs m R' := by
  intro F hF w ρ xs h1 h2
  obtain ⟨fn, tmps, asg, bd, g1, g2⟩ := h F hF w ρ xs h1 h2
  refine ⟨fn, tmps, asg, bd, g1, g2.mono ?_⟩
  rintro e w' ⟨v, mo, x, k1, k2, k3⟩
  exact ⟨v, mo, x, k1, hR v mo k2, k3⟩
end
section
variable {P : Program} {N : Nat} {t : List (Nat × V)} {m : Mem} {Q : List (Nat × V) → Mem → Prop} {ops : Array Oper} {rest : List Oper} {k : Option Nat} {ty : TypeId} {pos : String} {af : Array Edge}
/-- is an empty list nil: either -/
theorem x_nl0 {T T' : TypeId} {x y : Operand} {K : V → Mem → Prop} (hx : evO t x = .lst []) (hy : evO t y = .nilsl) (hT : ∃ e, P.underlying T = some (.slice e)) (h1 : K (.bool true) m) (h2 : K (.bool false) m) : XOp P t m (.binOp .eql T x y T') K := by
  refine ⟨fun c => by simp, fun w ρ a o ho hM hTm => ?_⟩
  obtain ⟨e, hu⟩ := hT
  have hrx := evO_rel hTm x; rw [hx] at hrx
  have hry := evO_rel hTm y; rw [hy] at hry
  have key : ∃ (r : Bool) (z : Value), (do eqGuard .eql T x y (a.eval x) (a.eval y); binOp .eql T (a.eval x) (a.eval y) : Sem Value).run P w = .ok z w ∧ RelV w ρ (bad m ρ) (.bool r) z := by
    generalize a.eval x = ex at hrx
    generalize a.eval y = ey at hry
    cases hry
    cases hrx with
    | lnil ad c hc ha =>
      cases ad with
      | none =>
        refine ⟨true, eq_fin (op := .eql) rfl ?_ ?_ ?_⟩
        · exact run_equal_of fun d => by simp only [Op.equalIn, Sem.run_bind, run_underlying hu, Result.andThen_ok, Sem.run_pure] <;> rfl
        · simp [eqGuard, go_sem]
        · rintro op (rfl | rfl) <;> simp [binOp]
      | some ad =>
        refine ⟨false, eq_fin (op := .eql) rfl ?_ ?_ ?_⟩
        · exact run_equal_of fun d => by simp only [Op.equalIn, Sem.run_bind, run_underlying hu, Result.andThen_ok, Sem.run_pure] <;> rfl
        · simp [eqGuard, go_sem]
        · rintro op (rfl | rfl) <;> simp [binOp]
    | lst _ b off c s Y =>
      refine ⟨false, eq_fin (op := .eql) rfl ?_ ?_ ?_⟩
      · exact run_equal_of fun d => by simp only [Op.equalIn, Sem.run_bind, run_underlying hu, Result.andThen_ok, Sem.run_pure] <;> rfl
      · simp [eqGuard, go_sem]
      · rintro op (rfl | rfl) <;> simp [binOp]
  obtain ⟨r, z, hr, hv⟩ := key
  refine ⟨.value z, w, .bool r, m, ρ, ?_, by cases r <;> assumption, After.refl hM, .inl ⟨_, rfl, hv⟩⟩
  simp only [execOp, ho]
  exact run_v hr
theorem s_nl0 {T T' : TypeId} {x y : Operand} (h1 : WOs P N ops rest (tput t k (.bool true)) m Q) (h2 : WOs P N ops rest (tput t k (.bool false)) m Q) (hd : dOkB N k = true) (hx : evO t x = .lst []) (hy : evO t y = .nilsl) (hT : ∃ e, P.underlying T = some (.slice e)) : WOs P N ops (⟨k, .binOp .eql T x y T', ty, pos, af, none⟩ :: rest) t m Q := by
  refine WOs_x (dOk_b hd) (by simp) ?_ rfl (x_nl0 hx hy hT h1 h2)
  rw [ev_binOp, hx, hy]
  rfl
theorem s_nl1 {T T' : TypeId} {x y : Operand} {e : List V} {es : List (List V)} (h : WOs P N ops rest (tput t k (.bool false)) m Q) (hd : dOkB N k = true) (hx : evO t x = .lst (e :: es)) (hy : evO t y = .nilsl) (hT : kdT P T = 2) : WOs P N ops (⟨k, .binOp .eql T x y T', ty, pos, af, none⟩ :: rest) t m Q :=
  op_of (dOk_b hd) (p := True) (m' := m) (by rw [ev_binOp, hx, hy]; simp [evB, evEq, eqV, hT]) trivial h
end
end Go.Proofs.YtihbeoplchiikaaGreatDoor
/- a slice of the call's own becomes a plain list, in slots and in memory -/
namespace Go.Proofs.YtihbeoplchiikaaGreatDoor
open Go.RowKit
def frzC (b : Nat) (es : List (List V)) : Blk → Blk
  | .cells st ty sz xs => .cells st ty sz (xs.map (List.map (frzV b es)))
  | x => x
theorem frzC_bad (b : Nat) (es : List (List V)) (x : Blk) : (frzC b es x).bad = x.bad := by cases x with | cells st _ _ _ => cases st <;> rfl | obj st _ _ => rfl | dead => rfl
theorem frzC_own (b : Nat) (es : List (List V)) (x : Blk) : (frzC b es x).own = x.own := by cases x with | cells st _ _ _ => cases st <;> rfl | obj st _ _ => rfl | dead => rfl
theorem frzC_dead {b : Nat} {es : List (List V)} {x : Blk} (h : frzC b es x ≠ .dead) : x ≠ .dead := by rintro rfl; exact h rfl
theorem frzX_get {b : Nat} {es : List (List V)} {B Y : Mem} {c : Nat} {blk : Blk} (h : (B ++ Y.map (frzC b es))[c]? = some blk) : ∃ x, (B ++ Y)[c]? = some x ∧ (blk = x ∨ blk = frzC b es x) := by
  rcases Nat.lt_or_ge c B.length with q | q
  · rw [List.getElem?_append_left q] at h
    exact ⟨blk, by rw [List.getElem?_append_left q]; exact h, .inl rfl⟩
  · rw [List.getElem?_append_right q, List.getElem?_map, Option.map_eq_some_iff] at h
    obtain ⟨x, h1, rfl⟩ := h
    exact ⟨x, by rw [List.getElem?_append_right q]; exact h1, .inr rfl⟩
theorem frzC_has {p : Blk → Bool} {b : Nat} {es : List (List V)} (hp : ∀ x, p (frzC b es x) = p x) {B Y : Mem} {ρ : List Re} {k : Nat} : has p (B ++ Y.map (frzC b es)) ρ k → has p (B ++ Y) ρ k := by
  rintro ⟨c, blk, r, h1, h2, h3, h4⟩
  obtain ⟨x, h1, e⟩ := frzX_get h1
  refine ⟨c, x, r, h1, ?_, h3, h4⟩
  rcases e with rfl | rfl
  · exact h2
  · exact (hp x).symm.trans h2
theorem frzV_one {b : Nat} {es : List (List V)} {v : V} (h : v.one = true) : (frzV b es v).one = true := by
  unfold frzV
  split
  · split
    · rfl
    · exact h
  · exact h
theorem RelM.fzC {w : World} {ρ : List Re} {B X : Mem} (hM : RelM w ρ (B ++ X)) {j : Nat} {st : Sta} {ty sz : Nat} {es : List (List V)} (hX : X[j]? = some (.cells st ty sz es)) : RelM w ρ (B ++ (X.set j (.cells .ro ty sz es)).map (frzC (B.length + j) es)) := by
  have hb : (B ++ X)[B.length + j]? = some (.cells st ty sz es) := by rw [List.getElem?_append_right (Nat.le_add_right _ _), Nat.add_sub_cancel_left]; exact hX
  have hset : (B ++ X).set (B.length + j) (.cells .ro ty sz es) = B ++ X.set j (.cells .ro ty sz es) := by rw [List.set_append_right _ _ (Nat.le_add_right _ _), Nat.add_sub_cancel_left]
  have af := After.of_ro hM hb
  have h1 := af.mem
  have hfr := fun {v : V} {x : Value} (h : RelV w ρ (bad (B ++ X) ρ) v x) => frzV_rel hM hb h
  have hgen := fun {v : V} {x : Value} (h : RelV w ρ (bad (B ++ X) ρ) v x) => af.rel h
  rw [hset] at h1
  simp only [hset] at hfr hgen
  have hjl : j < X.length := (List.getElem?_eq_some_iff.1 hX).1
  have hsub : ∀ k, bad (B ++ (X.set j (.cells .ro ty sz es)).map (frzC (B.length + j) es)) ρ k → bad (B ++ X.set j (.cells .ro ty sz es)) ρ k := fun k => frzC_has (frzC_bad _ es)
  have hrel : ∀ {v : V} {x : Value}, RelV w ρ (bad (B ++ X.set j (.cells .ro ty sz es)) ρ) v x → RelV w ρ (bad (B ++ (X.set j (.cells .ro ty sz es)).map (frzC (B.length + j) es)) ρ) v x := fun hr => hr.mono (Nat.le_refl _) (fun _ _ _ => rfl) (fun k _ h => hsub k h) (fun _ _ h => h)
  have old : ∀ {c : Nat} {st' : Sta} {ty' sz' : Nat} {es0 : List (List V)}, (B ++ X.set j (.cells .ro ty sz es))[c]? = some (.cells st' ty' sz' es0) → ∃ st1, (B ++ X)[c]? = some (.cells st1 ty' sz' es0) := by
    intro c st' ty' sz' es0 hx
    rcases Nat.lt_or_ge c B.length with q | q
    · rw [List.getElem?_append_left q] at hx
      exact ⟨st', by rw [List.getElem?_append_left q]; exact hx⟩
    · rw [List.getElem?_append_right q, List.getElem?_set] at hx
      split at hx
      · rename_i e
        simp only [← e, Option.some.injEq, hjl, if_true] at hx
        cases hx
        exact ⟨st, by rw [List.getElem?_append_right q, ← e]; exact hX⟩
      · exact ⟨st', by rw [List.getElem?_append_right q]; exact hx⟩
  refine ⟨by simpa using h1.len, fun c st' ty' sz' es' hc => ?_, fun c c' blk blk' r r' a1 a2 a3 a4 a5 a6 a7 => ?_, fun c st' vs φ hc => ?_, h1.glob.mono fun v x h => hrel h⟩
  · obtain ⟨x, hx, he⟩ := frzX_get hc
    rcases he with rfl | he
    · obtain ⟨st1, hm⟩ := old hx
      obtain ⟨r, cur, k1, k2, k3, k4, k5, k6, k7, k8, k9⟩ := hM.cells c st1 ty' sz' es' hm
      refine ⟨r, cur, k1, k2, k3, k4, k5, k6, k7, k8, fun i j e v a1 a2 => ?_⟩
      obtain ⟨b1, y, b2, b3⟩ := k9 i j e v a1 a2
      exact ⟨b1, y, b2, hrel (hgen b3)⟩
    · cases x with
      | cells st0 ty0 sz0 es0 =>
        simp only [Go.Proofs.YtihbeoplchiikaaGreatDoor.frzC, Blk.cells.injEq] at he
        obtain ⟨rfl, rfl, rfl, rfl⟩ := he
        obtain ⟨st1, hm⟩ := old hx
        obtain ⟨r, cur, k1, k2, k3, k4, k5, k6, k7, k8, k9⟩ := hM.cells c st1 ty' sz' es0 hm
        refine ⟨r, cur, k1, k2, k3, k4, k5, by simpa using k6, k7, fun e he => ?_, fun i j e v a1 a2 => ?_⟩
        · obtain ⟨e0, h2, rfl⟩ := List.mem_map.1 he
          simpa using k8 e0 h2
        · rw [List.getElem?_map, Option.map_eq_some_iff] at a1
          obtain ⟨e0, a1, rfl⟩ := a1
          rw [List.getElem?_map, Option.map_eq_some_iff] at a2
          obtain ⟨v0, a2, rfl⟩ := a2
          obtain ⟨b1, y, b2, b3⟩ := k9 i j e0 v0 a1 a2
          exact ⟨frzV_one b1, y, b2, hrel (hfr b3)⟩
      | obj _ _ _ => simp [Go.Proofs.YtihbeoplchiikaaGreatDoor.frzC] at he
      | dead => simp [Go.Proofs.YtihbeoplchiikaaGreatDoor.frzC] at he
  · obtain ⟨x, hx, e1⟩ := frzX_get a1
    obtain ⟨x', hx', e2⟩ := frzX_get a3
    refine h1.inj c c' x x' r r' hx ?_ hx' ?_ a5 a6 a7
    · rcases e1 with rfl | rfl
      · exact a2
      · exact frzC_dead a2
    · rcases e2 with rfl | rfl
      · exact a4
      · exact (frzC_bad _ es x').symm.trans a4
  · obtain ⟨x, hx, he⟩ := frzX_get hc
    have hx2 : (B ++ X.set j (.cells .ro ty sz es))[c]? = some (.obj st' vs φ) := by
      rcases he with rfl | he
      · exact hx
      · cases x with
        | cells _ _ _ _ => simp [Go.Proofs.YtihbeoplchiikaaGreatDoor.frzC] at he
        | dead => simp [Go.Proofs.YtihbeoplchiikaaGreatDoor.frzC] at he
        | obj st0 vs0 φ0 => rw [he]; exact hx
    obtain ⟨r, k1, k2⟩ := h1.objs c st' vs φ hx2
    exact ⟨r, k1, k2.mono (fun _ => rfl) fun v x h => hrel h⟩
section
variable {P : Program} {N : Nat} {t : List (Nat × V)} {m : Mem}
theorem WA_fzM {c : Code} {Q : Exit → List (Nat × V) → Mem → Prop} {B X : Mem} {j : Nat} {st : Sta} {ty sz : Nat} {es : List (List V)} (hX : X[j]? = some (.cells st ty sz es)) (h : WA P N c (t.map fun p => (p.1, frzV (B.length + j) es p.2)) (B ++ (X.set j (.cells .ro ty sz es)).map (frzC (B.length + j) es)) Q) : WA P N c t (B ++ X) Q := by
  intro F hF z w ρ a hR
  have hb : (B ++ X)[B.length + j]? = some (.cells st ty sz es) := by rw [List.getElem?_append_right (Nat.le_add_right _ _), Nat.add_sub_cancel_left]; exact hX
  have hset : (B ++ X).set (B.length + j) (.cells .ro ty sz es) = B ++ X.set j (.cells .ro ty sz es) := by rw [List.set_append_right _ _ (Nat.le_add_right _ _), Nat.add_sub_cancel_left]
  have af0 := After.of_ro hR.mem hb
  have hM2 := hR.mem.fzC hX
  have hfr := fun i => frzV_rel hR.mem hb (hR.tm i)
  rw [hset] at af0
  simp only [hset] at hfr
  have hsub : ∀ k, bad (B ++ (X.set j (.cells .ro ty sz es)).map (frzC (B.length + j) es)) ρ k → bad (B ++ X.set j (.cells .ro ty sz es)) ρ k := fun k => frzC_has (frzC_bad _ es)
  have af : After w ρ (B ++ X) w ρ (B ++ (X.set j (.cells .ro ty sz es)).map (frzC (B.length + j) es)) := ⟨af0.keep, af0.pre, hM2, fun k hk ho => af0.own k hk (frzC_has (frzC_own _ es) ho), fun k hk ho => af0.bd k hk (hsub k ho)⟩
  have e : ∀ (t : List (Nat × V)) i, tget (t.map fun p => (p.1, frzV (B.length + j) es p.2)) i = frzV (B.length + j) es (tget t i) := by
    intro t i
    induction t with
    | nil => rfl
    | cons p r ih =>
      simp only [List.map_cons, tget]
      split
      · rfl
      · exact ih
  refine wpIn_mono (h F hF z w ρ a ⟨hM2, fun i => ?_, hR.size, hR.defers.after af⟩) ?_
  · rw [e]; exact (hfr i).mono (Nat.le_refl _) (fun _ _ _ => rfl) (fun k _ h => hsub k h) (fun _ _ h => h)
  · rintro e a1 w1 ⟨t', m', ρ', hq, hR', af'⟩
    exact ⟨t', m', ρ', hq, hR', af.trans af'⟩
end
end Go.Proofs.YtihbeoplchiikaaGreatDoor
