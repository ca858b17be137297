import Derived.Test.YteogokmbedmkjaaF16
import Derived.LoopN
import Derived.Scope
/- code: the rules; a function's contract out of its code -/
namespace Go.Proofs.Yteogokmbedmkjaa
open Go.RowKit

def Post (w : World) (ρ : List Re) (m : Mem) (N : Nat) (Q : Exit → List (Nat × V) → Mem → Prop) : Exit → Act → World → Prop :=
  fun e a' w' => ∃ t' m' ρ', Q e t' m' ∧ Rel N w' ρ' m' t' a' ∧ After w ρ m w' ρ' m'

def WA (P : Program) (N : Nat) (c : Code) (t : List (Nat × V)) (m : Mem) (Q : Exit → List (Nat × V) → Mem → Prop) : Prop :=
  ∀ (w : World) (ρ : List Re) (a : Act), Rel N w ρ m t a → c.wp P (Post w ρ m N Q) a w

def qThen (K : List (Nat × V) → Mem → Prop) (Q : Exit → List (Nat × V) → Mem → Prop) : Exit → List (Nat × V) → Mem → Prop
  | .normal, t, m => K t m
  | e, t, m => Q e t m
def qBlock (id : Nat) (Q : Exit → List (Nat × V) → Mem → Prop) : Exit → List (Nat × V) → Mem → Prop
  | .exit id', t, m => if id' = id then Q .normal t m else Q (.exit id') t m
  | e, t, m => Q e t m

section
variable {P : Program} {N : Nat} {t : List (Nat × V)} {m : Mem} {Q : Exit → List (Nat × V) → Mem → Prop}

theorem Post.trans {w w1 : World} {ρ ρ1 : List Re} {m1 : Mem} (af : After w ρ m w1 ρ1 m1) {e : Exit} {a : Act} {w' : World} (h : Post w1 ρ1 m1 N Q e a w') : Post w ρ m N Q e a w' := by
  obtain ⟨t', m', ρ', h1, h2, h3⟩ := h
  exact ⟨t', m', ρ', h1, h2, af.trans h3⟩

theorem WA_mono {c : Code} {Q' : Exit → List (Nat × V) → Mem → Prop} (h : WA P N c t m Q) (hq : ∀ e t m, Q e t m → Q' e t m) : WA P N c t m Q' :=
  fun w ρ a hR => wp_mono (h w ρ a hR) fun _ _ _ ⟨t', m', ρ', h1, h2, h3⟩ => ⟨t', m', ρ', hq _ _ _ h1, h2, h3⟩

theorem WA_seq_k {x y : Code} (h : ∀ K : List (Nat × V) → Mem → Prop, (∀ t' m', WA P N y t' m' Q → K t' m') → WA P N x t m (qThen K Q)) : WA P N (.seq x y) t m Q := by
  intro w ρ a hR
  refine wp_seq (wp_mono (h _ (fun _ _ h => h) w ρ a hR) ?_)
  rintro e a1 w1 ⟨t', m', ρ', h1, h2, h3⟩
  cases e with
  | normal => exact wp_mono (h1 w1 ρ' a1 h2) fun _ _ _ h => h.trans h3
  | _ => exact ⟨t', m', ρ', h1, h2, h3⟩

theorem WA_skip (h : Q .normal t m) : WA P N .skip t m Q := fun _ ρ _ hR => wp_skip ⟨t, m, ρ, h, hR, After.refl hR.mem⟩
theorem WA_ret (h : Q .ret t m) : WA P N .ret t m Q := fun _ ρ _ hR => wp_ret ⟨t, m, ρ, h, hR, After.refl hR.mem⟩
theorem WA_exit {id : Nat} (h : Q (.exit id) t m) : WA P N (.exit id) t m Q := fun _ ρ _ hR => wp_exit ⟨t, m, ρ, h, hR, After.refl hR.mem⟩

theorem WA_cond {c : Operand} {x y : Code} {b : Bool} (hc : evO t c = .bool b) (h1 : b = true → WA P N x t m Q) (h2 : b = false → WA P N y t m Q) : WA P N (.cond c x y) t m Q := by
  intro w ρ a hR
  have hr := evO_rel hR.tm c
  rw [hc] at hr
  have he : a.eval c = .bool b := by
    generalize a.eval c = x at hr
    cases hr; rfl
  exact wp_cond_split he (fun e => h1 e w ρ a hR) (fun e => h2 e w ρ a hR)

theorem WA_block {id : Nat} {c : Code} (h : WA P N c t m (qBlock id Q)) : WA P N (.block id c) t m Q := by
  intro w ρ a hR
  refine wp_block (wp_mono (h w ρ a hR) ?_)
  rintro e a1 w1 ⟨t', m', ρ', h1, h2, h3⟩
  cases e with
  | exit id' =>
    simp only [qBlock] at h1
    simp only [Exit.inBlock]
    split at h1
    · rename_i e; rw [if_pos e]; exact ⟨t', m', ρ', h1, h2, h3⟩
    · rename_i e; rw [if_neg e]; exact ⟨t', m', ρ', h1, h2, h3⟩
  | _ => exact ⟨t', m', ρ', h1, h2, h3⟩

theorem rounds_le {c : Code} {Q : Exit → Act → World → Prop} : ∀ {k k' : Nat} {a : Act} {w : World}, Code.rounds P c Q k a w → k ≤ k' → Code.rounds P c Q k' a w
  | 0, _, _, _, h, _ => h.elim
  | k + 1, 0, _, _, _, h => absurd h (by omega)
  | k + 1, k' + 1, a, w, h, hle => by
    refine wp_mono h ?_
    intro e a1 w1 h1
    cases e with
    | normal => exact rounds_le h1 (by omega)
    | _ => exact h1

/-- a loop: an invariant with a measure -/
theorem WA_loop {c : Code} (I : Nat → List (Nat × V) → Mem → Prop) {n : Nat} (h0 : I n t m)
    (hr : ∀ n t m, I n t m → WA P N c t m (qThen (fun t' m' => ∃ k, k < n ∧ I k t' m') Q)) : WA P N (.loop c) t m Q := by
  have key : ∀ (n : Nat) (t : List (Nat × V)) (m : Mem) (w : World) (ρ : List Re) (a : Act) (w0 : World) (ρ0 : List Re) (m0 : Mem), I n t m → Rel N w ρ m t a → After w0 ρ0 m0 w ρ m → Code.rounds P c (Post w0 ρ0 m0 N Q) (n + 1) a w := by
    intro n
    induction n using Nat.strongRecOn with
    | ind n ih =>
      intro t m w ρ a w0 ρ0 m0 hI hR af
      show c.wp P _ a w
      refine wp_mono (hr n t m hI w ρ a hR) ?_
      rintro e a1 w1 ⟨t', m', ρ', h1, h2, h3⟩
      cases e with
      | normal =>
        obtain ⟨k, hk, hI'⟩ := h1
        exact rounds_le (ih k hk t' m' w1 ρ' a1 w0 ρ0 m0 hI' h2 (af.trans h3)) (by omega)
      | _ => exact ⟨t', m', ρ', h1, h2, af.trans h3⟩
  intro w ρ a hR
  exact wp_loop_rounds (n + 1) (key n t m w ρ a w ρ m h0 hR (After.refl hR.mem))

/-- a loop of so many rounds at most -/
def WAn (P : Program) (N : Nat) (c : Code) (Q : Exit → List (Nat × V) → Mem → Prop) : Nat → List (Nat × V) → Mem → Prop
  | 0, _, _ => False
  | n + 1, t, m => WA P N c t m (qThen (WAn P N c Q n) Q)
theorem WA_rounds {c : Code} (n : Nat) (h : WAn P N c Q n t m) : WA P N (.loop c) t m Q := by
  refine WA_loop (fun n t m => WAn P N c Q n t m) h ?_
  intro n t m h
  cases n with
  | zero => exact h.elim
  | succ n =>
    refine WA_mono h ?_
    intro e t m hq
    cases e
    case normal => exact ⟨n, by omega, hq⟩
    all_goals exact hq

theorem WA_region {id : Nat} {l : List Oper} (h : WOs P N l.toArray l t m (fun t m => Q .normal t m)) : WA P N (.region id l.toArray false) t m Q := by
  intro w ρ a hR
  refine wp_region_lit (WOs_sound l hR h ?_)
  intro t' m' a' w' ρ' h1 h2 h3
  exact ⟨t', m', ρ', h1, h2, h3⟩

/-- slots of which nothing more is to be known -/
theorem WA_forget {c : Code} (t' : List (Nat × V)) (ht : ∀ i, tget t' i = tget t i ∨ tget t' i = .any) (h : WA P N c t' m Q) : WA P N c t m Q := by
  intro w ρ a hR
  refine h w ρ a ⟨hR.mem, fun i => ?_, hR.size, hR.defers⟩
  rcases ht i with e | e
  · rw [e]; exact hR.tm i
  · rw [e]; exact .any _

/-! ### what a call hands back -/
mutual
/-- no block of the call's own is named in it -/
def V.plain : V → Bool
  | .agg cs => plainL cs
  | .tup cs => plainL cs
  | .lst es => plainLL es
  | .bp cs _ => plainL cs
  | .ptr _ _ _ => false
  | .sl _ _ => false
  | .mp _ => false
  | .clo _ f c => plainL f && plainL c
  | _ => true
def plainL : List V → Bool
  | [] => true
  | v :: r => v.plain && plainL r
def plainLL : List (List V) → Bool
  | [] => true
  | e :: r => plainL e && plainLL r
end
theorem plainL_mem {l : List V} (h : plainL l = true) : ∀ v ∈ l, v.plain = true := by
  induction l with
  | nil => intro v hv; cases hv
  | cons a l ih =>
    simp only [plainL, Bool.and_eq_true] at h
    intro v hv
    rcases List.mem_cons.1 hv with rfl | hv
    · exact h.1
    · exact ih h.2 v hv
theorem plainLL_mem {l : List (List V)} (h : plainLL l = true) : ∀ e ∈ l, plainL e = true := by
  induction l with
  | nil => intro v hv; cases hv
  | cons a l ih =>
    simp only [plainLL, Bool.and_eq_true] at h
    intro v hv
    rcases List.mem_cons.1 hv with rfl | hv
    · exact h.1
    · exact ih h.2 v hv

/-- such a value reads alike wherever the call's own blocks lie -/
theorem plain_rel {w : World} {ρ ρ' : List Re} {B B' : Nat → Prop} (hB : ∀ k, k < w.heap.size → B' k → B k) {v : V} {x : Value} (h : RelV w ρ B v x) (hp : v.plain = true) : RelV w ρ' B' v x := by
  induction h with
  | any x => exact .any x
  | int k n => exact .int k n
  | bool b => exact .bool b
  | str s b h => exact .str s b h
  | nilptr => exact .nilptr
  | nilsl => exact .nilsl
  | lnil a c hc ha => exact .lnil a c hc ha
  | nilmap => exact .nilmap
  | nilfn => exact .nilfn
  | nilif => exact .nilif
  | agg cs xs hl _ ih =>
    simp only [V.plain] at hp
    exact .agg cs xs hl fun i c x h1 h2 => ih i c x h1 h2 (plainL_mem hp c (List.mem_of_getElem? h1))
  | tup cs xs hl _ ih =>
    simp only [V.plain] at hp
    exact .tup cs xs hl fun i c x h1 h2 => ih i c x h1 h2 (plainL_mem hp c (List.mem_of_getElem? h1))
  | lst es b off c s Y hb hB' hc hm hs' hY _ hO ih =>
    simp only [V.plain] at hp
    exact .lst es b off c s Y hb (fun h => hB' (hB b hb h)) hc hm hs' hY (fun i j e v h1 h2 => ih i j e v h1 h2 (plainL_mem (plainLL_mem hp e (List.mem_of_getElem? h1)) v (List.mem_of_getElem? h2))) hO
  | bp cs o b off Y hb hB' hY _ hO ih =>
    simp only [V.plain] at hp
    exact .bp cs o b off Y hb (fun h => hB' (hB b hb h)) hY (fun j v h1 => ih j v h1 (plainL_mem hp v (List.mem_of_getElem? h1))) hO
  | ptr => simp [V.plain] at hp
  | sl => simp [V.plain] at hp
  | mp => simp [V.plain] at hp
  | clo fn f1 c1 f2 c2 hf hc _ _ ih1 ih2 =>
    simp only [V.plain, Bool.and_eq_true] at hp
    exact .clo fn f1 c1 f2 c2 hf hc (fun i c x h1 h2 => ih1 i c x h1 h2 (plainL_mem hp.1 c (List.mem_of_getElem? h1))) (fun i c x h1 h2 => ih2 i c x h1 h2 (plainL_mem hp.2 c (List.mem_of_getElem? h1)))

def frzs (f : V → Option V) : List V → Option (List V)
  | [] => some []
  | v :: r => match f v, frzs f r with
    | some v', some r' => some (v' :: r')
    | _, _ => none
/-- a value of the call's own memory as the caller reads it: the blocks from L on are written no more -/
def frz (m : Mem) (L : Nat) : Nat → V → Option V
  | 0, v => if v.plain = true then some v else none
  | n + 1, v => match v with
    | .agg cs => (frzs (frz m L n) cs).map .agg
    | .tup cs => (frzs (frz m L n) cs).map .tup
    | .sl b k => if b < L then some (.sl b k) else match m[b]? with
      | some (.cells _ _ _ es) => if k ≤ es.length ∧ plainLL (es.take k) = true then some (.lst (es.take k)) else none
      | _ => none
    | .ptr b i o => if b < L then some (.ptr b i o) else match m[b]? with
      | some (.cells _ _ _ es) => match es[i]? with
        | some e => (frzs (frz m L n) e).map (fun e' => .bp e' o)
        | none => none
      | _ => none
    | v => if v.plain = true then some v else none

theorem frzs_get {f : V → Option V} : ∀ {l l' : List V}, frzs f l = some l' → l'.length = l.length ∧ ∀ (j : Nat) v', l'[j]? = some v' → ∃ v, l[j]? = some v ∧ f v = some v'
  | [], l', h => by cases h; exact ⟨rfl, fun j v' h => by simp at h⟩
  | v :: r, l', h => by
    simp only [frzs] at h
    split at h
    · rename_i v' r' h1 h2
      cases h
      obtain ⟨g1, g2⟩ := frzs_get h2
      refine ⟨by simp [g1], fun j u hu => ?_⟩
      rcases j with _ | j
      · simp at hu; subst hu; exact ⟨v, rfl, h1⟩
      · simp at hu; obtain ⟨u0, q1, q2⟩ := g2 j u hu; exact ⟨u0, by simpa using q1, q2⟩
    · cases h

theorem frz_one {m : Mem} {L n : Nat} {v v' : V} (h : frz m L n v = some v') (ho : v.one = true) : v'.one = true := by
  cases n with
  | zero => simp only [frz] at h; split at h <;> cases h; exact ho
  | succ n =>
    cases v <;> simp only [frz] at h <;> try (split at h <;> cases h; exact ho)
    case agg => simp [V.one] at ho
    case tup => simp [V.one] at ho
    case sl b k =>
      split at h
      · cases h; rfl
      · split at h
        · split at h <;> cases h; rfl
        · cases h
    case ptr b i o =>
      split at h
      · cases h; rfl
      · split at h
        · split at h
          · simp only [Option.map_eq_some_iff] at h; obtain ⟨e', _, rfl⟩ := h; rfl
          · cases h
        · cases h

theorem take_get {α : Type} {l : List α} {L b : Nat} {x : α} (h : l[b]? = some x) (hb : b < L) : (l.take L)[b]? = some x := by rw [List.getElem?_take_of_lt hb]; exact h
theorem get_take {α : Type} {l : List α} {L b : Nat} {x : α} (h : (l.take L)[b]? = some x) : b < L ∧ l[b]? = some x := by
  have hb : b < L := by
    rcases Nat.lt_or_ge b L with q | q
    · exact q
    · simp [List.getElem?_take] at h; omega
  rw [List.getElem?_take_of_lt hb] at h
  exact ⟨hb, h⟩
theorem has_take {p : Blk → Bool} {m : Mem} {ρ : List Re} {L k : Nat} (h : has p (m.take L) (ρ.take L) k) : has p m ρ k := by
  obtain ⟨b, blk, r, h1, h2, h3, h4⟩ := h
  exact ⟨b, blk, r, (get_take h1).2, h2, (get_take h3).2, h4⟩

theorem frz_sound {w : World} {ρ : List Re} {m : Mem} (hM : RelM w ρ m) (L : Nat) : ∀ (n : Nat) {v v' : V} {x : Value}, RelV w ρ (bad m ρ) v x → frz m L n v = some v' → RelV w (ρ.take L) (bad (m.take L) (ρ.take L)) v' x
  | 0, v, v', x, hr, h => by
    simp only [frz] at h
    split at h
    · rename_i hp; cases h; exact plain_rel (fun k _ hk => has_take hk) hr hp
    · cases h
  | n + 1, v, v', x, hr, h => by
    have ih := fun {v v' x} => frz_sound hM L n (v := v) (v' := v') (x := x)
    have pl : ∀ {v : V}, RelV w ρ (bad m ρ) v x → v.plain = true → RelV w (ρ.take L) (bad (m.take L) (ρ.take L)) v x := fun hr hp => plain_rel (fun k _ hk => has_take hk) hr hp
    have notbad : ∀ {b : Nat} {st : Sta} {ty sz : Nat} {es : List (List V)} {r : Re}, m[b]? = some (.cells st ty sz es) → ρ[b]? = some r → ¬ b < L → ¬ bad (m.take L) (ρ.take L) r.blk := by
      rintro b st ty sz es r h1 h2 h3 ⟨c, blk, r', q1, q2, q3, q4⟩
      have := hM.inj b c _ blk r r' h1 (by simp) (get_take q1).2 q2 h2 (get_take q3).2 q4.symm
      have := (get_take q1).1
      omega
    cases hr with
    | agg cs xs hl hh =>
      simp only [frz, Option.map_eq_some_iff] at h
      obtain ⟨cs', h1, rfl⟩ := h
      obtain ⟨g1, g2⟩ := frzs_get h1
      refine .agg cs' xs (g1.trans hl) fun i c y q1 q2 => ?_
      obtain ⟨c0, q3, q4⟩ := g2 i c q1
      exact ih (hh i c0 y q3 q2) q4
    | tup cs xs hl hh =>
      simp only [frz, Option.map_eq_some_iff] at h
      obtain ⟨cs', h1, rfl⟩ := h
      obtain ⟨g1, g2⟩ := frzs_get h1
      refine .tup cs' xs (g1.trans hl) fun i c y q1 q2 => ?_
      obtain ⟨c0, q3, q4⟩ := g2 i c q1
      exact ih (hh i c0 y q3 q2) q4
    | sl b k r hr0 hn hm =>
      simp only [frz] at h
      split at h
      · rename_i hlt; cases h
        exact .sl b k r (take_get hr0 hlt) hn hm
      · rename_i hlt
        split at h
        · rename_i st ty sz es hb
          split at h
          · rename_i hc
            cases h
            obtain ⟨r0, cur, k1, k2, k3, k4, k5, k6, k7, k8, k9⟩ := hM.cells b st ty sz es hb
            rw [hr0] at k1
            cases k1
            have hlen : (es.take k).length = k := by simp; omega
            have key : RelV w (ρ.take L) (bad (m.take L) (ρ.take L)) (.lst (es.take k)) (.slice (some ⟨r.blk, 0, none⟩) (es.take k).length r.cap) := by
              refine .lst _ r.blk 0 r.cap sz (fun i j => (cur[i * sz + j]?).getD undef) (heap_lt k4) (notbad hb hr0 hlt) (by omega) hm (fun e he => k8 e (List.mem_of_mem_take he)) ?_ ?_ ?_
              · intro i j e u a1 a2
                obtain ⟨b1, y, b2, b3⟩ := k9 i j e u (get_take a1).2 a2
                rw [b2]
                simp [World.cell?, k4, b2]
              · intro i j e u a1 a2
                obtain ⟨b1, y, b2, b3⟩ := k9 i j e u (get_take a1).2 a2
                rw [b2]
                exact plain_rel (fun k _ hk => has_take hk) b3 (plainL_mem (plainLL_mem hc.2 e (List.mem_of_getElem? a1)) u (List.mem_of_getElem? a2))
              · intro i j e u a1 a2
                exact (k9 i j e u (get_take a1).2 a2).1
            rw [hlen] at key
            exact key
          · cases h
        · cases h
    | ptr b i o r hr0 =>
      simp only [frz] at h
      split at h
      · rename_i hlt; cases h
        exact .ptr b i o r (take_get hr0 hlt)
      · rename_i hlt
        split at h
        · rename_i st ty sz es hb
          split at h
          · rename_i e hes
            simp only [Option.map_eq_some_iff] at h
            obtain ⟨e', h1, rfl⟩ := h
            obtain ⟨g1, g2⟩ := frzs_get h1
            obtain ⟨r0, cur, k1, k2, k3, k4, k5, k6, k7, k8, k9⟩ := hM.cells b st ty sz es hb
            rw [hr0] at k1
            cases k1
            refine .bp e' o r.blk (i * r.sz) (fun j => (cur[i * sz + j]?).getD undef) (heap_lt k4) (notbad hb hr0 hlt) ?_ ?_ ?_
            · intro j v' q1
              obtain ⟨v0, q2, q3⟩ := g2 j v' q1
              obtain ⟨b1, y, b2, b3⟩ := k9 i j e v0 hes q2
              rw [b2, k2]
              simp [World.cell?, k4, b2]
            · intro j v' q1
              obtain ⟨v0, q2, q3⟩ := g2 j v' q1
              obtain ⟨b1, y, b2, b3⟩ := k9 i j e v0 hes q2
              rw [b2]
              exact ih b3 q3
            · intro j v' q1
              obtain ⟨v0, q2, q3⟩ := g2 j v' q1
              exact frz_one q3 (k9 i j e v0 hes q2).1
          · cases h
        · cases h
    | any x => cases h; exact .any x
    | int k q => cases h; exact .int k q
    | bool q => cases h; exact .bool q
    | str s q hq => cases h; exact .str s q hq
    | nilptr => cases h; exact .nilptr
    | nilsl => cases h; exact .nilsl
    | lnil a c hc ha => cases h; exact .lnil a c hc ha
    | nilmap => cases h; exact .nilmap
    | nilfn => cases h; exact .nilfn
    | nilif => cases h; exact .nilif
    | lst es b off c s Y q1 q2 q3 q4 q5 q6 q7 q8 =>
      simp only [frz] at h
      split at h
      · rename_i hp; cases h; exact pl (.lst es b off c s Y q1 q2 q3 q4 q5 q6 q7 q8) hp
      · cases h
    | bp cs o b off Y q1 q2 q3 q4 q5 =>
      simp only [frz] at h
      split at h
      · rename_i hp; cases h; exact pl (.bp cs o b off Y q1 q2 q3 q4 q5) hp
      · cases h
    | mp b r hr0 => simp [frz, V.plain] at h
    | clo fn f1 c1 f2 c2 q1 q2 q3 q4 =>
      simp only [frz] at h
      split at h
      · rename_i hp; cases h; exact pl (.clo fn f1 c1 f2 c2 q1 q2 q3 q4) hp
      · cases h
end
end Go.Proofs.Yteogokmbedmkjaa
