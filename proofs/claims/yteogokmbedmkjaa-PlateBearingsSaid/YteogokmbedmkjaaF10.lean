import Derived.Test.YteogokmbedmkjaaF9
/- slices that grow, and that are made -/
namespace Go.Proofs.Yteogokmbedmkjaa
open Go.RowKit

theorem RelM.fresh {w : World} {ρ : List Re} {m : Mem} (h : RelM w ρ m) (c : Nat) (blk : Blk) (r : Re) (h1 : m[c]? = some blk) (h2 : blk ≠ .dead) (h3 : ρ[c]? = some r) : r.blk ≠ w.heap.size := by
  cases blk with
  | cells wr0 ty0 sz0 es0 =>
    obtain ⟨r', cur', g1, _, _, g4, _⟩ := h.cells c wr0 ty0 sz0 es0 h1
    rw [h3] at g1
    cases g1
    have := heap_lt g4
    omega
  | map kt et es0 => exact (h.maps c kt et es0 h1).elim
  | dead => exact (h2 rfl).elim

/-- the call's memory when one block has been given up or not, and a new one has come, which may lie where the old one lay -/
theorem RelM.move {w w' : World} {ρ : List Re} {m m1 : Mem} (h : RelM w ρ m) (hl : m1.length = m.length) (hm1 : ∀ (c : Nat) (blk : Blk), m1[c]? = some blk → blk ≠ .dead → m[c]? = some blk)
    (g : Nat) (hs : w.heap.size ≤ w'.heap.size) (hk : ∀ k, k < w.heap.size → k ≠ g → (¬ owned m ρ k ∨ ∃ (c : Nat) (blk : Blk) (r : Re), m1[c]? = some blk ∧ blk ≠ .dead ∧ ρ[c]? = some r ∧ r.blk = k) → w'.heap[k]? = w.heap[k]?) (hos : w'.os = w.os) (htp : w'.tape = w.tape) (hou : w'.output = w.output)
    (cap ty sz : Nat) (es : List (List V)) (cur : Array Value) (hg3 : ∀ (c : Nat) (blk : Blk) (r : Re), m1[c]? = some blk → blk ≠ .dead → ρ[c]? = some r → r.blk ≠ g) (hg2 : owned m ρ g ∨ w.heap.size ≤ g) (hsz : 0 < sz) (hh : w'.heap[g]? = some (.cells cur ty (0, 0))) (hc : cur.size = cap * sz)
    (he : es.length ≤ cap) (hcm : cap ≤ maxLen) (hes : ∀ e ∈ es, e.length = sz)
    (hv : ∀ (i j : Nat) e v, es[i]? = some e → e[j]? = some v → v.one = true ∧ ∃ y, cur[i * sz + j]? = some y ∧ RelV w ρ (bad m ρ) v y) :
    After w ρ m w' (ρ ++ [⟨g, cap, sz⟩]) (m1 ++ [.cells .own ty sz es]) ∧
    RelV w' (ρ ++ [⟨g, cap, sz⟩]) (bad (m1 ++ [.cells .own ty sz es]) (ρ ++ [⟨g, cap, sz⟩])) (.sl m.length es.length) (.slice (some ⟨g, 0, none⟩) es.length cap) := by
  have hlen1 : ρ.length = m1.length := h.len.trans hl.symm
  have hoN : ∀ k, k < w.heap.size → owned (m1 ++ [.cells .own ty sz es]) (ρ ++ [⟨g, cap, sz⟩]) k → owned m ρ k := by
    intro k hk' ho
    rcases owned_snoc hlen1 ho with ⟨c, blk, r, a1, a2, a3, a4⟩ | h1
    · exact ⟨c, blk, r, hm1 c blk a1 (Blk.live_of_bad (Blk.bad_of_own a2)), a2, a3, a4⟩
    · simp at h1
      subst h1
      rcases hg2 with h2 | h2
      · exact h2
      · omega
  have hoB : ∀ k, k < w.heap.size → bad (m1 ++ [.cells .own ty sz es]) (ρ ++ [⟨g, cap, sz⟩]) k → bad m ρ k := by
    intro k hk' ho
    rcases owned_snoc hlen1 ho with ⟨c, blk, r, a1, a2, a3, a4⟩ | h1
    · exact ⟨c, blk, r, hm1 c blk a1 (Blk.live_of_bad a2), a2, a3, a4⟩
    · simp at h1
      subst h1
      rcases hg2 with h2 | h2
      · exact bad_of_owned h2
      · omega
  have hkb : ∀ k, k < w.heap.size → ¬ owned m ρ k → w'.heap[k]? = w.heap[k]? := fun k hk' hn => hk k hk' (fun e => by
    subst e
    rcases hg2 with h2 | h2
    · exact hn h2
    · omega) (.inl hn)
  have hOld : ∀ {v : V} {x : Value}, RelV w ρ (bad m ρ) v x → RelV w' (ρ ++ [⟨g, cap, sz⟩]) (bad (m1 ++ [.cells .own ty sz es]) (ρ ++ [⟨g, cap, sz⟩])) v x := fun hr =>
    hr.mono hs (fun k hk' hn => hkb k hk' (fun ho => hn (bad_of_owned ho))) hoB (fun b r hr => prefix_get hr)
  have hglast : (ρ ++ [(⟨g, cap, sz⟩ : Re)])[m.length]? = some ⟨g, cap, sz⟩ := by rw [← h.len]; simp
  refine ⟨⟨⟨hos, htp, hou, hs, hkb⟩, fun b r hr => prefix_get hr, ⟨by simp [hlen1], ?_, ?_, ?_⟩, hoN, hoB⟩, .sl m.length es.length ⟨g, cap, sz⟩ hglast he hcm⟩
  · intro b st' ty' sz' es' hm
    rcases Nat.lt_or_ge b m1.length with hlt | hge
    · rw [List.getElem?_append_left hlt] at hm
      obtain ⟨r, cur', g1, g2, g3, g4, g5, g6, g7, g8, g9⟩ := h.cells b st' ty' sz' es' (hm1 b _ hm (by simp))
      refine ⟨r, cur', prefix_get g1, g2, g3, (hk r.blk (heap_lt g4) (hg3 b _ r hm (by simp) g1) (.inr ⟨b, _, r, hm, by simp, g1, rfl⟩)).trans g4, g5, g6, g7, g8, fun i j e v a1 a2 => ?_⟩
      obtain ⟨b1, y, b2, b3⟩ := g9 i j e v a1 a2
      exact ⟨b1, y, b2, hOld b3⟩
    · rw [List.getElem?_append_right hge] at hm
      rcases hbm : b - m1.length with _ | q
      · rw [hbm] at hm
        simp at hm
        obtain ⟨rfl, rfl, rfl, rfl⟩ := hm
        have hb : b = m.length := by omega
        subst hb
        refine ⟨⟨g, cap, sz⟩, cur, hglast, rfl, hsz, hh, hc, he, hcm, hes, fun i j e v a1 a2 => ?_⟩
        obtain ⟨b1, y, b2, b3⟩ := hv i j e v a1 a2
        exact ⟨b1, y, b2, hOld b3⟩
      · rw [hbm] at hm
        simp at hm
  · intro b b' blk blk' r r' h1 h2 h3 h4 h5 h6 h7
    have key : ∀ (c : Nat) (blk : Blk) (r : Re), (m1 ++ [Blk.cells .own ty sz es])[c]? = some blk → blk ≠ Blk.dead → (ρ ++ [⟨g, cap, sz⟩])[c]? = some r → (c < m.length ∧ m[c]? = some blk ∧ ρ[c]? = some r ∧ m1[c]? = some blk) ∨ (c = m.length ∧ r.blk = g) := by
      intro c blk r k1 k2 k3
      rcases Nat.lt_or_ge c m1.length with hlt' | hge
      · rw [List.getElem?_append_left hlt'] at k1
        rw [List.getElem?_append_left (by rw [hlen1]; exact hlt')] at k3
        exact .inl ⟨by omega, hm1 c blk k1 k2, k3, k1⟩
      · rw [List.getElem?_append_right hge] at k1
        rw [List.getElem?_append_right (by rw [hlen1]; exact hge), hlen1] at k3
        rcases hbm : c - m1.length with _ | q
        · rw [hbm] at k3
          simp at k3
          subst k3
          exact .inr ⟨by omega, rfl⟩
        · rw [hbm] at k1
          simp at k1
    have hd4 : blk' ≠ Blk.dead := Blk.live_of_bad h4
    rcases key b blk r h1 h2 h5 with ⟨a1, a2, a3, a4⟩ | ⟨a1, a2⟩ <;> rcases key b' blk' r' h3 hd4 h6 with ⟨c1, c2, c3, c4⟩ | ⟨c1, c2⟩
    · exact h.inj b b' blk blk' r r' a2 h2 c2 h4 a3 c3 h7
    · exact (hg3 b blk r a4 h2 a3 (h7.trans c2)).elim
    · exact (hg3 b' blk' r' c4 hd4 c3 (h7.symm.trans a2)).elim
    · omega
  · intro b kt et es' hm
    rcases Nat.lt_or_ge b m1.length with hlt | hge
    · rw [List.getElem?_append_left hlt] at hm; exact h.maps b kt et es' (hm1 b _ hm (by simp))
    · rw [List.getElem?_append_right hge] at hm
      rcases hbm : b - m1.length with _ | q <;> rw [hbm] at hm <;> simp at hm

/-- what a slice value's elements read as, in the world -/
theorem els_read {w : World} {ρ : List Re} {m : Mem} (hM : RelM w ρ m) {v : V} {x : Value} {es : List (List V)} (hx : RelV w ρ (bad m ρ) v x) (h : elsV m v = some es) :
    ∃ A c, x = .slice A es.length c ∧ ((A = none ∧ es = [] ∧ c = 0) ∨ ∃ (b off s : Nat) (Y : Nat → Nat → Value), (es = [] ∨ A = some ⟨b, off, none⟩) ∧ A ≠ none ∧ es.length ≤ c ∧ c ≤ maxLen ∧ (∀ e ∈ es, e.length = s) ∧
      (∀ (i j : Nat) e u, es[i]? = some e → e[j]? = some u → w.cell? ⟨b, off + i * s + j, none⟩ = some (Y i j) ∧ RelV w ρ (bad m ρ) u (Y i j) ∧ u.one = true ∧ (Y i j).oneCell' = true)) := by
  cases hx with
  | nilsl =>
    simp only [elsV, Option.some.injEq] at h
    subst h
    exact ⟨none, 0, rfl, .inl ⟨rfl, rfl, rfl⟩⟩
  | lnil a c hc ha =>
    simp only [elsV, Option.some.injEq] at h
    subst h
    cases a with
    | none => exact ⟨none, c, rfl, .inl ⟨rfl, rfl, ha rfl⟩⟩
    | some a => exact ⟨some a, c, rfl, .inr ⟨0, 0, 0, fun _ _ => undef, .inl rfl, by simp, Nat.zero_le _, hc, by simp, fun i j e u h => by simp at h⟩⟩
  | lst es' b off c s Y h1 h2 h3 h4 h5 h6 h7 h8 =>
    simp only [elsV, Option.some.injEq] at h
    subst h
    exact ⟨_, c, rfl, .inr ⟨b, off, s, Y, .inr rfl, by simp, h3, h4, h5, fun i j e u a1 a2 => ⟨h6 i j e u a1 a2, h7 i j e u a1 a2, h8 i j e u a1 a2, ((h7 i j e u a1 a2).one (h8 i j e u a1 a2)).1⟩⟩⟩
  | sl b n r hr hn hm =>
    simp only [elsV] at h
    split at h
    · rename_i wr ty sz es' hb
      split at h
      · rename_i hle
        simp only [Option.some.injEq] at h
        subst h
        obtain ⟨r0, cur, k1, k2, k3, k4, k5, k6, k7, k8, k9⟩ := hM.cells b wr ty sz es' hb
        rw [hr] at k1
        cases k1
        have hl : (es'.take n).length = n := by simp; omega
        refine ⟨some ⟨r.blk, 0, none⟩, r.cap, by rw [hl], .inr ⟨r.blk, 0, sz, fun i j => (cur[i * sz + j]?).getD undef, .inr rfl, by simp, by omega, hm, fun e he => k8 e (List.mem_of_mem_take he), fun i j e u a1 a2 => ?_⟩⟩
        have hi : i < n := by
          rcases Nat.lt_or_ge i n with q | q
          · exact q
          · simp [List.getElem?_take] at a1; omega
        rw [List.getElem?_take_of_lt hi] at a1
        obtain ⟨b1, y, b2, b3⟩ := k9 i j e u a1 a2
        have hy : ((cur[i * sz + j]?).getD undef) = y := by rw [b2]; rfl
        simp only [hy]
        refine ⟨?_, b3, b1, (b3.one b1).1⟩
        simp [World.cell?, k4, b2]
      · cases h
    · cases h
  | _ => simp [elsV] at h

/-- the cells of elements, one behind the other -/
def flatY (n s : Nat) (Y : Nat → Nat → Value) : List Value := (List.range (n * s)).map fun q => Y (q / s) (q % s)
theorem flatY_length (n s : Nat) (Y : Nat → Nat → Value) : (flatY n s Y).length = n * s := by simp [flatY]
theorem flatY_get {n s : Nat} {Y : Nat → Nat → Value} {i j : Nat} (hi : i < n) (hj : j < s) : (flatY n s Y)[i * s + j]? = some (Y i j) := by
  have hlt : i * s + j < n * s := by
    have : (i + 1) * s ≤ n * s := Nat.mul_le_mul_right _ hi
    rw [Nat.succ_mul] at this; omega
  unfold flatY
  rw [List.getElem?_map, List.getElem?_range hlt]
  have h1 : (i * s + j) / s = i := by rw [Nat.mul_comm, Nat.mul_add_div (by omega)]; simp [Nat.div_eq_of_lt hj]
  have h2 : (i * s + j) % s = j := by rw [Nat.mul_comm, Nat.mul_add_mod]; exact Nat.mod_eq_of_lt hj
  simp [h1, h2]
theorem flatY_cells {w : World} {b off n s : Nat} {Y : Nat → Nat → Value} {es : List (List V)} (hn : es.length = n) (hs : ∀ e ∈ es, e.length = s)
    (h : ∀ (i j : Nat) e u, es[i]? = some e → e[j]? = some u → w.cell? ⟨b, off + i * s + j, none⟩ = some (Y i j) ∧ (Y i j).oneCell' = true) :
    (∀ q u, (flatY n s Y)[q]? = some u → w.cell? ((⟨b, off, none⟩ : Addr).add q) = some u) ∧ (∀ u ∈ flatY n s Y, u.oneCell' = true) := by
  have key : ∀ q, q < n * s → w.cell? ⟨b, off + (q / s) * s + q % s, none⟩ = some (Y (q / s) (q % s)) ∧ (Y (q / s) (q % s)).oneCell' = true := by
    intro q hq
    have hs0 : 0 < s := by
      rcases Nat.eq_zero_or_pos s with h | h
      · subst h; simp at hq
      · exact h
    have h1 : q / s < es.length := by rw [hn]; exact Nat.div_lt_of_lt_mul (by rw [Nat.mul_comm]; exact hq)
    have h2 : q % s < s := Nat.mod_lt _ hs0
    have he : (es[q / s]).length = s := hs _ (List.getElem_mem h1)
    exact h (q / s) (q % s) _ _ (List.getElem?_eq_getElem h1) (List.getElem?_eq_getElem (by rw [he]; exact h2))
  constructor
  · intro q u hu
    unfold flatY at hu
    rw [List.getElem?_map] at hu
    rcases Nat.lt_or_ge q (n * s) with hq | hq
    · rw [List.getElem?_range hq] at hu
      simp at hu
      subst hu
      have := (key q hq).1
      rw [addr_add, ← this]
      congr 2
      have := Nat.div_add_mod q s
      rw [Nat.mul_comm] at this
      omega
    · rw [List.getElem?_eq_none (by simpa using hq)] at hu; cases hu
  · intro u hu
    unfold flatY at hu
    obtain ⟨q, hq, rfl⟩ := List.mem_map.1 hu
    exact (key q (List.mem_range.1 hq)).2

/-- append -/
def evAppend (P : Program) (t : List (Nat × V)) (m : Mem) (T : TypeId) (s x : Operand) : Res :=
  match slT P T, elsV m (evO t x) with
  | some E, some news =>
    if smT P E = true ∧ news.all (fun e => e.length == szT P E) = true then
      match evO t s with
      | .nilsl => if news.length = 0 then okR m .nilsl else some (news.length ≤ 1000000, .sl m.length news.length, m ++ [.cells .own E (szT P E) news])
      | .sl b n => match m[b]? with
        | some (.cells .own ty sz es) => if ty = E ∧ sz = szT P E ∧ n ≤ es.length then some (n + news.length ≤ 1000000, .sl m.length (n + news.length), m.set b .dead ++ [.cells .own E sz (es.take n ++ news)]) else none
        | _ => none
      | _ => none
    else none
  | _, _ => none

theorem smT_spec {P : Program} {E : TypeId} (h : smT P E = true) : ∃ i z, P.info? E = some i ∧ i.zero = some z ∧ i.size = szT P E ∧ z.cells.size = i.size ∧ 0 < szT P E ∧ i.bytes ≤ 100000000 ∧ (∀ c ∈ z.cells, c.oneCell' = true) := by
  unfold smT at h
  cases hi : P.info? E with
  | none => rw [hi] at h; cases h
  | some i =>
    rw [hi] at h
    simp only at h
    cases hz : i.zero with
    | none => rw [hz] at h; cases h
    | some z =>
      rw [hz] at h
      simp only [Bool.and_eq_true, decide_eq_true_eq, beq_iff_eq, Array.all_eq_true'] at h
      obtain ⟨⟨⟨h1, h2⟩, h3⟩, h4⟩ := h
      have hs : i.size = szT P E := by unfold szT Program.cellsOf; rw [hi]; rfl
      exact ⟨i, z, rfl, hz, hs, h3, by omega, h1, h4⟩

theorem append_sound {P : Program} {w : World} {ρ : List Re} {m : Mem} {t : List (Nat × V)} {a : Act} (hM : RelM w ρ m) (hT : RelT w ρ m t a) {T ty : TypeId} {s x : Operand} {p : Prop} {v : V} {m' : Mem}
    (h : evAppend P t m T s x = some (p, v, m')) (hp : p) :
    ∃ y w' ρ', (Builtin.append_ #[T, T] ty #[a.eval s, a.eval x]).run P w = .ok y w' ∧ After w ρ m w' ρ' m' ∧ RelV w' ρ' (bad m' ρ') v y := by
  unfold evAppend at h
  split at h
  · rename_i E news hE hnews
    split at h
    · rename_i hc
      obtain ⟨hsm, hall⟩ := hc
      obtain ⟨i, z, hi, hz, his, hzs, hs0, hby, hz1⟩ := smT_spec hsm
      have hTu := slT_spec hE
      have hsx := evO_rel hT s
      obtain ⟨A, c, hxe, hA⟩ := els_read hM (evO_rel hT x) hnews
      have hlenE : ∀ e ∈ news, e.length = szT P E := fun e he => by
        have := List.all_eq_true.1 hall e he
        simpa using this
      have hby' : ∀ k, k ≤ 1000000 → k * i.bytes ≤ 140737488355328 := fun k hk => by
        calc k * i.bytes ≤ 1000000 * 100000000 := Nat.mul_le_mul hk hby
          _ ≤ _ := by decide
      -- the row, as the kit tells it
      have hrow : ∀ (sv : Value) (n : Nat) (xs : List Value), w.ownsRow 0 E (szT P E) sv n xs → n + news.length ≤ 1000000 → (∃ g cap cur, sv = .slice (some ⟨g, 0, none⟩) n cap ∧ w.heap[g]? = some (.cells cur E (0, 0))) ∨ news.length ≠ 0 →
          ∃ y w' g cap cur, (Builtin.append_ #[T, T] ty #[sv, a.eval x]).run P w = .ok y w' ∧ w.grownBy w' sv.ownBlock ∧ y = .slice (some ⟨g, 0, none⟩) (n + news.length) cap ∧ (some g = sv.ownBlock ∨ g = w.heap.size) ∧
            w'.heap[g]? = some (.cells cur E (0, 0)) ∧ n + news.length ≤ cap ∧ cap ≤ maxLen ∧ cur.size = cap * szT P E ∧ (∃ ys : List Value, cur.toList.take ((n + news.length) * szT P E) = xs ++ ys ∧
              (∀ (i j : Nat) e u, news[i]? = some e → e[j]? = some u → u.one = true ∧ ∃ y0, ys[i * szT P E + j]? = some y0 ∧ RelV w ρ (bad m ρ) u y0)) := by
        intro sv n xs hown hle hne
        rcases hA with ⟨rfl, rfl, rfl⟩ | ⟨b, off, s', Y, hab, hAn, hcl, hcm, hs', hYY⟩
        · rcases hne with ⟨g, cap, cur, rfl, hg⟩ | hne
          · have hr := run_append_owned_none (P := P) w 0 T ty E i (szT P E) hTu hi _ n xs hown
            rcases hown.2 with ⟨h1, h2⟩ | ⟨g', cap', cur', e1, _, e3, e4, e5, e6, e7⟩
            · cases h1
            · injection e1 with e1 e1' e1''
              simp at e1
              subst e1; subst e1''
              rw [hxe]
              refine ⟨_, w, g, cap, cur', hr, World.grownBy.refl w _, rfl, .inl rfl, e3, e4, e5, e6, [], by simpa using e7, fun i j e u a1 => by simp at a1⟩
          · simp at hne
        · by_cases hnil : news.length = 0
          · have hn0 : news = [] := List.eq_nil_of_length_eq_zero hnil
            subst hn0
            obtain ⟨ad, rfl⟩ := Option.ne_none_iff_exists'.1 hAn
            obtain ⟨y, w', hr, ho, hg, _, hblk⟩ := run_append_own_at (P := P) w 0 T ty E i z (szT P E) i.bytes hTu hi hz his rfl (by omega) hs0 sv n xs hown ad 0 c [] (by simp) (by simp) (by simp) (by unfold maxLen; omega) (by simpa using hby' n (by simpa using hle)) (Nat.zero_le _)
            rcases hne with ⟨g, cap, cur, rfl, hgg⟩ | hne
            · rcases ho.2 with ⟨h1, h2⟩ | ⟨g', cap', cur', e1, _, e3, e4, e5, e6, e7⟩
              · exfalso
                subst h1
                rcases hblk with q | q <;> simp [Value.ownBlock] at q
              · subst e1
                rw [hxe]
                refine ⟨_, w', g', cap', cur', hr, hg, rfl, ?_, e3, e4, e5, e6, [], by simpa using e7, fun i j e u a1 => by simp at a1⟩
                rcases hblk with q | q
                · exact .inl q
                · exact .inr (by simpa [Value.ownBlock] using q)
            · exact (hne rfl).elim
          · obtain rfl := hab.resolve_left (fun e => hnil (by rw [e]; rfl))
            have hss : s' = szT P E := by
              cases news with
              | nil => simp at hnil
              | cons e0 _ => exact (hs' e0 List.mem_cons_self).symm.trans (hlenE e0 List.mem_cons_self)
            subst hss
            obtain ⟨f1, f2⟩ := flatY_cells (w := w) (b := b) (off := off) (Y := Y) (es := news) rfl hs' (fun i j e u a1 a2 => ⟨(hYY i j e u a1 a2).1, (hYY i j e u a1 a2).2.2.2⟩)
            obtain ⟨y, w', hr, ho, hg, hiff, hblk⟩ := run_append_own_at (P := P) w 0 T ty E i z (szT P E) i.bytes hTu hi hz his rfl (by omega) hs0 sv n xs hown ⟨b, off, none⟩ news.length c (flatY news.length (szT P E) Y) (flatY_length _ _ _) f1 f2 (by unfold maxLen; omega) (hby' _ hle) (Nat.zero_le _)
            rcases ho.2 with ⟨h1, h2⟩ | ⟨g', cap', cur', e1, _, e3, e4, e5, e6, e7⟩
            · exact absurd (hiff.1 h1).2 hnil
            · subst e1
              rw [hxe]
              refine ⟨_, w', g', cap', cur', hr, hg, rfl, ?_, e3, e4, e5, e6, _, e7, fun i j e u a1 a2 => ?_⟩
              · rcases hblk with q | q
                · exact .inl q
                · exact .inr (by simpa [Value.ownBlock] using q)
              · have hi' : i < news.length := (List.getElem?_eq_some_iff.1 a1).1
                have hj' : j < szT P E := by
                  have := (List.getElem?_eq_some_iff.1 a2).1
                  rw [hs' e (List.mem_of_getElem? a1)] at this; exact this
                exact ⟨(hYY i j e u a1 a2).2.2.1, _, flatY_get hi' hj', (hYY i j e u a1 a2).2.1⟩
      generalize hes : a.eval s = sv at hsx
      split at h
      · rename_i hv
        rw [hv] at hsx
        cases hsx
        split at h
        · rename_i hn0
          simp only [okR, Option.some.injEq, Prod.mk.injEq] at h
          obtain ⟨_, rfl, rfl⟩ := h
          have hnn : news = [] := List.eq_nil_of_length_eq_zero hn0
          subst hnn
          have fin : ∀ {y : Value} {w' : World}, (Builtin.append_ #[T, T] ty #[.slice none 0 0, a.eval x]).run P w = .ok y w' → y = .slice none 0 0 → w.grownBy w' none →
              ∃ y w' ρ', (Builtin.append_ #[T, T] ty #[.slice none 0 0, a.eval x]).run P w = .ok y w' ∧ After w ρ m w' ρ' m ∧ RelV w' ρ' (bad m ρ') .nilsl y := by
            intro y w' hr hy hg
            have hb : Below w.heap.size w w' := ⟨hg.os, hg.tape, hg.output, hg.size, fun k hk => hg.block k hk (by simp)⟩
            refine ⟨y, w', ρ, hr, ⟨Keep.of_below hb, fun _ _ h => h, hM.mono hb, fun _ _ h => h, fun _ _ h => h⟩, ?_⟩
            rw [hy]; exact .nilsl
          rcases hA with ⟨rfl, _, rfl⟩ | ⟨b, off, s', Y, hab, hAn, hcl, hcm, hs', hYY⟩
          · rw [hxe] at fin ⊢
            exact fin (run_append_owned_none (P := P) w 0 T ty E i (szT P E) hTu hi _ 0 [] ⟨by simp, .inl ⟨rfl, rfl⟩⟩) rfl (World.grownBy.refl w _)
          · obtain ⟨ad, rfl⟩ := Option.ne_none_iff_exists'.1 hAn
            obtain ⟨y, w', hr, ho, hg, hiff, hblk⟩ := run_append_own_at (P := P) w 0 T ty E i z (szT P E) i.bytes hTu hi hz his rfl (by omega) hs0 (.slice none 0 0) 0 [] ⟨by simp, .inl ⟨rfl, rfl⟩⟩ ad 0 c [] (by simp) (by simp) (by simp) (by unfold maxLen; omega) (by omega) (Nat.zero_le _)
            rw [hxe] at fin ⊢
            exact fin hr (hiff.2 ⟨rfl, rfl⟩) hg
        · rename_i hn0
          simp only [Option.some.injEq, Prod.mk.injEq] at h
          obtain ⟨rfl, rfl, rfl⟩ := h
          obtain ⟨y, w', g, cap, cur, hr, hg, rfl, hgo, q1, q2, q3, q4, ys, q5, q6⟩ := hrow (.slice none 0 0) 0 [] ⟨by simp, .inl ⟨rfl, rfl⟩⟩ (by omega) (.inr hn0)
          simp only [Nat.zero_add, List.nil_append] at hr q2 q5
          have hgs : g = w.heap.size := by
            rcases hgo with q | q
            · simp [Value.ownBlock] at q
            · exact q
          subst hgs
          obtain ⟨af, rv⟩ := hM.move (w' := w') (m1 := m) rfl (fun _ _ h _ => h) w.heap.size hg.size (fun k hk _ _ => hg.block k hk (by simp [Value.ownBlock])) hg.os hg.tape hg.output cap E (szT P E) news cur
            hM.fresh (.inr (Nat.le_refl _)) hs0 q1 q4 q2 q3 hlenE (fun i j e u a1 a2 => by
              obtain ⟨b1, y0, b2, b3⟩ := q6 i j e u a1 a2
              refine ⟨b1, y0, ?_, b3⟩
              have hi' : i < news.length := (List.getElem?_eq_some_iff.1 a1).1
              have hj' : j < szT P E := by
                have := (List.getElem?_eq_some_iff.1 a2).1
                rw [hlenE e (List.mem_of_getElem? a1)] at this; exact this
              have hlt : i * szT P E + j < news.length * szT P E := by
                have : (i + 1) * szT P E ≤ news.length * szT P E := Nat.mul_le_mul_right _ hi'
                rw [Nat.succ_mul] at this; omega
              have : (cur.toList.take (news.length * szT P E))[i * szT P E + j]? = some y0 := by rw [q5]; exact b2
              rw [List.getElem?_take_of_lt hlt] at this
              simpa using this)
          exact ⟨_, w', _, hr, af, rv⟩
      · rename_i b n hv
        rw [hv] at hsx
        cases hsx with
        | sl _ _ r hr0 hn hm =>
          split at h
          · rename_i ty' sz es hb
            split at h
            · rename_i hcc
              obtain ⟨rfl, rfl, hnl⟩ := hcc
              simp only [Option.some.injEq, Prod.mk.injEq] at h
              obtain ⟨rfl, rfl, rfl⟩ := h
              obtain ⟨r0, cur0, k1, k2, k3, k4, k5, k6, k7, k8, k9⟩ := hM.cells b .own ty' (szT P ty') es hb
              rw [hr0] at k1
              cases k1
              have hown : w.ownsRow 0 ty' (szT P ty') (.slice (some ⟨r.blk, 0, none⟩) n r.cap) n (cur0.toList.take (n * szT P ty')) := by
                refine ⟨?_, .inr ⟨r.blk, r.cap, cur0, rfl, Nat.zero_le _, k4, hn, hm, k5, rfl⟩⟩
                have : n * szT P ty' ≤ r.cap * szT P ty' := Nat.mul_le_mul_right _ hn
                simp; omega
              obtain ⟨y, w', g, cap, cur, hr, hg, rfl, hgo, q1, q2, q3, q4, ys, q5, q6⟩ := hrow _ n _ hown hp (.inl ⟨r.blk, r.cap, cur0, rfl, k4⟩)
              have hbl : b < m.length := (List.getElem?_eq_some_iff.1 hb).1
              have hob : owned m ρ r.blk := ⟨b, _, r, hb, rfl, hr0, rfl⟩
              have hget : ∀ (c : Nat) (blk : Blk), (m.set b .dead)[c]? = some blk → blk ≠ .dead → m[c]? = some blk ∧ c ≠ b := by
                intro c blk h1 h2
                rw [List.getElem?_set] at h1
                by_cases hne : b = c
                · rw [if_pos hne] at h1
                  rw [if_pos hbl] at h1
                  cases h1
                  exact (h2 rfl).elim
                · rw [if_neg hne] at h1; exact ⟨h1, fun e => hne e.symm⟩
              have hgc : g = r.blk ∨ g = w.heap.size := by
                rcases hgo with q | q
                · exact .inl (by simpa [Value.ownBlock] using q)
                · exact .inr q
              have hlenEs : (es.take n ++ news).length = n + news.length := by simp; omega
              obtain ⟨af, rv⟩ := hM.move (w' := w') (m1 := m.set b .dead) (by simp) (fun c blk h1 h2 => (hget c blk h1 h2).1) g hg.size (fun k hk hne hh => hg.block k hk (fun e => by
                  have hkr : k = r.blk := by simpa [Value.ownBlock] using e
                  subst hkr
                  rcases hh with q | ⟨c, blk, r', q1, q2, q3, q4⟩
                  · exact q hob
                  · obtain ⟨h1', hcb⟩ := hget c blk q1 q2
                    exact hcb (hM.inj c b blk _ r' r h1' q2 hb rfl q3 hr0 q4))) hg.os hg.tape hg.output cap ty' (szT P ty') (es.take n ++ news) cur
                (by
                  intro c blk r' h1 h2 h3 e
                  obtain ⟨h1', hcb⟩ := hget c blk h1 h2
                  rcases hgc with q | q
                  · exact hcb (hM.inj c b blk _ r' r h1' h2 hb rfl h3 hr0 (e.trans q))
                  · exact hM.fresh c blk r' h1' h2 h3 (e.trans q))
                (by
                  rcases hgc with q | q
                  · subst q; exact .inl hob
                  · exact .inr (by omega)) hs0 q1 q4 (by omega) q3
                (fun e he => by
                  rcases List.mem_append.1 he with q | q
                  · exact k8 e (List.mem_of_mem_take q)
                  · exact hlenE e q)
                (fun i j e u a1 a2 => by
                  have hel : e.length = szT P ty' := by
                    rcases List.mem_append.1 (List.mem_of_getElem? a1) with q | q
                    · exact k8 e (List.mem_of_mem_take q)
                    · exact hlenE e q
                  have hj' : j < szT P ty' := by
                    have := (List.getElem?_eq_some_iff.1 a2).1
                    rw [hel] at this; exact this
                  have htk : (es.take n).length = n := by simp; omega
                  have hcur : ∀ k, k < (n + news.length) * szT P ty' → cur[k]? = (cur0.toList.take (n * szT P ty') ++ ys)[k]? := by
                    intro k hk
                    rw [← q5, List.getElem?_take_of_lt hk]; simp
                  have hl0 : (cur0.toList.take (n * szT P ty')).length = n * szT P ty' := by
                    have : n * szT P ty' ≤ r.cap * szT P ty' := Nat.mul_le_mul_right _ hn
                    simp; omega
                  rcases Nat.lt_or_ge i n with hin | hin
                  · rw [List.getElem?_append_left (by omega), List.getElem?_take_of_lt hin] at a1
                    obtain ⟨b1, y0, b2, b3⟩ := k9 i j e u a1 a2
                    refine ⟨b1, y0, ?_, b3⟩
                    have hlt : i * szT P ty' + j < n * szT P ty' := by
                      have : (i + 1) * szT P ty' ≤ n * szT P ty' := Nat.mul_le_mul_right _ hin
                      rw [Nat.succ_mul] at this; omega
                    rw [hcur _ (by rw [Nat.add_mul]; omega), List.getElem?_append_left (by omega), List.getElem?_take_of_lt hlt]
                    simpa using b2
                  · rw [List.getElem?_append_right (by omega), htk] at a1
                    obtain ⟨b1, y0, b2, b3⟩ := q6 (i - n) j e u a1 a2
                    refine ⟨b1, y0, ?_, b3⟩
                    have hi' : i - n < news.length := (List.getElem?_eq_some_iff.1 a1).1
                    have hmul : i * szT P ty' = n * szT P ty' + (i - n) * szT P ty' := by rw [← Nat.add_mul]; congr 1; omega
                    have hlt : (i - n) * szT P ty' + j < news.length * szT P ty' := by
                      have : (i - n + 1) * szT P ty' ≤ news.length * szT P ty' := Nat.mul_le_mul_right _ hi'
                      rw [Nat.succ_mul] at this; omega
                    rw [hcur _ (by rw [Nat.add_mul]; omega), List.getElem?_append_right (by omega), hl0, ← b2]
                    congr 1; omega)
              rw [hlenEs] at rv
              exact ⟨_, w', _, hr, af, rv⟩
            · cases h
          · cases h
      · cases h
    · cases h
  · cases h
end Go.Proofs.Yteogokmbedmkjaa
