import Derived.Test.YteogokmbedmkjaaF18
import Derived.Orders
/- a region that draws its order: one walk, in an order of our choice, serves every order -/
namespace Go.Proofs.Yteogokmbedmkjaa
open Go.RowKit

/-- an operation yields a value, and leaves a world -/
def stOp (P : Program) (o : Oper) (a : Act) (w : World) (K : Value → World → Prop) : Prop :=
  match (execOp a.eval o).run P w with
  | .ok (.value x) w' => K x w'
  | .ok .skip w' => K undef w'
  | .ok (.enter f args) w' => Calls P f args w' (fun e w'' => ∃ x, e = .returned x ∧ K x w'')
  | _ => False

/-- p: the same value in whatever world · q: one value in every world behind the region's first one, new blocks at most · a: new blocks at most · f: writes what the region itself has made · w: whatever -/
inductive Kd where
  | p
  | q
  | a
  | f
  | w
  deriving DecidableEq
/-- one operation; or calls, in their order, and beside them operations that make a block each, in whichever order -/
inductive El where
  | one (i : Nat)
  | grp (cs ns : List Nat)
def El.idx : El → List Nat
  | .one i => [i]
  | .grp cs ns => cs ++ ns
def idxs (l : List El) : List Nat := l.flatMap El.idx

abbrev Ext (w w' : World) : Prop := Below w.heap.size w w'
theorem Ext.trans {a b c : World} (h : Ext a b) (k : Ext b c) : Ext a c := Below.trans h (k.mono h.size)

section
variable {P : Program} {ops : Array Oper} {kd : Nat → Kd} {B : World}

theorem st_mono {o : Oper} {a : Act} {w : World} {K K' : Value → World → Prop} (h : stOp P o a w K) (hk : ∀ x w, K x w → K' x w) : stOp P o a w K' := by
  unfold stOp at *
  split at h
  · exact hk _ _ h
  · exact hk _ _ h
  · exact h.mono fun e w' ⟨x, h1, h2⟩ => ⟨x, h1, hk _ _ h2⟩
  · exact h.elim
theorem st_congr {o : Oper} {a a' : Act} {w : World} {K : Value → World → Prop} (he : execOp a'.eval o = execOp a.eval o) (h : stOp P o a w K) : stOp P o a' w K := by
  unfold stOp at *
  rw [he]; exact h
theorem wp_of_st {o : Oper} {a : Act} {w : World} {K : Value → World → Prop} {next : Act → World → Prop} {Q : Exit → Act → World → Prop} (h : stOp P o a w K) (hk : ∀ x w', K x w' → next (a.put o.dst x) w') : o.wp P a w next Q := by
  unfold stOp at h
  unfold Oper.wp
  split at h
  · rename_i e; rw [e]; exact hk _ _ h
  · rename_i e; rw [e]; exact hk _ _ h
  · rename_i e
    rw [e]
    refine h.mono ?_
    rintro e w' ⟨x, rfl, h2⟩
    exact hk _ _ h2
  · exact h.elim

/-- what one operation does, and what follows -/
def kPost (P : Program) (B : World) (o : Oper) (a : Act) (w : World) (k : Kd) (K' : Act → World → Prop) : Prop := match k with
  | .p => ∃ v, (∀ w', stOp P o a w' fun x w'' => x = v ∧ w'' = w') ∧ K' (a.put o.dst v) w
  | .q => ∃ v, (∀ w', Ext B w' → stOp P o a w' fun x w'' => x = v ∧ Ext w' w'') ∧ K' (a.put o.dst v) w
  | .a => ∀ w', Ext w w' → stOp P o a w' fun x w'' => Ext w' w'' ∧ K' (a.put o.dst x) w''
  | .f => ∀ w', Ext w w' → Ext B w' → stOp P o a w' fun x w'' => Ext B w'' ∧ K' (a.put o.dst x) w''
  | .w => ∀ w', Ext w w' → stOp P o a w' fun x w'' => K' (a.put o.dst x) w''
theorem kPost_mono {o : Oper} {a : Act} {w : World} {k : Kd} {K K' : Act → World → Prop} (h : kPost P B o a w k K) (hk : ∀ a w, K a w → K' a w) : kPost P B o a w k K' := by
  cases k with
  | p => obtain ⟨v, h1, h2⟩ := h; exact ⟨v, h1, hk _ _ h2⟩
  | q => obtain ⟨v, h1, h2⟩ := h; exact ⟨v, h1, hk _ _ h2⟩
  | a => exact fun w' hw' => st_mono (h w' hw') fun x w'' ⟨h1, h2⟩ => ⟨h1, hk _ _ h2⟩
  | f => exact fun w' hw' hb => st_mono (h w' hw' hb) fun x w'' ⟨h1, h2⟩ => ⟨h1, hk _ _ h2⟩
  | w => exact fun w' hw' => st_mono (h w' hw') fun x w'' h2 => hk _ _ h2
theorem kPost_later {o : Oper} {a : Act} {w w1 : World} {k : Kd} {K : Act → World → Prop} (h : kPost P B o a w k K) (hw : Ext w w1) (hk : ∀ a, K a w → K a w1) : kPost P B o a w1 k K := by
  cases k with
  | p => obtain ⟨v, h1, h2⟩ := h; exact ⟨v, h1, hk _ h2⟩
  | q => obtain ⟨v, h1, h2⟩ := h; exact ⟨v, h1, hk _ h2⟩
  | a => exact fun w' hw' => h w' (hw.trans hw')
  | f => exact fun w' hw' hb => h w' (hw.trans hw') hb
  | w => exact fun w' hw' => h w' (hw.trans hw')

/-- a group, in whichever order it comes -/
def grpL (P : Program) (ops : Array Oper) (K : Act → World → Prop) : Nat → List Nat → List Nat → Act → World → Prop
  | 0, cs, ns, a, w => cs = [] ∧ ns = [] ∧ K a w
  | f + 1, cs, ns, a, w => (∀ c cs', cs = c :: cs' → ∃ o, ops[c]? = some o ∧ ∀ w', Ext w w' → stOp P o a w' fun x w'' => Ext w' w'' ∧ grpL P ops K f cs' ns (a.put o.dst x) w'') ∧
    (∀ n ∈ ns, ∃ o, ops[n]? = some o ∧ ∀ w', Ext w w' → stOp P o a w' fun x w'' => Ext w' w'' ∧ grpL P ops K f cs (ns.erase n) (a.put o.dst x) w'')
theorem grp_later {K : Act → World → Prop} (hK : ∀ a w w1, Ext w w1 → K a w → K a w1) : ∀ (f : Nat) {cs ns : List Nat} {a : Act} {w w1 : World}, Ext w w1 → grpL P ops K f cs ns a w → grpL P ops K f cs ns a w1
  | 0, _, _, _, _, _, h, ⟨h1, h2, h3⟩ => ⟨h1, h2, hK _ _ _ h h3⟩
  | f + 1, _, _, _, _, _, h, ⟨h1, h2⟩ => ⟨fun c cs' e => by
      obtain ⟨o, ho, hh⟩ := h1 c cs' e
      exact ⟨o, ho, fun w' hw' => hh w' (h.trans hw')⟩, fun n hn => by
      obtain ⟨o, ho, hh⟩ := h2 n hn
      exact ⟨o, ho, fun w' hw' => hh w' (h.trans hw')⟩⟩

/-- the operations in our order -/
def mixL (P : Program) (ops : Array Oper) (kd : Nat → Kd) (B : World) (Q : Act → World → Prop) : List El → Act → World → Prop
  | [], a, w => ∀ w', Ext w w' → Q a w'
  | .one i :: l, a, w => ∃ o, ops[i]? = some o ∧
    if Region.wanted o (yielded ops a.tmps) = true then kPost P B o a w (kd i) (mixL P ops kd B Q l) else mixL P ops kd B Q l (a.put o.dst undef) w
  | .grp cs ns :: l, a, w => grpL P ops (mixL P ops kd B Q l) (cs.length + ns.length) cs ns a w

theorem mix_later {Q : Act → World → Prop} : ∀ (l : List El) {a : Act} {w w1 : World}, Ext w w1 → mixL P ops kd B Q l a w → mixL P ops kd B Q l a w1
  | [], _, _, _, h, hm => fun w' hw => hm w' (h.trans hw)
  | .one i :: l, a, w, w1, h, hm => by
    obtain ⟨o, ho, hm⟩ := hm
    refine ⟨o, ho, ?_⟩
    split
    · rename_i hw
      rw [if_pos hw] at hm
      exact kPost_later hm h fun a hm => mix_later l h hm
    · rename_i hw
      rw [if_neg hw] at hm
      exact mix_later l h hm
  | .grp cs ns :: l, a, w, w1, h, hm => grp_later (K := mixL P ops kd B Q l) (fun a w w1 h hm => mix_later l h hm) _ h hm

theorem mix_cons {Q : Act → World → Prop} {i : Nat} {l l' : List El} (h : ∀ a w, mixL P ops kd B Q l a w → mixL P ops kd B Q l' a w) {a : Act} {w : World} (hm : mixL P ops kd B Q (.one i :: l) a w) : mixL P ops kd B Q (.one i :: l') a w := by
  obtain ⟨o, ho, hm⟩ := hm
  refine ⟨o, ho, ?_⟩
  split
  · rename_i hw
    rw [if_pos hw] at hm
    exact kPost_mono hm h
  · rename_i hw
    rw [if_neg hw] at hm
    exact h _ _ hm

/-- an operation that may be put off -/
theorem quiet_view {Q : Act → World → Prop} {k : Nat} {l : List El} (hk : kd k = .p ∨ kd k = .q) {a : Act} {w : World} (hm : mixL P ops kd B Q (.one k :: l) a w) :
    ∃ o v, ops[k]? = some o ∧ mixL P ops kd B Q l (a.put o.dst v) w ∧ ∀ (a' : Act) (l' : List El) (w2 : World), execOp a'.eval o = execOp a.eval o → Region.wanted o (yielded ops a'.tmps) = Region.wanted o (yielded ops a.tmps) →
      mixL P ops kd B Q l' (a'.put o.dst v) w2 → mixL P ops kd B Q (.one k :: l') a' w2 := by
  obtain ⟨o, ho, hm⟩ := hm
  by_cases hw : Region.wanted o (yielded ops a.tmps) = true
  · rw [if_pos hw] at hm
    rcases hk with hk | hk
    · rw [hk] at hm
      obtain ⟨v, h1, h2⟩ := hm
      refine ⟨o, v, ho, h2, fun a' l' w2 e1 e2 h3 => ⟨o, ho, ?_⟩⟩
      rw [if_pos (e2.trans hw), hk]
      exact ⟨v, fun w' => st_congr e1 (h1 w'), h3⟩
    · rw [hk] at hm
      obtain ⟨v, h1, h2⟩ := hm
      refine ⟨o, v, ho, h2, fun a' l' w2 e1 e2 h3 => ⟨o, ho, ?_⟩⟩
      rw [if_pos (e2.trans hw), hk]
      exact ⟨v, fun w' hw' => st_congr e1 (h1 w' hw'), h3⟩
  · rw [if_neg hw] at hm
    refine ⟨o, undef, ho, hm, fun a' l' w2 e1 e2 h3 => ⟨o, ho, ?_⟩⟩
    rw [if_neg (by rw [e2]; exact hw)]
    exact h3

theorem mix_swap {Q : Act → World → Prop} {i j : Nat} {l : List El} {oi oj : Oper} (hi : ops[i]? = some oi) (hj : ops[j]? = some oj) (hap : oi.apart ops oj = true) (hsel : ∀ (k : Nat) (o : Oper) cs b, ops[k]? = some o → o.op ≠ .select cs b)
    (hkj : kd j = .p ∨ kd j = .q) {a : Act} {w : World} (hm : mixL P ops kd B Q (.one j :: .one i :: l) a w) : mixL P ops kd B Q (.one i :: .one j :: l) a w := by
  obtain ⟨p1, p2, p3⟩ := Oper.apart_spec hap
  obtain ⟨oj', v, hj', ⟨oi', hi', h2⟩, hJ⟩ := quiet_view hkj hm
  rw [hj] at hj'; cases hj'
  rw [hi] at hi'; cases hi'
  rw [wanted_put oi a oj.dst v p3] at h2
  have hex := execOp_put oi (fun cs b => hsel i oi cs b hi) a oj.dst v p3
  have hcm : ∀ u, (a.put oj.dst v).put oi.dst u = (a.put oi.dst u).put oj.dst v := fun u => (Act.put_comm a u v p2).symm
  have back : ∀ (u : Value) (w2 : World), mixL P ops kd B Q l ((a.put oj.dst v).put oi.dst u) w2 → mixL P ops kd B Q (.one j :: l) (a.put oi.dst u) w2 := fun u w2 h => by
    rw [hcm] at h
    exact hJ _ _ _ (execOp_put oj (fun cs b => hsel j oj cs b hj) a oi.dst u p1) (wanted_put oj a oi.dst u p1) h
  refine ⟨oi, hi, ?_⟩
  split
  · rename_i hw
    rw [if_pos hw] at h2
    cases hk : kd i with
    | p =>
      rw [hk] at h2
      obtain ⟨u, h3, h4⟩ := h2
      exact ⟨u, fun w' => st_congr hex.symm (h3 w'), back u w h4⟩
    | q =>
      rw [hk] at h2
      obtain ⟨u, h3, h4⟩ := h2
      exact ⟨u, fun w' hw' => st_congr hex.symm (h3 w' hw'), back u w h4⟩
    | a =>
      rw [hk] at h2
      exact fun w' hw' => st_mono (st_congr hex.symm (h2 w' hw')) fun x w'' ⟨h3, h4⟩ => ⟨h3, back x w'' h4⟩
    | f =>
      rw [hk] at h2
      exact fun w' hw' hb => st_mono (st_congr hex.symm (h2 w' hw' hb)) fun x w'' ⟨h3, h4⟩ => ⟨h3, back x w'' h4⟩
    | w =>
      rw [hk] at h2
      exact fun w' hw' => st_mono (st_congr hex.symm (h2 w' hw')) fun x w'' h4 => back x w'' h4
  · rename_i hw
    rw [if_neg hw] at h2
    exact back undef w h2

theorem mix_front {Q : Act → World → Prop} {i : Nat} {oi : Oper} (hi : ops[i]? = some oi) (hsel : ∀ (k : Nat) (o : Oper) cs b, ops[k]? = some o → o.op ≠ .select cs b) : ∀ (l1 : List Nat) (l2 : List El),
    (∀ j ∈ l1, (kd j = .p ∨ kd j = .q) ∧ ∃ oj, ops[j]? = some oj ∧ oi.apart ops oj = true) → ∀ a w, mixL P ops kd B Q (l1.map .one ++ .one i :: l2) a w → mixL P ops kd B Q (.one i :: (l1.map .one ++ l2)) a w
  | [], _, _, _, _, h => h
  | j :: l1, l2, hq, a, w, h => by
    obtain ⟨h1, oj, h3, h4⟩ := hq j List.mem_cons_self
    have := mix_cons (fun a w => mix_front hi hsel l1 l2 (fun j hj => hq j (List.mem_cons_of_mem _ hj)) a w) h
    exact mix_swap hi h3 h4 hsel h1 this
/-- the next of a group, ahead of what may be put off -/
theorem mix_execg {Q : Act → World → Prop} {i : Nat} {oi : Oper} (hi : ops[i]? = some oi) (hsel : ∀ (k : Nat) (o : Oper) cs b, ops[k]? = some o → o.op ≠ .select cs b) {cs ns cs' ns' : List Nat}
    (he : (cs = i :: cs' ∧ ns' = ns) ∨ (i ∈ ns ∧ cs' = cs ∧ ns' = ns.erase i)) : ∀ (l1 : List Nat) (l2 : List El),
    (∀ j ∈ l1, (kd j = .p ∨ kd j = .q) ∧ ∃ oj, ops[j]? = some oj ∧ oi.apart ops oj = true) → ∀ a w, mixL P ops kd B Q (l1.map .one ++ .grp cs ns :: l2) a w → ∀ w', Ext w w' → stOp P oi a w' fun x w1 => Ext w' w1 ∧ mixL P ops kd B Q (l1.map .one ++ .grp cs' ns' :: l2) (a.put oi.dst x) w1
  | [], l2, _, a, w, h => by
    intro w' hw'
    have hpos : cs.length + ns.length = cs'.length + ns'.length + 1 := by
      rcases he with ⟨rfl, rfl⟩ | ⟨hm, rfl, rfl⟩
      · simp; omega
      · have := List.length_erase_of_mem hm
        have : 0 < ns.length := List.length_pos_of_mem hm
        omega
    have h' : grpL P ops (mixL P ops kd B Q l2) (cs'.length + ns'.length + 1) cs ns a w := by
      rw [← hpos]; exact h
    obtain ⟨h1, h2⟩ := h'
    rcases he with ⟨rfl, rfl⟩ | ⟨hm, rfl, rfl⟩
    · obtain ⟨o, ho, hh⟩ := h1 i cs' rfl
      rw [hi] at ho; cases ho
      exact hh w' hw'
    · obtain ⟨o, ho, hh⟩ := h2 i hm
      rw [hi] at ho; cases ho
      exact hh w' hw'
  | j :: l1, l2, hq, a, w, h => by
    obtain ⟨h1, oj, h3, h4⟩ := hq j List.mem_cons_self
    obtain ⟨p1, p2, p3⟩ := Oper.apart_spec h4
    obtain ⟨oj', v, hj', hm, hJ⟩ := quiet_view h1 h
    rw [h3] at hj'; cases hj'
    have ih := mix_execg hi hsel he l1 l2 (fun j hj => hq j (List.mem_cons_of_mem _ hj)) _ _ hm
    have hex := execOp_put oi (fun cs b => hsel i oi cs b hi) a oj.dst v p3
    intro w' hw'
    refine st_mono (st_congr hex.symm (ih w' hw')) fun x w1 ⟨e1, h5⟩ => ⟨e1, ?_⟩
    rw [← Act.put_comm a x v p2] at h5
    exact hJ _ _ _ (execOp_put oj (fun cs b => hsel j oj cs b h3) a oi.dst x p1) (wanted_put oj a oi.dst x p1) h5

/-- i comes behind j, by the edges -/
def reach (ops : Array Oper) : Nat → Nat → Nat → Bool
  | 0, _, _ => false
  | n + 1, i, j => match ops[i]? with
    | some o => o.after.toList.any fun e => Region.binds .any e && (e.on == j || reach ops n e.on j)
    | none => false
def apartB (ops : Array Oper) (i j : Nat) : Bool := match ops[i]?, ops[j]? with
  | some oi, some oj => oi.apart ops oj
  | _, _ => false
/-- j stands ahead of i in our order -/
def okPair (ops : Array Oper) (kd : Nat → Kd) (j i : Nat) : Bool :=
  reach ops ops.size i j || (apartB ops i j && (decide (kd j = .p) || (decide (kd j = .q) && !decide (kd i = .w))))
def okPre (ops : Array Oper) (j : Nat) (rest : List Nat) : Bool := match ops[j]? with
  | some o => o.after.toList.all fun e => !Region.binds .any e || (decide (e.on < ops.size) && !rest.contains e.on)
  | none => false
def noGuard (ops : Array Oper) (j : Nat) : Bool := match ops[j]? with
  | some o => o.guard.isNone
  | none => false
def noQ (kd : Nat → Kd) (l : List Nat) : Bool := l.all fun i => !decide (kd i = .q)
def noF (kd : Nat → Kd) (l : List Nat) : Bool := l.all fun i => !decide (kd i = .f)
/-- an operation that may come earlier than we have it: it reads its slots alone -/
def plainOp : Op → Bool
  | .move _ | .assign _ | .pick .. | .extract .. | .fieldAddr .. | .field .. | .indexAddr .. | .index .. | .makeFunc .. | .binOp .. => true
  | _ => false
def hoist (ops : Array Oper) (kd : Nat → Kd) (i : Nat) : Bool := decide (kd i = .p) && (match ops[i]? with
  | some o => o.guard.isNone && plainOp o.op
  | none => false)
def okPairG (ops : Array Oper) (kd : Nat → Kd) (j i : Nat) : Bool := okPair ops kd j i || (apartB ops i j && apartB ops j i && hoist ops kd i)
/-- calls, each behind the one before, none behind what else there is -/
def okChain (ops : Array Oper) : List Nat → List Nat → Bool
  | [], _ => true
  | c :: cs, rest => okPre ops c (c :: cs ++ rest) && cs.all (fun d => reach ops ops.size d c) && okChain ops cs rest
def nodupB : List Nat → Bool
  | [] => true
  | i :: l => !l.contains i && nodupB l
def okOrder (ops : Array Oper) (kd : Nat → Kd) : List El → Bool
  | [] => true
  | .one j :: l => (idxs l).all (okPair ops kd j) && okPre ops j (j :: idxs l) && !(idxs l).contains j && (decide (kd j = .p) || decide (kd j = .q) || noQ kd (idxs l)) && (!decide (kd j = .w) || noF kd (idxs l)) && okOrder ops kd l
  | .grp cs ns :: l => okChain ops cs (ns ++ idxs l) && ns.all (fun n => okPre ops n (cs ++ ns ++ idxs l)) && (cs ++ ns).all (fun i => (idxs l).all (okPairG ops kd i) && !(idxs l).contains i && decide (kd i = .a) && noGuard ops i) &&
    nodupB (cs ++ ns) && ns.all (fun n => (cs ++ ns).all fun i => n == i || (apartB ops n i && apartB ops i n)) && noQ kd (idxs l) && okOrder ops kd l
def okMix (ops : Array Oper) (kd : Nat → Kd) (l : List El) : Bool :=
  okOrder ops kd l && ((idxs l).length == ops.size) && (List.range ops.size).all ((idxs l).contains ·) && Region.noSelect ops

def Closed (ops : Array Oper) (listed : Array Bool) : Prop := ∀ (k : Nat) (o : Oper), ops[k]? = some o → listed.getD k true = true → ∀ e ∈ o.after, Region.binds .any e = true → listed.getD e.on false = true

theorem reach_listed {listed : Array Bool} (hc : Closed ops listed) : ∀ (n i j : Nat) (o : Oper), ops[i]? = some o → (∀ e ∈ o.after, Region.binds .any e = true → listed.getD e.on false = true) → reach ops n i j = true → listed.getD j false = true
  | 0, _, _, _, _, _, h => by simp [reach] at h
  | n + 1, i, j, o, ho, hp, h => by
    simp only [reach, ho, List.any_eq_true, Bool.and_eq_true, Bool.or_eq_true, beq_iff_eq] at h
    obtain ⟨e, he, hb, h⟩ := h
    have he' : e ∈ o.after := by simpa using he
    have hl := hp e he' hb
    rcases h with h | h
    · rw [← h]; exact hl
    · cases hk : ops[e.on]? with
      | none =>
        cases n with
        | zero => simp [reach] at h
        | succ n => simp [reach, hk] at h
      | some o' =>
        refine reach_listed hc n e.on j o' hk (hc e.on o' hk ?_) h
        have hlt : e.on < listed.size := by
          rcases Nat.lt_or_ge e.on listed.size with q | q
          · exact q
          · simp [Array.getD, Nat.not_lt.2 q] at hl
        simp only [Array.getD, hlt, dif_pos] at hl ⊢
        exact hl


theorem idxs_cons (e : El) (l : List El) : idxs (e :: l) = e.idx ++ idxs l := rfl
theorem idxs_append (l1 l2 : List El) : idxs (l1 ++ l2) = idxs l1 ++ idxs l2 := by simp [idxs]
theorem idxs_one (l : List Nat) : idxs (l.map .one) = l := by
  induction l with
  | nil => rfl
  | cons i l ih => simp only [List.map_cons, idxs_cons, ih]; rfl
theorem okPre_mono {j : Nat} {r r' : List Nat} (h : okPre ops j r = true) (hs : ∀ x ∈ r', x ∈ r) : okPre ops j r' = true := by
  unfold okPre at *
  split at h
  · rw [List.all_eq_true] at h ⊢
    intro e he
    have := h e he
    simp only [Bool.or_eq_true, Bool.not_eq_true', Bool.and_eq_true] at this ⊢
    rcases this with q | ⟨q0, q⟩
    · exact .inl q
    · refine .inr ⟨q0, ?_⟩
      simp only [List.contains_eq_mem, decide_eq_false_iff_not] at q ⊢
      exact fun hx => q (hs _ hx)
  · cases h
theorem all_mono {p : Nat → Bool} {r r' : List Nat} (h : r.all p = true) (hs : ∀ x ∈ r', x ∈ r) : r'.all p = true := by
  rw [List.all_eq_true] at h ⊢
  exact fun x hx => h x (hs x hx)
theorem nc_mono {j : Nat} {r r' : List Nat} (h : r.contains j = false) (hs : ∀ x ∈ r', x ∈ r) : r'.contains j = false := by
  simp only [List.contains_eq_mem, decide_eq_false_iff_not] at h ⊢
  exact fun hx => h (hs _ hx)
theorem ready_of {listed : Array Bool} {i0 : Nat} {rest : List Nat} (hsz : listed.size = ops.size) (hl : ∀ i, i ∈ rest ↔ i < ops.size ∧ listed.getD i true = false) (hi0 : i0 ∈ rest) (hp : okPre ops i0 rest = true) : i0 ∈ Region.ready .any ops listed := by
  unfold okPre at hp
  split at hp
  · rename_i o ho
    refine mem_ready.2 ⟨((hl i0).1 hi0).2, o, ho, fun e he hb => ?_⟩
    rw [List.all_eq_true] at hp
    have h3 := hp e (by simpa using he)
    simp only [hb, Bool.not_true, Bool.false_or, Bool.and_eq_true, decide_eq_true_eq, Bool.not_eq_true', List.contains_eq_mem, decide_eq_false_iff_not] at h3
    have h4 : ¬ (e.on < ops.size ∧ listed.getD e.on true = false) := fun hx => h3.2 ((hl e.on).2 hx)
    have h5 : listed.getD e.on true = true := by
      cases hx : listed.getD e.on true with
      | true => rfl
      | false => exact (h4 ⟨h3.1, hx⟩).elim
    have hlt : e.on < listed.size := by rw [hsz]; exact h3.1
    simp only [Array.getD, hlt, dif_pos] at h5 ⊢
    exact h5
  · cases hp
theorem noGuard_of {j : Nat} {o : Oper} (h : noGuard ops j = true) (ho : ops[j]? = some o) : o.guard = none := by
  unfold noGuard at h
  rw [ho] at h
  simpa using h

theorem okChain_mono : ∀ {cs : List Nat} {r r' : List Nat}, okChain ops cs r = true → (∀ x ∈ r', x ∈ r) → okChain ops cs r' = true
  | [], _, _, _, _ => rfl
  | c :: cs, r, r', h, hs => by
    simp only [okChain, Bool.and_eq_true] at h ⊢
    refine ⟨⟨okPre_mono h.1.1 fun x hx => ?_, h.1.2⟩, okChain_mono h.2 hs⟩
    rcases List.mem_append.1 hx with k | k
    · exact List.mem_append_left _ k
    · exact List.mem_append_right _ (hs x k)
theorem nodupB_iff : ∀ {l : List Nat}, nodupB l = true ↔ l.Nodup
  | [] => by simp [nodupB]
  | i :: l => by
    simp only [nodupB, Bool.and_eq_true, Bool.not_eq_true', List.contains_eq_mem, decide_eq_false_iff_not, List.nodup_cons, nodupB_iff (l := l)]
/-- what is asked of a group -/
structure GrpOk (ops : Array Oper) (kd : Nat → Kd) (cs ns rest : List Nat) : Prop where
  chain : okChain ops cs (ns ++ rest) = true
  pre : ∀ n ∈ ns, okPre ops n (cs ++ ns ++ rest) = true
  pair : ∀ i ∈ cs ++ ns, rest.all (okPairG ops kd i) = true
  nc : ∀ i ∈ cs ++ ns, rest.contains i = false
  ka : ∀ i ∈ cs ++ ns, kd i = .a
  ng : ∀ i ∈ cs ++ ns, noGuard ops i = true
  nd : (cs ++ ns).Nodup
  ap : ∀ n ∈ ns, ∀ i ∈ cs ++ ns, n ≠ i → apartB ops n i = true ∧ apartB ops i n = true
  nq : noQ kd rest = true
theorem grp_iff {cs ns : List Nat} {l : List El} : okOrder ops kd (.grp cs ns :: l) = true ↔ GrpOk ops kd cs ns (idxs l) ∧ okOrder ops kd l = true := by
  simp only [okOrder, Bool.and_eq_true, List.all_eq_true, decide_eq_true_eq, Bool.not_eq_true', nodupB_iff, Bool.or_eq_true, beq_iff_eq]
  constructor
  · rintro ⟨⟨⟨⟨⟨⟨h1, h2⟩, h3⟩, h4⟩, h5⟩, h6⟩, h7⟩
    exact ⟨⟨h1, h2, fun i hi => List.all_eq_true.2 (h3 i hi).1.1.1, fun i hi => (h3 i hi).1.1.2, fun i hi => (h3 i hi).1.2, fun i hi => (h3 i hi).2, h4, fun n hn i hi hne => (h5 n hn i hi).resolve_left hne, h6⟩, h7⟩
  · rintro ⟨h, h7⟩
    refine ⟨⟨⟨⟨⟨⟨h.chain, h.pre⟩, fun i hi => ⟨⟨⟨List.all_eq_true.1 (h.pair i hi), h.nc i hi⟩, h.ka i hi⟩, h.ng i hi⟩⟩, h.nd⟩, fun n hn i hi => ?_⟩, h.nq⟩, h7⟩
    by_cases e : n = i
    · exact .inl e
    · exact .inr (h.ap n hn i hi e)
theorem GrpOk.mono {cs ns r r' : List Nat} (h : GrpOk ops kd cs ns r) (hs : ∀ x ∈ r', x ∈ r) : GrpOk ops kd cs ns r' := by
  refine ⟨okChain_mono h.chain fun x hx => ?_, fun n hn => okPre_mono (h.pre n hn) fun x hx => ?_, fun i hi => all_mono (h.pair i hi) hs, fun i hi => nc_mono (h.nc i hi) hs, h.ka, h.ng, h.nd, h.ap, all_mono h.nq hs⟩
  · rcases List.mem_append.1 hx with k | k
    · exact List.mem_append_left _ k
    · exact List.mem_append_right _ (hs x k)
  · rcases List.mem_append.1 hx with k | k
    · exact List.mem_append_left _ k
    · exact List.mem_append_right _ (hs x k)
theorem GrpOk.call {c : Nat} {cs ns r : List Nat} (h : GrpOk ops kd (c :: cs) ns r) : GrpOk ops kd cs ns r := by
  have hsub : ∀ x ∈ cs ++ ns, x ∈ (c :: cs) ++ ns := fun x hx => List.mem_cons_of_mem _ hx
  have hc := h.chain
  simp only [okChain, Bool.and_eq_true] at hc
  exact ⟨hc.2, fun n hn => okPre_mono (h.pre n hn) fun x hx => List.mem_cons_of_mem _ hx, fun i hi => h.pair i (hsub i hi), fun i hi => h.nc i (hsub i hi), fun i hi => h.ka i (hsub i hi), fun i hi => h.ng i (hsub i hi), (List.nodup_cons.1 h.nd).2, fun n hn i hi => h.ap n hn i (hsub i hi), h.nq⟩
theorem GrpOk.make {n : Nat} {cs ns r : List Nat} (h : GrpOk ops kd cs ns r) : GrpOk ops kd cs (ns.erase n) r := by
  have he : ∀ x ∈ ns.erase n, x ∈ ns := fun x hx => List.mem_of_mem_erase hx
  have hsub : ∀ x ∈ cs ++ ns.erase n, x ∈ cs ++ ns := fun x hx => by
    rcases List.mem_append.1 hx with k | k
    · exact List.mem_append_left _ k
    · exact List.mem_append_right _ (he x k)
  have hnd : (cs ++ ns.erase n).Nodup := by
    have := h.nd
    rw [List.nodup_append] at this ⊢
    exact ⟨this.1, this.2.1.erase n, fun a ha b hb => this.2.2 a ha b (he b hb)⟩
  refine ⟨okChain_mono h.chain fun x hx => ?_, fun k hk => okPre_mono (h.pre k (he k hk)) fun x hx => ?_, fun i hi => h.pair i (hsub i hi), fun i hi => h.nc i (hsub i hi), fun i hi => h.ka i (hsub i hi), fun i hi => h.ng i (hsub i hi), hnd, fun k hk i hi => h.ap k (he k hk) i (hsub i hi), h.nq⟩
  · rcases List.mem_append.1 hx with k | k
    · exact List.mem_append_left _ (he x k)
    · exact List.mem_append_right _ k
  · rcases List.mem_append.1 hx with k | k
    · exact List.mem_append_left _ (hsub x k)
    · exact List.mem_append_right _ k
theorem okOrder_mono {e : El} {l l' : List El} (h : okOrder ops kd (e :: l) = true) (h' : okOrder ops kd l' = true) (hs : ∀ x ∈ idxs l', x ∈ idxs l) : okOrder ops kd (e :: l') = true := by
  cases e with
  | one j =>
    simp only [okOrder, Bool.and_eq_true, Bool.or_eq_true, Bool.not_eq_true', decide_eq_true_eq] at h ⊢
    obtain ⟨⟨⟨⟨⟨h1, h2⟩, h3⟩, h4⟩, h5⟩, _⟩ := h
    refine ⟨⟨⟨⟨⟨all_mono h1 hs, okPre_mono h2 fun x hx => ?_⟩, nc_mono h3 hs⟩, ?_⟩, ?_⟩, h'⟩
    · rcases List.mem_cons.1 hx with rfl | k
      · exact List.mem_cons_self
      · exact List.mem_cons_of_mem _ (hs x k)
    · rcases h4 with h4 | h4
      · exact .inl h4
      · exact .inr (all_mono h4 hs)
    · rcases h5 with h5 | h5
      · exact .inl h5
      · exact .inr (all_mono h5 hs)
  | grp cs ns =>
    rw [grp_iff] at h ⊢
    exact ⟨h.1.mono hs, h'⟩

/-- an element with one of its operations that may come next, and what is left of it without that -/
inductive Rem : El → Nat → List El → Prop where
  | one (i : Nat) : Rem (.one i) i []
  | call (c : Nat) (cs ns : List Nat) : Rem (.grp (c :: cs) ns) c [.grp cs ns]
  | make (n : Nat) (cs ns : List Nat) (h : n ∈ ns) : Rem (.grp cs ns) n [.grp cs (ns.erase n)]
theorem mem_erase_iff' {n x : Nat} {ns : List Nat} (hn : ns.Nodup) : x ∈ ns.erase n ↔ x ≠ n ∧ x ∈ ns := by
  exact hn.mem_erase_iff
theorem okOrder_rem {e : El} {i : Nat} {r l2 : List El} (hr : Rem e i r) : ∀ {l1 : List El}, okOrder ops kd (l1 ++ e :: l2) = true →
    okOrder ops kd (l1 ++ (r ++ l2)) = true ∧ (∀ k ∈ idxs l1, okPairG ops kd k i = true) ∧ i ∉ idxs (l1 ++ (r ++ l2)) ∧ (∀ x, x ∈ idxs (l1 ++ e :: l2) ↔ x = i ∨ x ∈ idxs (l1 ++ (r ++ l2))) ∧
      (kd i = .w → noQ kd (idxs l2) = true ∧ noF kd (idxs l2) = true ∧ r = [])
  | [], h => by
    cases hr with
    | one =>
      simp only [List.nil_append, okOrder, Bool.and_eq_true, Bool.or_eq_true, Bool.not_eq_true', decide_eq_true_eq] at h
      obtain ⟨⟨⟨⟨⟨h1, h2⟩, h3⟩, h4⟩, h5⟩, h6⟩ := h
      refine ⟨h6, by simp [idxs], ?_, fun x => by simp [idxs_cons, El.idx], fun hw => ⟨?_, ?_, rfl⟩⟩
      · simpa using h3
      · rcases h4 with (h4 | h4) | h4
        · rw [hw] at h4; cases h4
        · rw [hw] at h4; cases h4
        · exact h4
      · rcases h5 with h5 | h5
        · simp [hw] at h5
        · exact h5
    | call _ cs ns =>
      rw [List.nil_append, grp_iff] at h
      obtain ⟨hg, h6⟩ := h
      have hi : i ∈ (i :: cs) ++ ns := List.mem_cons_self
      refine ⟨?_, by simp [idxs], ?_, fun x => ?_, fun hw => by rw [hg.ka i hi] at hw; cases hw⟩
      · rw [List.nil_append, List.cons_append, List.nil_append, grp_iff]
        exact ⟨hg.call, h6⟩
      · rw [List.nil_append, List.cons_append, List.nil_append, idxs_cons]
        intro hx
        rcases List.mem_append.1 hx with hx | hx
        · exact (List.nodup_cons.1 hg.nd).1 hx
        · have := hg.nc i hi
          simp at this
          exact this hx
      · rw [List.nil_append, List.nil_append, List.cons_append, List.nil_append, idxs_cons, idxs_cons]
        simp only [El.idx, List.cons_append, List.mem_cons]
    | make _ cs ns hm =>
      rw [List.nil_append, grp_iff] at h
      obtain ⟨hg, h6⟩ := h
      have hi : i ∈ cs ++ ns := List.mem_append_right _ hm
      have hnd := hg.nd
      rw [List.nodup_append] at hnd
      refine ⟨?_, by simp [idxs], ?_, fun x => ?_, fun hw => by rw [hg.ka i hi] at hw; cases hw⟩
      · rw [List.nil_append, List.cons_append, List.nil_append, grp_iff]
        exact ⟨hg.make, h6⟩
      · rw [List.nil_append, List.cons_append, List.nil_append, idxs_cons]
        intro hx
        rcases List.mem_append.1 hx with hx | hx
        · simp only [El.idx] at hx
          rcases List.mem_append.1 hx with hx | hx
          · exact hnd.2.2 i hx i hm rfl
          · exact ((mem_erase_iff' hnd.2.1).1 hx).1 rfl
        · have := hg.nc i hi
          simp at this
          exact this hx
      · rw [List.nil_append, List.nil_append, List.cons_append, List.nil_append, idxs_cons, idxs_cons]
        simp only [El.idx, List.mem_append, mem_erase_iff' hnd.2.1]
        constructor
        · rintro ((h | h) | h)
          · exact .inr (.inl (.inl h))
          · by_cases e : x = i
            · exact .inl e
            · exact .inr (.inl (.inr ⟨e, h⟩))
          · exact .inr (.inr h)
        · rintro (rfl | (h | ⟨_, h⟩) | h)
          · exact .inl (.inr hm)
          · exact .inl (.inl h)
          · exact .inl (.inr h)
          · exact .inr h
  | e0 :: l1, h => by
    have hl : okOrder ops kd (l1 ++ e :: l2) = true := by
      cases e0 with
      | one j => simp only [List.cons_append, okOrder, Bool.and_eq_true] at h; exact h.2
      | grp cs ns => rw [List.cons_append, grp_iff] at h; exact h.2
    obtain ⟨g1, g2, g3, g4, g5⟩ := okOrder_rem hr (l1 := l1) hl
    have hsub : ∀ x ∈ idxs (l1 ++ (r ++ l2)), x ∈ idxs (l1 ++ e :: l2) := fun x hx => (g4 x).2 (.inr hx)
    have hin : i ∈ idxs (l1 ++ e :: l2) := (g4 i).2 (.inl rfl)
    have hp : ∀ k ∈ e0.idx, okPairG ops kd k i = true ∧ k ≠ i := by
      cases e0 with
      | one j =>
        simp only [List.cons_append, okOrder, Bool.and_eq_true, Bool.not_eq_true'] at h
        obtain ⟨⟨⟨⟨⟨h1, _⟩, h3⟩, _⟩, _⟩, _⟩ := h
        rw [List.all_eq_true] at h1
        intro k hk
        simp only [El.idx, List.mem_singleton] at hk
        subst hk
        refine ⟨by unfold okPairG; rw [h1 i hin]; rfl, fun e => ?_⟩
        subst e
        simp at h3
        exact h3 (by simpa using hin)
      | grp cs ns =>
        rw [List.cons_append, grp_iff] at h
        intro k hk
        refine ⟨List.all_eq_true.1 (h.1.pair k hk) i hin, fun e => ?_⟩
        subst e
        have := h.1.nc k hk
        simp at this
        exact this (by simpa using hin)
    refine ⟨okOrder_mono h g1 hsub, ?_, ?_, ?_, g5⟩
    · intro k hk
      rw [idxs_cons] at hk
      rcases List.mem_append.1 hk with hk | hk
      · exact (hp k hk).1
      · exact g2 k hk
    · intro hx
      rw [List.cons_append, idxs_cons] at hx
      rcases List.mem_append.1 hx with hk | hk
      · exact (hp i hk).2 rfl
      · exact g3 hk
    · intro x
      simp only [List.cons_append, idxs_cons, List.mem_append, g4 x]
      constructor
      · rintro (h | h | h)
        · exact .inr (.inl h)
        · exact .inl h
        · exact .inr (.inr h)
      · rintro (h | h | h)
        · exact .inr (.inl h)
        · exact .inl h
        · exact .inr (.inr h)
theorem okOrder_tail {L : List El} : ∀ {l : List El}, okOrder ops kd (l ++ L) = true → okOrder ops kd L = true
  | [], h => h
  | .one i :: l, h => by simp only [List.cons_append, okOrder, Bool.and_eq_true] at h; exact okOrder_tail h.2
  | .grp cs ns :: l, h => by rw [List.cons_append, grp_iff] at h; exact okOrder_tail h.2
theorem chain_reach {c i : Nat} {cs rest : List Nat} (h : okChain ops (c :: cs) rest = true) (hi : i ∈ cs) : reach ops ops.size i c = true := by
  simp only [okChain, Bool.and_eq_true, List.all_eq_true] at h
  exact h.1.2 i hi
theorem rem_of_mem {i : Nat} : ∀ {l : List El}, okOrder ops kd l = true → i ∈ idxs l → (∃ l1 e l2 r, l = l1 ++ e :: l2 ∧ Rem e i r) ∨ ∃ c ∈ idxs l, reach ops ops.size i c = true
  | [], _, h => by simp [idxs] at h
  | e :: l, hok, h => by
    rw [idxs_cons] at h
    rcases List.mem_append.1 h with h | h
    · cases e with
      | one j =>
        simp only [El.idx, List.mem_singleton] at h
        subst h
        exact .inl ⟨[], _, l, [], rfl, .one _⟩
      | grp cs ns =>
        simp only [El.idx] at h
        rcases List.mem_append.1 h with h | h
        · cases cs with
          | nil => cases h
          | cons c cs =>
            rcases List.mem_cons.1 h with rfl | h
            · exact .inl ⟨[], _, l, _, rfl, .call _ _ _⟩
            · right
              rw [grp_iff] at hok
              exact ⟨c, by rw [idxs_cons]; simp [El.idx], chain_reach hok.1.chain h⟩
        · exact .inl ⟨[], _, l, _, rfl, .make _ _ _ h⟩
    · have hok' : okOrder ops kd l = true := okOrder_tail (l := [e]) hok
      rcases rem_of_mem hok' h with ⟨l1, e', l2, r, rfl, hr⟩ | ⟨c, hc, hr⟩
      · exact .inl ⟨e :: l1, e', l2, r, rfl, hr⟩
      · exact .inr ⟨c, by rw [idxs_cons]; exact List.mem_append_right _ hc, hr⟩
/-- elements with nothing left in them -/
theorem ones_of {L : List El} : ∀ {l : List El}, okOrder ops kd (l ++ L) = true → (∀ k ∈ idxs l, kd k = .p ∨ kd k = .q) → ∀ {Q : Act → World → Prop} {a : Act} {w : World}, mixL P ops kd B Q (l ++ L) a w → mixL P ops kd B Q ((idxs l).map .one ++ L) a w
  | [], _, _, _, _, _, hm => hm
  | .one i :: l, h, hk, _, _, _, hm => by
    rw [idxs_cons]
    simp only [El.idx, List.cons_append, List.nil_append, List.map_cons]
    refine mix_cons (fun a w hm => ones_of (okOrder_tail (l := [.one i]) h) (fun k hkk => hk k (by rw [idxs_cons]; exact List.mem_append_right _ hkk)) hm) hm
  | .grp cs ns :: l, h, hk, _, _, _, hm => by
    rw [List.cons_append, grp_iff] at h
    have hnil : cs ++ ns = [] := by
      cases hx : cs ++ ns with
      | nil => rfl
      | cons i r =>
        exfalso
        have hi : i ∈ cs ++ ns := by rw [hx]; exact List.mem_cons_self
        rcases hk i (by rw [idxs_cons]; exact List.mem_append_left _ hi) with q | q <;> rw [h.1.ka i hi] at q <;> cases q
    obtain ⟨rfl, rfl⟩ := List.append_eq_nil_iff.1 hnil
    rw [idxs_cons]
    exact ones_of h.2 (fun k hkk => hk k (by rw [idxs_cons]; exact List.mem_append_right _ hkk)) hm.2.2
theorem ones_back {L : List El} : ∀ {l : List El}, okOrder ops kd (l ++ L) = true → (∀ k ∈ idxs l, kd k = .p ∨ kd k = .q) → ∀ {L' : List El} {Q : Act → World → Prop} {a : Act} {w : World}, mixL P ops kd B Q ((idxs l).map .one ++ L') a w → mixL P ops kd B Q (l ++ L') a w
  | [], _, _, _, _, _, _, hm => hm
  | .one i :: l, h, hk, _, _, _, _, hm => by
    rw [idxs_cons] at hm
    simp only [El.idx, List.cons_append, List.nil_append, List.map_cons] at hm
    refine mix_cons (fun a w hm => ones_back (okOrder_tail (l := [.one i]) h) (fun k hkk => hk k (by rw [idxs_cons]; exact List.mem_append_right _ hkk)) hm) hm
  | .grp cs ns :: l, h, hk, _, _, _, _, hm => by
    rw [List.cons_append, grp_iff] at h
    have hnil : cs ++ ns = [] := by
      cases hx : cs ++ ns with
      | nil => rfl
      | cons i r =>
        exfalso
        have hi : i ∈ cs ++ ns := by rw [hx]; exact List.mem_cons_self
        rcases hk i (by rw [idxs_cons]; exact List.mem_append_left _ hi) with q | q <;> rw [h.1.ka i hi] at q <;> cases q
    obtain ⟨rfl, rfl⟩ := List.append_eq_nil_iff.1 hnil
    rw [idxs_cons] at hm
    exact ⟨rfl, rfl, ones_back h.2 (fun k hkk => hk k (by rw [idxs_cons]; exact List.mem_append_right _ hkk)) hm⟩
theorem order_lt : ∀ {l : List El}, okOrder ops kd l = true → ∀ i ∈ idxs l, i < ops.size := by
  have pre : ∀ {j : Nat} {r : List Nat}, okPre ops j r = true → j < ops.size := by
    intro j r h
    unfold okPre at h
    split at h
    · rename_i o ho; exact (Array.getElem?_eq_some_iff.1 ho).1
    · cases h
  have ng : ∀ {j : Nat}, noGuard ops j = true → j < ops.size := by
    intro j h
    unfold noGuard at h
    split at h
    · rename_i o ho; exact (Array.getElem?_eq_some_iff.1 ho).1
    · cases h
  intro l
  induction l with
  | nil => intro _ i hi; simp [idxs] at hi
  | cons e l ih =>
    intro h i hi
    rw [idxs_cons] at hi
    cases e with
    | one j =>
      simp only [okOrder, Bool.and_eq_true] at h
      obtain ⟨⟨⟨⟨⟨_, h2⟩, _⟩, _⟩, _⟩, h6⟩ := h
      rcases List.mem_append.1 hi with hi | hi
      · simp only [El.idx, List.mem_singleton] at hi; subst hi; exact pre h2
      · exact ih h6 i hi
    | grp cs ns =>
      rw [grp_iff] at h
      rcases List.mem_append.1 hi with hi | hi
      · exact ng (h.1.ng i hi)
      · exact ih h.2 i hi
/-- there is always one that may come next -/
theorem some_ready {listed : Array Bool} (hsz : listed.size = ops.size) : ∀ {l : List El} (_ : okOrder ops kd l = true) (rest : List Nat) (_ : ∀ i, i ∈ rest ↔ i < ops.size ∧ listed.getD i true = false) (_ : ∀ x, x ∈ rest ↔ x ∈ idxs l) (_ : idxs l ≠ []), ∃ i0, i0 ∈ Region.ready .any ops listed
  | [], _, _, _, _, hne => (hne rfl).elim
  | .one j :: l, hok, rest, hl, hrest, _ => by
    simp only [okOrder, Bool.and_eq_true] at hok
    obtain ⟨⟨⟨⟨⟨_, h2⟩, _⟩, _⟩, _⟩, _⟩ := hok
    exact ⟨j, ready_of hsz hl ((hrest j).2 (by rw [idxs_cons]; simp [El.idx])) (okPre_mono h2 fun x hx => by have := (hrest x).1 hx; rw [idxs_cons] at this; exact this)⟩
  | .grp [] [] :: l, hok, rest, hl, hrest, hne => by
    rw [grp_iff] at hok
    exact some_ready hsz hok.2 rest hl (fun x => by rw [hrest x, idxs_cons]; rfl) hne
  | .grp (c :: cs) ns :: l, hok, rest, hl, hrest, _ => by
    rw [grp_iff] at hok
    have hc := hok.1.chain
    simp only [okChain, Bool.and_eq_true] at hc
    exact ⟨c, ready_of hsz hl ((hrest c).2 (by rw [idxs_cons]; simp [El.idx])) (okPre_mono hc.1.1 fun x hx => by have := (hrest x).1 hx; rw [idxs_cons] at this; simpa [El.idx] using this)⟩
  | .grp [] (n :: ns) :: l, hok, rest, hl, hrest, _ => by
    rw [grp_iff] at hok
    exact ⟨n, ready_of hsz hl ((hrest n).2 (by rw [idxs_cons]; simp [El.idx])) (okPre_mono (hok.1.pre n List.mem_cons_self) fun x hx => by have := (hrest x).1 hx; rw [idxs_cons] at this; simpa [El.idx] using this)⟩
theorem nothing_left {Q : Act → World → Prop} : ∀ {l : List El}, idxs l = [] → ∀ {a : Act} {w : World}, mixL P ops kd B Q l a w → ∀ w', Ext w w' → Q a w'
  | [], _, _, _, hm => hm
  | .one i :: l, h, _, _, _ => by rw [idxs_cons] at h; simp [El.idx] at h
  | .grp cs ns :: l, h, _, _, hm => by
    rw [idxs_cons] at h
    obtain ⟨h1, h2⟩ := List.append_eq_nil_iff.1 h
    obtain ⟨rfl, rfl⟩ := List.append_eq_nil_iff.1 h1
    exact nothing_left h2 hm.2.2
theorem apart_symm {x y : Oper} (h : x.apart ops y = true) : y.apart ops x = true := by
  obtain ⟨h1, h2, h3⟩ := Oper.apart_spec h
  unfold Oper.apart
  rw [Bool.and_eq_true]
  constructor
  · split
    · rename_i d hd
      have a1 := h3 d hd
      have a2 := h2
      simp only [Bool.and_eq_true, Bool.not_eq_true', bne_iff_ne, ne_eq, List.contains_eq_mem, decide_eq_false_iff_not]
      exact ⟨a1, fun e => a2 d e hd⟩
    · rfl
  · split
    · rename_i d hd
      have a1 := h1 d hd
      simp only [Bool.not_eq_true', List.contains_eq_mem, decide_eq_false_iff_not]
      exact a1
    · rfl
theorem stOp_ex {o : Oper} {a : Act} {w : World} {K : Value → World → Prop} (h : stOp P o a w K) : ∃ x w', K x w' := by
  unfold stOp at h
  split at h
  · exact ⟨_, _, h⟩
  · exact ⟨_, _, h⟩
  · obtain ⟨e, w', fr, ⟨x, _, hk⟩, _⟩ := h []
    exact ⟨x, w', hk⟩
  · exact h.elim
theorem plain_noenter {o : Oper} (hp : plainOp o.op = true) (ρ : Operand → Value) (w : World) (f : FuncId) (args : Array Value) (w' : World) : (execOp ρ o).run P w ≠ .ok (.enter f args) w' := by
  have key : ∀ (s : Sem Value), (do pure (Next.value (← s)) : Sem Next).run P w ≠ .ok (.enter f args) w' := by
    intro s h
    simp only [Sem.run_bind, Sem.run_pure] at h
    cases hr : s.run P w <;> rw [hr] at h <;> simp [Result.andThen] at h
  intro h
  unfold execOp at h
  cases hop : o.op <;> rw [hop] at hp h <;> simp only [plainOp] at hp <;> first | (cases hp; done) | skip
  all_goals first
    | exact key _ h
    | (simp at h; done)
    | (simp only [Sem.run_bind, Sem.run_pure] at h
       generalize Sem.run P (asBool _) w = r at h
       cases r <;> simp [Result.andThen] at h)
theorem p_det {o : Oper} (hp : plainOp o.op = true) {a : Act} {v v' : Value} (h : ∀ w', stOp P o a w' fun x w'' => x = v ∧ w'' = w') (h' : ∀ w', stOp P o a w' fun x w'' => x = v' ∧ w'' = w') (w : World) : v = v' := by
  have h1 := h w
  have h2 := h' w
  unfold stOp at h1 h2
  split at h1
  · rename_i e
    rw [e] at h2
    exact h1.1.symm.trans h2.1
  · rename_i e
    rw [e] at h2
    exact h1.1.symm.trans h2.1
  · rename_i e
    exact (plain_noenter hp _ _ _ _ _ e).elim
  · exact h1.elim
theorem grp_mono {K K' : Act → World → Prop} (hK : ∀ a w, K a w → K' a w) : ∀ (f : Nat) {cs ns : List Nat} {a : Act} {w : World}, grpL P ops K f cs ns a w → grpL P ops K' f cs ns a w
  | 0, _, _, _, _, ⟨h1, h2, h3⟩ => ⟨h1, h2, hK _ _ h3⟩
  | f + 1, _, _, _, _, ⟨h1, h2⟩ => ⟨fun c cs' e => by
      obtain ⟨o, ho, hh⟩ := h1 c cs' e
      exact ⟨o, ho, fun w' hw' => st_mono (hh w' hw') fun x w'' ⟨e1, e2⟩ => ⟨e1, grp_mono hK f e2⟩⟩, fun n hn => by
      obtain ⟨o, ho, hh⟩ := h2 n hn
      exact ⟨o, ho, fun w' hw' => st_mono (hh w' hw') fun x w'' ⟨e1, e2⟩ => ⟨e1, grp_mono hK f e2⟩⟩⟩

/-- such an operation, ahead of a group -/
theorem mix_swapg {Q : Act → World → Prop} {i : Nat} {oi : Oper} {l : List El} (hi : ops[i]? = some oi) (hg : oi.guard = none) (hp : plainOp oi.op = true) (hk : kd i = .p) (hsel : ∀ (k : Nat) (o : Oper) cs b, ops[k]? = some o → o.op ≠ .select cs b) : ∀ (f : Nat) (cs ns : List Nat) (a : Act) (w : World), cs.length + ns.length = f →
    (∀ k ∈ cs ++ ns, ∀ o, ops[k]? = some o → oi.apart ops o = true) → grpL P ops (mixL P ops kd B Q (.one i :: l)) f cs ns a w → ∃ v, (∀ w', stOp P oi a w' fun x w'' => x = v ∧ w'' = w') ∧ grpL P ops (mixL P ops kd B Q l) f cs ns (a.put oi.dst v) w
  | 0, cs, ns, a, w, hf, hap, ⟨h1, h2, o, ho, h3⟩ => by
    rw [hi] at ho; cases ho
    rw [if_pos (by simp [Region.wanted, hg]), hk] at h3
    obtain ⟨v, g1, g2⟩ := h3
    exact ⟨v, g1, h1, h2, g2⟩
  | f + 1, cs, ns, a, w, hf, hap, ⟨h1, h2⟩ => by
    have step : ∀ (k : Nat) (cs' ns' : List Nat) (o : Oper), k ∈ cs ++ ns → ops[k]? = some o → cs'.length + ns'.length = f → (∀ x ∈ cs' ++ ns', x ∈ cs ++ ns) → (∀ w', Ext w w' → stOp P o a w' fun x w'' => Ext w' w'' ∧ grpL P ops (mixL P ops kd B Q (.one i :: l)) f cs' ns' (a.put o.dst x) w'') →
        (∃ v, ∀ w', stOp P oi a w' fun x w'' => x = v ∧ w'' = w') ∧ ∀ v, (∀ w', stOp P oi a w' fun x w'' => x = v ∧ w'' = w') → ∀ w', Ext w w' → stOp P o (a.put oi.dst v) w' fun x w'' => Ext w' w'' ∧ grpL P ops (mixL P ops kd B Q l) f cs' ns' ((a.put oi.dst v).put o.dst x) w'' := by
      intro k cs' ns' o hkm ho hlen hsub hh
      have hapo := hap k hkm o ho
      obtain ⟨p1, p2, p3⟩ := Oper.apart_spec hapo
      have ih := fun (x : Value) (w'' : World) (h : grpL P ops (mixL P ops kd B Q (.one i :: l)) f cs' ns' (a.put o.dst x) w'') => mix_swapg hi hg hp hk hsel f cs' ns' (a.put o.dst x) w'' hlen (fun k hk o ho => hap k (hsub k hk) o ho) h
      have back : ∀ (x v : Value), (∀ w', stOp P oi (a.put o.dst x) w' fun y w'' => y = v ∧ w'' = w') → ∀ w', stOp P oi a w' fun y w'' => y = v ∧ w'' = w' := fun x v h w' =>
        st_congr (execOp_put oi (fun cs b => hsel i oi cs b hi) a o.dst x p3).symm (h w')
      refine ⟨?_, fun v hv w' hw' => ?_⟩
      · obtain ⟨x, w'', _, h3⟩ := stOp_ex (hh w (Below.refl _ _))
        obtain ⟨v, g1, _⟩ := ih x w'' h3
        exact ⟨v, back x v g1⟩
      · refine st_congr (execOp_put o (fun cs b => hsel k o cs b ho) a oi.dst v p1) (st_mono (hh w' hw') fun x w'' ⟨e1, h3⟩ => ⟨e1, ?_⟩)
        obtain ⟨v', g1, g2⟩ := ih x w'' h3
        have := p_det hp hv (back x v' g1) w
        subst this
        rw [Act.put_comm a v x p2]
        exact g2
    have hc : ∀ c cs', cs = c :: cs' → ∃ o, ops[c]? = some o ∧ _ := fun c cs' e => by
      obtain ⟨o, ho, hh⟩ := h1 c cs' e
      exact ⟨o, ho, step c cs' ns o (by rw [e]; simp) ho (by rw [e] at hf; simp at hf; omega) (fun x hx => by rw [e]; exact List.mem_cons_of_mem _ hx) hh⟩
    have hn : ∀ n ∈ ns, ∃ o, ops[n]? = some o ∧ _ := fun n hn => by
      obtain ⟨o, ho, hh⟩ := h2 n hn
      have := List.length_erase_of_mem hn
      have h0 : 0 < ns.length := List.length_pos_of_mem hn
      exact ⟨o, ho, step n cs (ns.erase n) o (List.mem_append_right _ hn) ho (by omega) (fun x hx => by
        rcases List.mem_append.1 hx with q | q
        · exact List.mem_append_left _ q
        · exact List.mem_append_right _ (List.mem_of_mem_erase q)) hh⟩
    have hv : ∃ v, ∀ w', stOp P oi a w' fun x w'' => x = v ∧ w'' = w' := by
      cases cs with
      | cons c cs' => obtain ⟨o, ho, g1, _⟩ := hc c cs' rfl; exact g1
      | nil =>
        cases ns with
        | cons n ns' => obtain ⟨o, ho, g1, _⟩ := hn n List.mem_cons_self; exact g1
        | nil => simp at hf
    obtain ⟨v, hv⟩ := hv
    refine ⟨v, hv, fun c cs' e => ?_, fun n hn' => ?_⟩
    · obtain ⟨o, ho, _, g2⟩ := hc c cs' e
      exact ⟨o, ho, g2 v hv⟩
    · obtain ⟨o, ho, _, g2⟩ := hn n hn'
      exact ⟨o, ho, g2 v hv⟩
theorem mix_cons' {Q : Act → World → Prop} {e : El} {l l' : List El} (h : ∀ a w, mixL P ops kd B Q l a w → mixL P ops kd B Q l' a w) {a : Act} {w : World} (hm : mixL P ops kd B Q (e :: l) a w) : mixL P ops kd B Q (e :: l') a w := by
  cases e with
  | one i => exact mix_cons h hm
  | grp cs ns => exact grp_mono h _ hm
theorem mix_frontp {Q : Act → World → Prop} {i : Nat} {oi : Oper} (hi : ops[i]? = some oi) (hg : oi.guard = none) (hp : plainOp oi.op = true) (hk : kd i = .p) (hsel : ∀ (k : Nat) (o : Oper) cs b, ops[k]? = some o → o.op ≠ .select cs b) : ∀ (l1 l2 : List El),
    (∀ j ∈ idxs l1, ∃ oj, ops[j]? = some oj ∧ oi.apart ops oj = true) → (∀ j, .one j ∈ l1 → kd j = .p ∨ kd j = .q) → ∀ a w, mixL P ops kd B Q (l1 ++ .one i :: l2) a w → mixL P ops kd B Q (.one i :: (l1 ++ l2)) a w
  | [], _, _, _, _, _, h => h
  | .one j :: l1, l2, hq, ho, a, w, h => by
    obtain ⟨oj, h3, h4⟩ := hq j (by rw [idxs_cons]; simp [El.idx])
    have := mix_cons' (fun a w => mix_frontp hi hg hp hk hsel l1 l2 (fun j hj => hq j (by rw [idxs_cons]; exact List.mem_append_right _ hj)) (fun j hj => ho j (List.mem_cons_of_mem _ hj)) a w) h
    exact mix_swap hi h3 h4 hsel (ho j List.mem_cons_self) this
  | .grp cs ns :: l1, l2, hq, ho, a, w, h => by
    have := mix_cons' (fun a w => mix_frontp hi hg hp hk hsel l1 l2 (fun j hj => hq j (by rw [idxs_cons]; exact List.mem_append_right _ hj)) (fun j hj => ho j (List.mem_cons_of_mem _ hj)) a w) h
    obtain ⟨v, g1, g2⟩ := mix_swapg hi hg hp hk hsel _ cs ns a w rfl (fun k hk o hok => by
      obtain ⟨o', ho', hap⟩ := hq k (by rw [idxs_cons]; exact List.mem_append_left _ hk)
      rw [hok] at ho'; cases ho'
      exact hap) this
    refine ⟨oi, hi, ?_⟩
    rw [if_pos (by simp [Region.wanted, hg]), hk]
    exact ⟨v, g1, g2⟩
theorem wpAny_of_mix {Q : Act → World → Prop} {Q' : Exit → Act → World → Prop} (hQ : ∀ a w, Q a w → Q' .normal a w) (hsel : Region.noSelect ops = true) : ∀ (n : Nat) (l : List El) (listed : Array Bool) (a : Act) (w w' : World),
    (idxs l).length = n → Ext w w' → ((∃ i ∈ idxs l, kd i = .q ∨ kd i = .f) → Ext B w') → okOrder ops kd l = true → listed.size = ops.size → (∀ i, i ∈ idxs l ↔ i < ops.size ∧ listed.getD i true = false) → Closed ops listed → mixL P ops kd B Q l a w → wpAny P .any ops Q' n listed a w'
  | 0, l, listed, a, w, w', hn, hw, _, hok, hsz, hl, _, hm => by
    have hnil : idxs l = [] := List.eq_nil_of_length_eq_zero hn
    refine ⟨?_, hQ _ _ (nothing_left hnil hm w' hw)⟩
    rw [List.eq_nil_iff_forall_not_mem]
    intro i hi
    obtain ⟨h1, o, h2, _⟩ := mem_ready.1 hi
    have := (hl i).2 ⟨(Array.getElem?_eq_some_iff.1 h2).1, h1⟩
    rw [hnil] at this
    cases this
  | n + 1, l, listed, a, w, w', hn, hw, hB, hok, hsz, hl, hcl, hm => by
    constructor
    · intro hr
      exfalso
      obtain ⟨i0, h⟩ := some_ready hsz hok (idxs l) hl (fun _ => Iff.rfl) (fun e => by rw [e] at hn; simp at hn)
      rw [hr] at h
      cases h
    · intro i hi
      obtain ⟨hun, oi, hoi, hpre⟩ := mem_ready.1 hi
      have hmem : i ∈ idxs l := (hl i).2 ⟨(Array.getElem?_eq_some_iff.1 hoi).1, hun⟩
      have hunl : ∀ k ∈ idxs l, reach ops ops.size i k = false := by
        intro k hk
        have hkl := (hl k).1 hk
        cases hx : reach ops ops.size i k with
        | false => rfl
        | true =>
          exfalso
          have h4 := reach_listed hcl ops.size i k oi hoi hpre hx
          have hlt : k < listed.size := by rw [hsz]; exact hkl.1
          have h5 := hkl.2
          simp only [Array.getD, hlt, dif_pos] at h4 h5
          rw [h4] at h5
          cases h5
      obtain ⟨l1, e, l2, r, rfl, hrem⟩ := (rem_of_mem hok hmem).resolve_right (by rintro ⟨c, hc, hx⟩; rw [hunl c hc] at hx; cases hx)
      obtain ⟨g1, g2, g3, g4, g5⟩ := okOrder_rem hrem hok
      have hnr : ∀ k ∈ idxs l1, reach ops ops.size i k = false := fun k hk => hunl k (by rw [idxs_append]; exact List.mem_append_left _ hk)
      have hpq0 : ∀ k ∈ idxs l1, ((kd k = .p ∨ (kd k = .q ∧ kd i ≠ .w)) ∨ hoist ops kd i = true) ∧ ∃ ok, ops[k]? = some ok ∧ oi.apart ops ok = true := by
        intro k hk
        have h1 := g2 k hk
        unfold okPairG okPair at h1
        rw [hnr k hk, Bool.false_or, Bool.or_eq_true, Bool.and_eq_true, Bool.and_eq_true, Bool.and_eq_true] at h1
        have hx : apartB ops i k = true := by
          rcases h1 with h1 | h1
          · exact h1.1
          · exact h1.1.1
        refine ⟨?_, ?_⟩
        · rcases h1 with h1 | h1
          · left; simpa using h1.2
          · exact .inr h1.2
        · unfold apartB at hx
          rw [hoi] at hx
          split at hx
          · rename_i o1 o2 e1 e2
            cases e1
            exact ⟨_, e2, hx⟩
          · cases hx
      have hlen : (idxs (l1 ++ (r ++ l2))).length = n := by
        have hr1 : e.idx.length = (idxs r).length + 1 := by
          cases hrem with
          | one => simp [El.idx, idxs]
          | call => simp [El.idx, idxs]
          | make _ cs ns h =>
            have := List.length_erase_of_mem h
            have : 0 < ns.length := List.length_pos_of_mem h
            simp [El.idx, idxs]; omega
        rw [idxs_append, List.length_append, idxs_cons, List.length_append] at hn
        rw [idxs_append, idxs_append, List.length_append, List.length_append]
        omega
      have hilt : i < listed.size := by rw [hsz]; exact (Array.getElem?_eq_some_iff.1 hoi).1
      have hset : ∀ (k : Nat) (d : Bool), k ≠ i → (listed.setIfInBounds i true).getD k d = listed.getD k d := fun k d hne => by
        simp only [Array.getD_eq_getD_getElem?, Array.getElem?_setIfInBounds]
        rw [if_neg (fun e => hne e.symm)]
      have hseti : ∀ d : Bool, (listed.setIfInBounds i true).getD i d = true := fun d => by
        simp [Array.getD_eq_getD_getElem?, Array.getElem?_setIfInBounds, hilt]
      have hl' : ∀ k, k ∈ idxs (l1 ++ (r ++ l2)) ↔ k < ops.size ∧ (listed.setIfInBounds i true).getD k true = false := by
        intro k
        by_cases hki : k = i
        · subst hki
          rw [hseti]
          simp [g3]
        · rw [hset k true hki, ← hl k, g4 k]
          simp [hki]
      have hcl' : Closed ops (listed.setIfInBounds i true) := by
        intro k o hk hlk e he hb
        have up : listed.getD e.on false = true → (listed.setIfInBounds i true).getD e.on false = true := fun h => by
          by_cases hei : e.on = i
          · rw [hei]; exact hseti _
          · rw [hset _ _ hei]; exact h
        by_cases hki : k = i
        · subst hki
          rw [hoi] at hk
          cases hk
          exact up (hpre e he hb)
        · rw [hset k true hki] at hlk
          exact up (hcl k o hk hlk e he hb)
      have hsubq : (∃ k ∈ idxs (l1 ++ (r ++ l2)), kd k = .q ∨ kd k = .f) → ∃ k ∈ idxs (l1 ++ e :: l2), kd k = .q ∨ kd k = .f := fun ⟨k, hk, h⟩ => ⟨k, (g4 k).2 (.inr hk), h⟩
      have ih := fun (a : Act) (w w' : World) (h1 : Ext w w') (h2 : (∃ k ∈ idxs (l1 ++ (r ++ l2)), kd k = .q ∨ kd k = .f) → Ext B w') (h3 : mixL P ops kd B Q (l1 ++ (r ++ l2)) a w) => wpAny_of_mix hQ hsel n (l1 ++ (r ++ l2)) (listed.setIfInBounds i true) a w w' hlen h1 h2 g1 (by simp [hsz]) hl' hcl' h3
      by_cases hh : hoist ops kd i = true
      · unfold hoist at hh
        rw [hoi] at hh
        simp only [Bool.and_eq_true, decide_eq_true_eq, Option.isNone_iff_eq_none] at hh
        obtain ⟨hki, hgi, hpi⟩ := hh
        have hone : e = .one i ∧ r = [] := by
          have hg := okOrder_tail hok
          cases hrem with
          | one => exact ⟨rfl, rfl⟩
          | call _ cs ns => rw [(grp_iff.1 hg).1.ka i List.mem_cons_self] at hki; cases hki
          | make _ cs ns h => rw [(grp_iff.1 hg).1.ka i (List.mem_append_right _ h)] at hki; cases hki
        obtain ⟨rfl, rfl⟩ := hone
        have hones : ∀ j, El.one j ∈ l1 → kd j = .p ∨ kd j = .q := by
          intro j hj
          obtain ⟨x, y, hxy⟩ := List.append_of_mem hj
          rw [hxy, List.append_assoc] at hok
          have h2 := okOrder_tail hok
          simp only [List.cons_append, okOrder, Bool.and_eq_true] at h2
          obtain ⟨⟨⟨⟨⟨h2, _⟩, _⟩, _⟩, _⟩, _⟩ := h2
          rw [List.all_eq_true] at h2
          have h3 := h2 i (by rw [idxs_append, idxs_cons]; simp [El.idx])
          unfold okPair at h3
          rw [hnr j (by rw [hxy, idxs_append, idxs_cons]; simp [El.idx]), Bool.false_or, Bool.and_eq_true] at h3
          have h4 := h3.2
          simp only [Bool.or_eq_true, Bool.and_eq_true, decide_eq_true_eq] at h4
          rcases h4 with h4 | h4
          · exact .inl h4
          · exact .inr h4.1
        have hm' := mix_frontp hoi hgi hpi hki (Region.noSelect_spec hsel) l1 l2 (fun k hk => (hpq0 k hk).2) hones a w hm
        obtain ⟨o', ho', hm'⟩ := hm'
        rw [hoi] at ho'
        cases ho'
        rw [if_pos (by simp [Region.wanted, hgi]), hki] at hm'
        obtain ⟨v, h1, h2⟩ := hm'
        unfold wpOp
        simp only [hoi]
        rw [if_pos (by simp [Region.wanted, hgi])]
        refine .inl (wp_of_st (h1 w') ?_)
        rintro x w'' ⟨hx1, hx2⟩
        subst hx1; subst hx2
        exact ih _ w _ hw (fun h => hB (hsubq h)) h2
      have hpq : ∀ k ∈ idxs l1, (kd k = .p ∨ (kd k = .q ∧ kd i ≠ .w)) ∧ ∃ ok, ops[k]? = some ok ∧ oi.apart ops ok = true := fun k hk => ⟨(hpq0 k hk).1.resolve_right hh, (hpq0 k hk).2⟩
      have hpq' : ∀ k ∈ idxs l1, kd k = .p ∨ kd k = .q := fun k hk => by
        rcases (hpq k hk).1 with q | q
        · exact .inl q
        · exact .inr q.1
      have hm1 := ones_of hok hpq' hm
      have grp : ∀ (cs ns cs' ns' : List Nat), e = .grp cs ns → r = [.grp cs' ns'] → i ∈ cs ++ ns → ((cs = i :: cs' ∧ ns' = ns) ∨ (i ∈ ns ∧ cs' = cs ∧ ns' = ns.erase i)) → wpOp P ops Q' i (wpAny P .any ops Q' n (listed.setIfInBounds i true)) a w' := by
        intro cs ns cs' ns' he hr hin hcase
        subst he
        have hg := (grp_iff.1 (okOrder_tail hok)).1
        have hx := mix_execg hoi (Region.noSelect_spec hsel) hcase (idxs l1) l2 (fun k hk => ⟨hpq' k hk, (hpq k hk).2⟩) a w hm1 w' hw
        unfold wpOp
        simp only [hoi]
        rw [if_pos (by simp [Region.wanted, noGuard_of (hg.ng i hin) hoi])]
        refine .inl (wp_of_st hx ?_)
        rintro x w'' ⟨h3, h4⟩
        refine ih _ w'' w'' (Below.refl _ _) (fun h => (hB (hsubq h)).trans h3) ?_
        rw [hr]
        exact ones_back hok hpq' h4
      cases hrem with
      | call _ cs ns => exact grp _ _ _ _ rfl rfl List.mem_cons_self (.inl ⟨rfl, rfl⟩)
      | make _ cs ns h => exact grp _ _ _ _ rfl rfl (List.mem_append_right _ h) (.inr ⟨h, rfl, rfl⟩)
      | one =>
        have hm' := mix_front hoi (Region.noSelect_spec hsel) (idxs l1) l2 (fun k hk => ⟨hpq' k hk, (hpq k hk).2⟩) a w hm1
        obtain ⟨o', ho', hm'⟩ := hm'
        have shut : ∀ {a : Act} {w : World}, mixL P ops kd B Q ((idxs l1).map .one ++ l2) a w → mixL P ops kd B Q (l1 ++ ([] ++ l2)) a w := fun h => ones_back hok hpq' h
        rw [hoi] at ho'
        cases ho'
        unfold wpOp
        simp only [hoi]
        split
        · rename_i hwn
          rw [if_pos hwn] at hm'
          refine .inl ?_
          cases hk : kd i with
          | p =>
            rw [hk] at hm'
            obtain ⟨v, h1, h2⟩ := hm'
            refine wp_of_st (h1 w') ?_
            rintro x w'' ⟨rfl, rfl⟩
            exact ih _ w w'' hw (fun h => hB (hsubq h)) (shut h2)
          | q =>
            rw [hk] at hm'
            obtain ⟨v, h1, h2⟩ := hm'
            have hb := hB ⟨i, hmem, .inl hk⟩
            refine wp_of_st (h1 w' hb) ?_
            rintro x w'' ⟨rfl, h3⟩
            exact ih _ w w'' (hw.trans h3) (fun _ => hb.trans h3) (shut h2)
          | a =>
            rw [hk] at hm'
            refine wp_of_st (hm' w' hw) ?_
            rintro x w'' ⟨h3, h4⟩
            exact ih _ w'' w'' (Below.refl _ _) (fun h => (hB (hsubq h)).trans h3) (shut h4)
          | f =>
            rw [hk] at hm'
            refine wp_of_st (hm' w' hw (hB ⟨i, hmem, .inr hk⟩)) ?_
            rintro x w'' ⟨h3, h4⟩
            exact ih _ w'' w'' (Below.refl _ _) (fun _ => h3) (shut h4)
          | w =>
            rw [hk] at hm'
            refine wp_of_st (hm' w' hw) ?_
            intro x w'' h4
            obtain ⟨q2, q3, _⟩ := g5 hk
            refine ih _ w'' w'' (Below.refl _ _) ?_ (shut h4)
            rintro ⟨k, hkk, hkq⟩
            exfalso
            rw [List.nil_append, idxs_append] at hkk
            rcases List.mem_append.1 hkk with hkk | hkk
            · have hp : kd k = .p := by
                rcases (hpq k hkk).1 with q | q
                · exact q
                · exact (q.2 hk).elim
              rcases hkq with h | h <;> rw [hp] at h <;> cases h
            · unfold noQ at q2
              unfold noF at q3
              rw [List.all_eq_true] at q2 q3
              have a2 := q2 k hkk
              have a3 := q3 k hkk
              rcases hkq with h | h
              · simp [h] at a2
              · simp [h] at a3
        · rename_i hwn
          rw [if_neg hwn] at hm'
          exact ih _ w w' hw (fun h => hB (hsubq h)) (shut hm')

/-- ONE WALK IN AN ORDER OF OUR CHOICE SERVES EVERY ORDER -/
theorem wp_region_mix {id : Nat} {l : List Oper} {Q : Exit → Act → World → Prop} {a : Act} {w : World} (order : List El) (hm : P.follows .mixedOrders = true) (hok : okMix l.toArray kd order = true)
    (h : mixL P l.toArray kd w (fun a w => Q .normal a w) order a w) : (Code.region id l.toArray true).wp P Q a w := by
  simp only [okMix, Bool.and_eq_true, beq_iff_eq] at hok
  obtain ⟨⟨⟨h1, h2⟩, h3⟩, h4⟩ := hok
  refine wp_region_any hm ?_
  rw [← h2]
  refine wpAny_of_mix (fun _ _ h => h) h4 (idxs order).length order (Array.replicate (idxs order).length false) a w _ rfl (Below.drew (Below.refl _ _)) (fun _ => Below.drew (Below.refl _ _)) h1 (by simpa using h2) ?_ ?_ h
  · intro i
    constructor
    · intro hi
      have h5 : i < l.toArray.size := order_lt h1 i hi
      exact ⟨h5, by have h6 : i < l.length := by simpa using h5
                    simp [Array.getD, h2, h6]⟩
    · rintro ⟨hi, _⟩
      rw [List.all_eq_true] at h3
      simpa using h3 i (List.mem_range.2 hi)
  · intro k o hk hlk
    have : k < l.toArray.size := (Array.getElem?_eq_some_iff.1 hk).1
    rw [h2] at hlk
    have h6 : k < l.length := by simpa using this
    have h7 : (Array.replicate l.toArray.size false).getD k true = false := by simp [Array.getD, h6]
    rw [h7] at hlk
    exact absurd hlk (by simp)
end
end Go.Proofs.Yteogokmbedmkjaa
