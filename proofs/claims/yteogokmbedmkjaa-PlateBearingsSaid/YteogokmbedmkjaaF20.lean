import Derived.Test.YteogokmbedmkjaaF19
/- regions that draw their order, in the plain reading -/
namespace Go.Proofs.Yteogokmbedmkjaa
open Go.RowKit

/-- it gives one value in every world, or none at all -/
def Rd (P : Program) {α : Type} (s : Sem α) : Prop := (∃ x, ∀ w, s.run P w = .ok x w) ∨ ∀ w x w1, s.run P w ≠ .ok x w1
section
variable {P : Program}
theorem Rd.pure {α : Type} (x : α) : Rd P (Pure.pure x : Sem α) := .inl ⟨x, fun _ => rfl⟩
theorem Rd.halt {α : Type} (h : Halt) : Rd P (Sem.halt h : Sem α) := .inr fun w x w1 e => by cases e
theorem Rd.bind {α β : Type} {s : Sem α} {f : α → Sem β} (h : Rd P s) (k : ∀ x, Rd P (f x)) : Rd P (s >>= f) := by
  rcases h with ⟨x, h⟩ | h
  · rcases k x with ⟨y, k⟩ | k
    · exact .inl ⟨y, fun w => by rw [Sem.run_bind, h]; exact k w⟩
    · exact .inr fun w y w1 => by rw [Sem.run_bind, h]; exact k w y w1
  · refine .inr fun w y w1 => ?_
    rw [Sem.run_bind]
    cases hs : s.run P w with
    | ok a w2 => exact absurd hs (h w a w2)
    | halt e w2 => intro q; cases q
theorem Rd.program : Rd P program := .inl ⟨P, fun _ => rfl⟩
theorem Rd.underlying (t : TypeId) : Rd P (underlying t) := by
  unfold Go.underlying
  refine Rd.program.bind fun p => ?_
  split
  · exact .pure _
  · exact .halt _
theorem Rd.typeInfo (t : TypeId) : Rd P (typeInfo t) := by
  unfold Go.typeInfo
  refine Rd.program.bind fun p => ?_
  split
  · exact .pure _
  · exact .halt _
theorem Rd.sizeOf (t : TypeId) : Rd P (Go.sizeOf t) := (Rd.typeInfo t).bind fun _ => .pure _
theorem Rd.isAgg (t : TypeId) : Rd P (isAgg t) := by
  unfold Go.isAgg
  refine (Rd.underlying t).bind fun p => ?_
  split <;> exact .pure _
theorem Rd.part (t : TypeId) (cs : Array Value) (o : Nat) : Rd P (part t cs o) := by
  unfold Go.part
  refine (Rd.isAgg t).bind fun b => ?_
  split
  · exact (Rd.sizeOf t).bind fun _ => .pure _
  · split
    · exact .pure _
    · exact .halt _
theorem Rd.boundsPanic {α : Type} (k : IntKind) (x y : Int) (c : BoundsCode) : Rd P (boundsPanic k x y c : Sem α) := by
  refine .inr fun w v w1 => ?_
  have key : ∀ (b : Bool) w2, (runtimePanic (.bounds (IntKind.i64.wrap x) y b c) : Sem α).run P w2 ≠ .ok v w1 := by
    intro b w2 e
    cases e
  unfold Go.boundsPanic
  dsimp only
  split
  · rw [Sem.run_bind]
    cases Sem.run P _ w with
    | ok b w2 => exact key b w2
    | halt e w2 => intro q; cases q
  · exact key _ _
theorem Rd.asIntOf (v : Value) : Rd P (asIntOf v) := by
  unfold Go.asIntOf; split <;> first | exact .pure _ | exact .halt _
theorem Rd.asBool (v : Value) : Rd P (asBool v) := by
  unfold Go.asBool; split <;> first | exact .pure _ | exact .halt _
theorem Rd.asAgg (v : Value) : Rd P (asAgg v) := by
  unfold Go.asAgg; split <;> first | exact .pure _ | exact .halt _
theorem Rd.sureAddr (v : Value) : Rd P (Instr.sureAddr v) := by
  unfold Instr.sureAddr; split <;> first | exact .pure _ | exact .halt _

def isRd : Op → Bool
  | .move _ | .assign _ | .pick .. | .extract .. | .fieldAddr .. | .field .. | .indexAddr .. | .index .. | .makeFunc .. => true
  | _ => false

theorem rd_op {t : List (Nat × V)} {m : Mem} {o : Oper} (hr : isRd o.op = true) {r : Prop × V × Mem} (h : evA P t m o.op = some r) (ρ : Operand → Value) : Rd P (execOp ρ o) := by
  have V1 : ∀ {s : Sem Value}, Rd P s → Rd P (do pure (Next.value (← s)) : Sem Next) := fun h => h.bind fun _ => .pure _
  unfold execOp
  cases ho : o.op <;> rw [ho] at hr h <;> try (cases hr; done)
  case move x => exact .pure _
  case assign x => exact .pure _
  case pick c a b => exact (Rd.asBool _).bind fun _ => .pure _
  case extract x i =>
    refine V1 ?_
    unfold Instr.extract
    split
    · split
      · exact .pure _
      · exact .halt _
    · exact .halt _
  case fieldAddr T x j =>
    refine V1 ?_
    simp only [evA, evOp] at h
    have hf : ∃ off ft, fdT P T j = some (off, ft) := by
      split at h
      · rename_i off ft _ _ hf _; exact ⟨_, _, hf⟩
      · rename_i off ft _ _ _ hf _; exact ⟨_, _, hf⟩
      · cases h
    obtain ⟨off, ft, hf⟩ := hf
    obtain ⟨fs, f, h1, h2, h3, h4, h5⟩ := fdT_spec hf
    subst h3; subst h4
    have hne : ¬ szT P f.type = 0 := by omega
    rcases Rd.sureAddr (P := P) (ρ x) with ⟨a, ha⟩ | ha
    · refine .inl ⟨.pointer (some (a.add f.offset)), fun w => ?_⟩
      simp only [Instr.fieldAt, Sem.run_bind, run_underlying h1, Result.andThen_ok, h2, ha, Sem.run_pure, fieldPlace, run_sizeOf h5, if_neg hne]
    · refine .inr fun w y w1 => ?_
      simp only [Instr.fieldAt, Sem.run_bind, run_underlying h1, Result.andThen_ok, h2]
      cases hs : (Instr.sureAddr (ρ x)).run P w with
      | ok a w2 => exact absurd hs (ha w a w2)
      | halt e w2 => intro q; cases q
  case field T x j =>
    refine V1 ?_
    unfold Instr.field
    refine (Rd.underlying T).bind fun d => ?_
    split
    · split
      · exact (Rd.asAgg _).bind fun _ => Rd.part _ _ _
      · exact .halt _
    · exact .halt _
  case indexAddr T x ix =>
    refine V1 ?_
    unfold Instr.indexAt
    refine (Rd.asIntOf _).bind fun q => ?_
    obtain ⟨k, i⟩ := q
    refine (Rd.underlying T).bind fun d => ?_
    have jp : ∀ q : Option Addr × Nat × TypeId, Rd P (match q with
      | (base, len, elem) => do
        let u ← underlying T
        let tiny := decide (len ≤ 1) && (match u with | .array .. => true | _ => false)
        match base with
        | some a =>
          if 0 ≤ i ∧ i < (len : Int) then Pure.pure (Value.pointer (some (a.add (i.toNat * (← Go.sizeOf elem)))))
          else if tiny = true then unsupported (.noEntry "op/indexAddr.an index out of range at an array of length 0 or 1 (ledger 616)") else Go.boundsPanic k i len .index
        | none => Go.boundsPanic k i 0 .index : Sem Value) := by
      rintro ⟨base, len, elem⟩
      refine (Rd.underlying T).bind fun u => ?_
      dsimp only
      split
      · split
        · exact (Rd.sizeOf _).bind fun _ => .pure _
        · split
          · split
            · exact .halt _
            · exact Rd.boundsPanic _ _ _ _
          · split
            · exact .halt _
            · exact Rd.boundsPanic _ _ _ _
      · exact Rd.boundsPanic _ _ _ _
    dsimp only
    split
    · exact (Rd.sureAddr _).bind fun _ => Rd.bind (.pure _) fun q => jp q
    · exact Rd.bind (.pure _) fun q => jp q
    · exact Rd.bind (.halt _) fun q => jp q
  case index T x ix =>
    refine V1 ?_
    unfold Instr.index
    refine (Rd.asIntOf _).bind fun q => ?_
    obtain ⟨k, i⟩ := q
    refine (Rd.underlying T).bind fun d => ?_
    split
    · split
      · exact (Rd.sizeOf _).bind fun _ => Rd.part _ _ _
      · exact Rd.boundsPanic _ _ _ _
    · split
      · exact .pure _
      · exact Rd.boundsPanic _ _ _ _
    · exact .halt _
  case makeFunc fn f c => exact V1 (.pure _)
end

mutual
/-- one value alone is so read -/
def V.det : V → Bool
  | .agg cs => detL cs
  | .tup cs => detL cs
  | .lst _ => false
  | .bp _ _ => false
  | .ptr _ _ _ => false
  | .sl _ _ => false
  | .mp _ => false
  | .clo _ _ _ => false
  | .any => false
  | _ => true
def detL : List V → Bool
  | [] => true
  | v :: r => v.det && detL r
end
theorem detL_mem {l : List V} (h : detL l = true) : ∀ v ∈ l, v.det = true := by
  induction l with
  | nil => intro v hv; cases hv
  | cons a l ih =>
    simp only [detL, Bool.and_eq_true] at h
    intro v hv
    rcases List.mem_cons.1 hv with rfl | hv
    · exact h.1
    · exact ih h.2 v hv
theorem det_eq {w w' : World} {ρ : List Re} {B B' : Nat → Prop} {v : V} {x y : Value} (h : RelV w ρ B v x) (hp : v.det = true) (k : RelV w' ρ B' v y) : y = x := by
  induction h generalizing y with
  | any x => simp [V.det] at hp
  | str s b h => cases k with | str _ b' h' => exact congrArg Value.string (ByteArray.ext (Array.toList_inj.1 (h'.trans h.symm)))
  | agg cs xs hl _ ih =>
    simp only [V.det] at hp
    cases k with
    | agg _ ys hl' h' =>
      have : ys = xs := by
        apply Array.ext (by omega)
        intro i h1 h2
        exact ih i cs[i] xs[i] (List.getElem?_eq_getElem (by omega)) (by simp [h2]) (detL_mem hp _ (List.getElem_mem _)) (h' i cs[i] ys[i] (List.getElem?_eq_getElem (by omega)) (by simp [h1]))
      rw [this]
  | tup cs xs hl _ ih =>
    simp only [V.det] at hp
    cases k with
    | tup _ ys hl' h' =>
      have : ys = xs := by
        apply Array.ext (by omega)
        intro i h1 h2
        exact ih i cs[i] xs[i] (List.getElem?_eq_getElem (by omega)) (by simp [h2]) (detL_mem hp _ (List.getElem_mem _)) (h' i cs[i] ys[i] (List.getElem?_eq_getElem (by omega)) (by simp [h1]))
      rw [this]
  | lst => simp [V.det] at hp
  | lnil => simp [V.det] at hp
  | bp => simp [V.det] at hp
  | clo => simp [V.det] at hp
  | ptr b i o r hr => simp [V.det] at hp
  | sl b n r hr hn hm => simp [V.det] at hp
  | mp b r hr => simp [V.det] at hp
  | _ => cases k; rfl
mutual
/-- .. and this one is -/
def V.real : V → Value
  | .int k n => .int k n
  | .bool b => .bool b
  | .str s => .string ⟨s.toArray⟩
  | .nilptr => .pointer none
  | .nilsl => .slice none 0 0
  | .nilmap => .map none
  | .nilfn => .nilFunc
  | .nilif => .nilIface
  | .agg cs => .agg (realL cs).toArray
  | .tup cs => .tuple (realL cs).toArray
  | _ => undef
def realL : List V → List Value
  | [] => []
  | v :: r => v.real :: realL r
end
theorem realL_map : ∀ l : List V, realL l = l.map V.real
  | [] => rfl
  | v :: l => by simp [realL, realL_map l]
mutual
theorem real_rel {w : World} {ρ : List Re} {B : Nat → Prop} : ∀ {v : V}, v.det = true → RelV w ρ B v v.real
  | .int k n, _ => .int k n
  | .bool b, _ => .bool b
  | .str s, _ => .str s _ (by simp)
  | .nilptr, _ => .nilptr
  | .nilsl, _ => .nilsl
  | .nilmap, _ => .nilmap
  | .nilfn, _ => .nilfn
  | .nilif, _ => .nilif
  | .agg cs, h => by
    simp only [V.real]
    simp only [V.det] at h
    exact .agg cs _ (by simp [realL_map]) (fun i c x h1 h2 => realL_rel h i c x h1 (by simpa using h2))
  | .tup cs, h => by
    simp only [V.real]
    simp only [V.det] at h
    exact .tup cs _ (by simp [realL_map]) (fun i c x h1 h2 => realL_rel h i c x h1 (by simpa using h2))
  | .any, h | .lst _, h | .bp _ _, h | .ptr _ _ _, h | .sl _ _, h | .mp _, h | .clo _ _ _, h => by simp [V.det] at h
theorem realL_rel {w : World} {ρ : List Re} {B : Nat → Prop} : ∀ {l : List V}, detL l = true → ∀ (i : Nat) c x, l[i]? = some c → (realL l)[i]? = some x → RelV w ρ B c x
  | [], _, i, c, x, h1, _ => by simp at h1
  | v :: l, h, 0, c, x, h1, h2 => by
    simp [realL] at h1 h2
    subst h1; subst h2
    simp only [detL, Bool.and_eq_true] at h
    exact real_rel h.1
  | v :: l, h, i + 1, c, x, h1, h2 => by
    simp only [detL, Bool.and_eq_true] at h
    exact realL_rel h.2 i c x (by simpa using h1) (by simpa [realL] using h2)
end

/-- what an operation of a kind may do; L: the blocks from number L on have come within the region -/
def kOk (L : Nat) (k : Kd) (t : List (Nat × V)) (op : Op) (m m' : Mem) (v : V) : Prop := match k with
  | .p => (isRd op = true ∧ m' = m) ∨ ∃ o T x y T' k a j b, op = .binOp o T x y T' ∧ evO t x = .int k a ∧ evO t y = .int j b ∧ v.det = true ∧ m' = m
  | .q => isPure op = true ∧ m' = m ∧ (isRd op || v.det) = true
  | .a => isPure op = true ∨ isFresh op = true
  | .f => isPure op = true ∨ ∃ T x y b i o, op = .store T x y ∧ evO t x = .ptr b i o ∧ L ≤ b
  | .w => True
def kCall (P : Program) (k : Kd) (g : FuncId) (args : List V) (m : Mem) (K : V → Mem → Prop) : Prop := match k with
  | .q => ∃ v0, v0.det = true ∧ CallA P g args m (fun v mo => v = v0 ∧ mo = none) ∧ K v0 m
  | .a => CallA P g args m (fun v mo => mo = none ∧ K v m)
  | .w => CallA P g args m (fun v mo => K v (mo.getD m))
  | _ => False
/-- one operation of a region that draws its order -/
def WDop (P : Program) (N : Nat) (L : Nat) (kd : Kd) (t : List (Nat × V)) (m : Mem) (op : Op) (dst : Option Nat) (K : List (Nat × V) → Mem → Prop) : Prop :=
  dOk N dst ∧
  match op with
  | .call ⟨.value f, args, _⟩ => match evO t f with
    | .clo (.func g) fs cs => kCall P kd g (fs ++ args.toList.map (evO t) ++ cs) m (fun v m' => K (tput t dst v) m')
    | _ => False
  | op => match evA P t m op with
    | some (p, v, m') => p ∧ kOk L kd t op m m' v ∧ K (tput t dst v) m'
    | none => False
inductive TV where
  | v (x : V)
  | ptr (i a o : Nat)
  | sl (i n : Nat)
def TV.inst (f : Nat → Nat) : TV → V
  | .v x => x
  | .ptr i a o => .ptr (f i) a o
  | .sl i n => .sl (f i) n
def Blk.flat : Blk → Bool
  | .cells _ _ _ es => es.all flatL
  | _ => false
def deadB (X : Mem) : Mem := X.map fun _ => .dead
/-- an operation that makes one block, whatever there is -/
def Maker (op : Op) (v : TV) (blk : Blk) : Prop := isFresh op = true ∧ blk.flat = true ∧ ((∃ n, v = .sl 0 n) ∨ ∃ a o, v = .ptr 0 a o)
def MakerEv (P : Program) (t : List (Nat × V)) (op : Op) (v : TV) (blk : Blk) (p : Prop) : Prop := ∀ m, evA P t m op = some (p, v.inst (fun _ => m.length), m ++ [blk])

def dstOf (ops : Array Oper) (i : Nat) : Option Nat := (ops[i]?).bind (·.dst)
def callsT (ops : Array Oper) : List Nat → List V → List (Nat × V) → List (Nat × V)
  | c :: cs, v :: vs, t => callsT ops cs vs (tput t (dstOf ops c) v)
  | _, _, t => t
def mksT (ops : Array Oper) (tv : Nat → TV) : List Nat → Nat → List (Nat × V) → List (Nat × V)
  | n :: ns, k, t => mksT ops tv ns (k + 1) (tput t (dstOf ops n) ((tv n).inst fun _ => k))
  | [], _, t => t
/-- calls that leave what they see alone, whatever there is beside -/
def CallsOk (P : Program) (N : Nat) (ops : Array Oper) : List Nat → List V → List (Nat × V) → Prop
  | [], vs, _ => vs = []
  | c :: cs, vs, t => ∃ v vs', vs = v :: vs' ∧ (∃ o f args ts g fs cc, ops[c]? = some o ∧ o.op = .call ⟨.value f, args, ts⟩ ∧ dOk N o.dst ∧ evO t f = .clo (.func g) fs cc ∧ ∀ m', Gives P g (fs ++ args.toList.map (evO t) ++ cc) m' v) ∧ CallsOk P N ops cs vs' (tput t (dstOf ops c) v)
def MkOk (P : Program) (N : Nat) (ops : Array Oper) (t : List (Nat × V)) (n : Nat) (v : TV) (blk : Blk) : Prop := ∃ o p, ops[n]? = some o ∧ dOk N o.dst ∧ Maker o.op v blk ∧ MakerEv P t o.op v blk p ∧ p
/-- .. in our order -/
def WDs (P : Program) (N : Nat) (ops : Array Oper) (kd : Nat → Kd) (L : Nat) : List El → List (Nat × V) → Mem → (List (Nat × V) → Mem → Prop) → Prop
  | [], t, m, Q => Q t m
  | .one i :: l, t, m, Q => match ops[i]? with
    | some o => match o.guard with
      | none => WDop P N L (kd i) t m o.op o.dst (fun t m => WDs P N ops kd L l t m Q)
      | some (j, want) => match (ops[j]?).bind (·.dst) with
        | some d => match tget t d with
          | .bool c => (c = want → WDop P N L (kd i) t m o.op o.dst (fun t m => WDs P N ops kd L l t m Q)) ∧ (¬ c = want → dOk N o.dst ∧ WDs P N ops kd L l (tput t o.dst (.tup [])) m Q)
          | .tup [] => dOk N o.dst ∧ WDs P N ops kd L l (tput t o.dst (.tup [])) m Q
          | _ => False
        | none => False
    | none => False
  | .grp cs ns :: l, t, m, Q => ∃ (vs : List V) (tv : Nat → TV) (bl : Nat → Blk), CallsOk P N ops cs vs t ∧ (∀ n ∈ ns, MkOk P N ops t n (tv n) (bl n)) ∧
      WDs P N ops kd L l (mksT ops tv ns (m.length + ns.length) (callsT ops cs vs t)) ((m ++ List.replicate ns.length .dead) ++ ns.map bl) Q

theorem pre_get {α : Type} {a b : List α} {i : Nat} {x : α} (h : a[i]? = some x) : (a ++ b)[i]? = some x := by
  rw [List.getElem?_append_left (List.getElem?_eq_some_iff.1 h).1]; exact h
theorem renorm {w : World} {ρ : List Re} {B X E : Mem} {js : List Nat} (hM : RelM w ρ (B ++ X)) (hl : js.length = E.length) (hn : js.Nodup)
    (hb : ∀ (i j : Nat), js[i]? = some j → X[j]? = E[i]?) (hf : E.all Blk.flat = true) :
    ∃ ρ', RelM w ρ' ((B ++ deadB X) ++ E) ∧ After w ρ (B ++ X) w ρ' ((B ++ deadB X) ++ E) ∧ (∀ (i j : Nat) r, js[i]? = some j → ρ[B.length + j]? = some r → ρ'[(B ++ deadB X).length + i]? = some r) := by
  have hlen := hM.len
  rw [List.length_append] at hlen
  have hBX : (B ++ deadB X).length = ρ.length := by simp [deadB, hlen]
  -- the new list of real blocks
  have hX : ∀ (i j : Nat), js[i]? = some j → ∃ blk, E[i]? = some blk ∧ X[j]? = some blk := by
    intro i j h
    have hi : i < E.length := by rw [← hl]; exact (List.getElem?_eq_some_iff.1 h).1
    have h1 : E[i]? = some E[i] := List.getElem?_eq_getElem hi
    exact ⟨_, h1, (hb i j h).trans h1⟩
  have hr : ∀ (i j : Nat), js[i]? = some j → ∃ r, ρ[B.length + j]? = some r := by
    intro i j h
    obtain ⟨blk, _, h2⟩ := hX i j h
    have hj : j < X.length := (List.getElem?_eq_some_iff.1 h2).1
    exact ⟨_, List.getElem?_eq_getElem (by omega)⟩
  refine ⟨ρ ++ js.map (fun j => (ρ[B.length + j]?).getD ⟨0, 0, 0⟩), ?_⟩
  have hnew : ∀ (i j : Nat) r, js[i]? = some j → ρ[B.length + j]? = some r → (ρ ++ js.map (fun j => (ρ[B.length + j]?).getD ⟨0, 0, 0⟩))[(B ++ deadB X).length + i]? = some r := by
    intro i j r h1 h2
    rw [hBX, List.getElem?_append_right (by omega), Nat.add_sub_cancel_left, List.getElem?_map, h1]
    simp [h2]
  have hold : ∀ (b : Nat) r, b < ρ.length → (ρ ++ js.map (fun j => (ρ[B.length + j]?).getD ⟨0, 0, 0⟩))[b]? = some r → ρ[b]? = some r := by
    intro b r h1 h2
    rwa [List.getElem?_append_left h1] at h2
  -- where a block of the new memory stood
  have key : ∀ (b : Nat) blk r, ((B ++ deadB X) ++ E)[b]? = some blk → blk ≠ .dead → (ρ ++ js.map (fun j => (ρ[B.length + j]?).getD ⟨0, 0, 0⟩))[b]? = some r →
      (b < B.length ∧ (B ++ X)[b]? = some blk ∧ ρ[b]? = some r) ∨ (∃ i j, b = (B ++ deadB X).length + i ∧ js[i]? = some j ∧ E[i]? = some blk ∧ (B ++ X)[B.length + j]? = some blk ∧ ρ[B.length + j]? = some r) := by
    intro b blk r h1 h2 h3
    rcases Nat.lt_or_ge b (B ++ deadB X).length with q | q
    · rw [List.getElem?_append_left q] at h1
      rcases Nat.lt_or_ge b B.length with p | p
      · rw [List.getElem?_append_left p] at h1
        exact .inl ⟨p, pre_get h1, hold b r (by omega) h3⟩
      · rw [List.getElem?_append_right p] at h1
        simp only [deadB, List.getElem?_map, Option.map_eq_some_iff] at h1
        obtain ⟨_, _, rfl⟩ := h1
        exact (h2 rfl).elim
    · rw [List.getElem?_append_right q] at h1
      have hi : b - (B ++ deadB X).length < js.length := by rw [hl]; exact (List.getElem?_eq_some_iff.1 h1).1
      have hj : js[b - (B ++ deadB X).length]? = some (js[b - (B ++ deadB X).length]) := List.getElem?_eq_getElem hi
      obtain ⟨r', hr'⟩ := hr _ _ hj
      have := hnew _ _ _ hj hr'
      rw [show (B ++ deadB X).length + (b - (B ++ deadB X).length) = b by omega, h3] at this
      cases this
      refine .inr ⟨_, _, by omega, hj, h1, ?_, hr'⟩
      rw [List.getElem?_append_right (by omega), Nat.add_sub_cancel_left]
      exact (hb _ _ hj).trans h1
  have hhas : ∀ {p : Blk → Bool} (_ : ∀ b, p b = true → b ≠ .dead) k, has p ((B ++ deadB X) ++ E) (ρ ++ js.map (fun j => (ρ[B.length + j]?).getD ⟨0, 0, 0⟩)) k → has p (B ++ X) ρ k := by
    intro p hp k h
    obtain ⟨b, blk, r, h1, h2, h3, h4⟩ := h
    rcases key b blk r h1 (hp _ h2) h3 with ⟨_, q1, q2⟩ | ⟨i, j, _, _, _, q1, q2⟩
    · exact ⟨b, blk, r, q1, h2, q2, h4⟩
    · exact ⟨_, blk, r, q1, h2, q2, h4⟩
  have hbd : ∀ k, bad ((B ++ deadB X) ++ E) (ρ ++ js.map (fun j => (ρ[B.length + j]?).getD ⟨0, 0, 0⟩)) k → bad (B ++ X) ρ k := hhas (fun b h => Blk.live_of_bad h)
  have hpre : ∀ (b : Nat) r, ρ[b]? = some r → (ρ ++ js.map (fun j => (ρ[B.length + j]?).getD ⟨0, 0, 0⟩))[b]? = some r := fun b r h => pre_get h
  have hE : ∀ (i : Nat) blk, E[i]? = some blk → blk.flat = true := fun i blk h => List.all_eq_true.1 hf _ (List.mem_of_getElem? h)
  have hmem : RelM w (ρ ++ js.map (fun j => (ρ[B.length + j]?).getD ⟨0, 0, 0⟩)) ((B ++ deadB X) ++ E) := by
    refine ⟨by rw [List.length_append, List.length_append, hBX, List.length_map, hl], ?_, ?_, ?_⟩
    · intro b st ty sz es h
      have hlt : b < (ρ ++ js.map (fun j => (ρ[B.length + j]?).getD ⟨0, 0, 0⟩)).length := by
        have := (List.getElem?_eq_some_iff.1 h).1
        simp only [List.length_append, List.length_map] at this ⊢
        simp only [List.length_append] at hBX
        omega
      have hx := List.getElem?_eq_getElem hlt
      rcases key b _ _ h (by simp) hx with ⟨_, q1, q2⟩ | ⟨i, j, _, _, q0, q1, q2⟩
      · obtain ⟨r, cur, k1, k2, k3, k4, k5, k6, k7, k8, k9⟩ := hM.cells b st ty sz es q1
        rw [q2] at k1; cases k1
        refine ⟨_, cur, hx, k2, k3, k4, k5, k6, k7, k8, fun i j e v e1 e2 => ?_⟩
        obtain ⟨g1, y, g2, g3⟩ := k9 i j e v e1 e2
        exact ⟨g1, y, g2, g3.mono (Nat.le_refl _) (fun _ _ _ => rfl) (fun k _ h => hbd k h) hpre⟩
      · obtain ⟨r, cur, k1, k2, k3, k4, k5, k6, k7, k8, k9⟩ := hM.cells _ st ty sz es q1
        rw [q2] at k1; cases k1
        refine ⟨_, cur, hx, k2, k3, k4, k5, k6, k7, k8, fun i j e v e1 e2 => ?_⟩
        obtain ⟨g1, y, g2, g3⟩ := k9 i j e v e1 e2
        have := hE _ _ q0
        simp only [Blk.flat, List.all_eq_true] at this
        exact ⟨g1, y, g2, flat_rel g3 (flatL_mem (this e (List.mem_of_getElem? e1)) v (List.mem_of_getElem? e2))⟩
    · intro b b' blk blk' r r' h1 h2 h3 h4 h5 h6 h7
      rcases key b blk r h1 h2 h5 with ⟨a0, a1, a2⟩ | ⟨i, j, rfl, aj, a0, a1, a2⟩ <;> rcases key b' blk' r' h3 (Blk.live_of_bad h4) h6 with ⟨c0, c1, c2⟩ | ⟨i', j', rfl, cj, c0, c1, c2⟩
      · exact hM.inj b b' blk blk' r r' a1 h2 c1 h4 a2 c2 h7
      · have := hM.inj _ _ blk blk' r r' a1 h2 c1 h4 a2 c2 h7; omega
      · have := hM.inj _ _ blk blk' r r' a1 h2 c1 h4 a2 c2 h7; omega
      · have := hM.inj _ _ blk blk' r r' a1 h2 c1 h4 a2 c2 h7
        have hjj : j = j' := by omega
        subst hjj
        have hi : i < js.length := (List.getElem?_eq_some_iff.1 aj).1
        have : i = i' := (List.getElem?_inj hi hn).1 (aj.trans cj.symm)
        rw [this]
    · intro b kt et es h
      have hlt : b < (ρ ++ js.map (fun j => (ρ[B.length + j]?).getD ⟨0, 0, 0⟩)).length := by
        have := (List.getElem?_eq_some_iff.1 h).1
        simp only [List.length_append, List.length_map] at this ⊢
        simp only [List.length_append] at hBX
        omega
      rcases key b _ _ h (by simp) (List.getElem?_eq_getElem hlt) with ⟨_, q1, _⟩ | ⟨i, j, _, _, _, q1, _⟩
      · exact hM.maps b kt et es q1
      · exact hM.maps _ kt et es q1
  exact ⟨hmem, ⟨Keep.refl _ _, hpre, hmem, fun k _ h => hhas (fun b h => Blk.live_of_bad (Blk.bad_of_own h)) k h, fun k _ h => hbd k h⟩, hnew⟩

section
variable {P : Program} {N : Nat}
theorem Rel.later {w w' : World} {ρ : List Re} {m : Mem} {t : List (Nat × V)} {a : Act} (h : Rel N w ρ m t a) (hb : Ext w w') : Rel N w' ρ m t a :=
  ⟨h.mem.mono hb, h.tm.after (After.of_same h.mem hb), h.size, h.defers⟩
theorem Rel.putv {w w' : World} {ρ ρ' : List Re} {m m' : Mem} {t : List (Nat × V)} {a : Act} (hR : Rel N w ρ m t a) {dst : Option Nat} (hd : dOk N dst) {v : V} {x : Value} (af : After w ρ m w' ρ' m') (rv : RelV w' ρ' (bad m' ρ') v x) : Rel N w' ρ' m' (tput t dst v) (a.put dst x) := by
  refine ⟨af.mem, tput_rel (hR.tm.after af) rv (fun k e => by rw [hR.size]; exact dOk_lt hd k e), ?_, ?_⟩
  · cases dst <;> simp [Act.put, hR.size]
  · cases dst <;> simp [Act.put, hR.defers]

theorem call_args {w : World} {ρ : List Re} {m : Mem} {t : List (Nat × V)} {a : Act} (hR : Rel N w ρ m t a) {o : Oper} {f : Operand} {args : Array Operand} {ts : Array TypeId} (ho : o.op = .call ⟨.value f, args, ts⟩) {g : FuncId} {fs cs : List V} (hf : evO t f = .clo (.func g) fs cs) (hgo : isGo P g = true) :
    ∃ xs, (∀ w', (execOp a.eval o).run P w' = .ok (.enter g xs) w') ∧ RelAs w ρ m (fs ++ args.toList.map (evO t) ++ cs) xs := by
  have hfr := evO_rel hR.tm f
  rw [hf] at hfr
  generalize hef : a.eval f = ef at hfr
  cases hfr with
  | clo _ _ _ f2 c2 hlf hlc hrf hrc =>
    refine ⟨f2 ++ args.map a.eval ++ c2, fun w' => by simp only [execOp, ho, resolve, hef, Deferred.ofValue, invoke, Sem.run_bind, Sem.run_pure, Result.andThen_ok, run_callFunc hgo], ?_⟩
    have e2 : (f2 ++ args.map a.eval ++ c2).toList = f2.toList ++ args.toList.map a.eval ++ c2.toList := by simp
    refine ⟨by simp; omega, fun i v x h1 h2 => ?_⟩
    have h2' : (f2.toList ++ args.toList.map a.eval ++ c2.toList)[i]? = some x := by rw [← e2, Array.getElem?_toList]; exact h2
    have hl1 : fs.length = f2.toList.length := by simpa using hlf
    by_cases q1 : i < fs.length
    · rw [List.append_assoc, List.getElem?_append_left q1] at h1
      rw [List.append_assoc, List.getElem?_append_left (by omega)] at h2'
      exact hrf i v x h1 (by simpa using h2')
    · by_cases q2 : i < (fs ++ args.toList.map (evO t)).length
      · rw [List.getElem?_append_left q2, List.getElem?_append_right (by omega)] at h1
        rw [List.getElem?_append_left (by simp at q2 ⊢; simp at hl1; omega), List.getElem?_append_right (by omega), ← hl1] at h2'
        simp only [List.getElem?_map, Option.map_eq_some_iff] at h1 h2'
        obtain ⟨o1, g1, rfl⟩ := h1
        obtain ⟨o2, g2, rfl⟩ := h2'
        rw [g1] at g2
        cases g2
        exact evO_rel hR.tm _
      · rw [List.getElem?_append_right (by omega)] at h1
        have hl2 : (fs ++ args.toList.map (evO t)).length = (f2.toList ++ args.toList.map a.eval).length := by simp at hl1 ⊢; omega
        rw [List.getElem?_append_right (by omega), ← hl2] at h2'
        exact hrc _ v x h1 (by simpa using h2')

theorem RelAs.later {w w' : World} {ρ : List Re} {m : Mem} {vs : List V} {xs : Array Value} (hM : RelM w ρ m) (h : RelAs w ρ m vs xs) (hb : Ext w w') : RelAs w' ρ m vs xs :=
  ⟨h.1, fun i v x h1 h2 => (After.of_same hM hb).rel (h.2 i v x h1 h2)⟩


theorem fresh_shape {t : List (Nat × V)} {m : Mem} {op : Op} {p : Prop} {v : V} {m' : Mem} (hf : isFresh op = true) (h : evA P t m op = some (p, v, m')) : ∃ T sz es, m' = m ++ [.cells .own T sz es] := by
  cases op <;> simp only [isFresh] at hf <;> try (cases hf; done)
  case alloc T =>
    simp only [evA, evOp] at h
    split at h
    · split at h
      · cases h; exact ⟨_, _, _, rfl⟩
      · cases h
    · cases h
  case box T x =>
    simp only [evA, evOp] at h
    split at h
    · split at h
      · cases h; exact ⟨_, _, _, rfl⟩
      · cases h
    · cases h
  case makeSlice T l c =>
    simp only [evA, evMake] at h
    split at h
    · split at h
      · split at h
        · cases h; exact ⟨_, _, _, rfl⟩
        · cases h
      · cases h
    · cases h
  case buildSlice T n parts =>
    simp only [evA, evBuildSl] at h
    split at h
    · split at h
      · split at h
        · split at h
          · cases h; exact ⟨_, _, _, rfl⟩
          · cases h
        · cases h
      · cases h
    · cases h

/-- a block that has come, lies behind what there was -/
theorem new_behind {w w1 : World} {ρ ρ1 : List Re} {m : Mem} {T : TypeId} {sz : Nat} {es : List (List V)} (hM : RelM w ρ m) (af : After w ρ m w1 ρ1 (m ++ [.cells .own T sz es])) {r : Re} (hr : ρ1[m.length]? = some r) : w.heap.size ≤ r.blk := by
  rcases Nat.lt_or_ge r.blk w.heap.size with q | q
  · exfalso
    have hg : (m ++ [Blk.cells .own T sz es])[m.length]? = some (.cells .own T sz es) := by simp
    obtain ⟨b, blk, r', h1, h2, h3, h4⟩ := af.own r.blk q ⟨m.length, _, r, hg, rfl, hr, rfl⟩
    have hb : b < m.length := (List.getElem?_eq_some_iff.1 h1).1
    have := af.mem.inj b m.length blk _ r' r (pre_get h1) (Blk.live_of_bad (Blk.bad_of_own h2)) hg rfl (af.pre b r' h3) hr h4
    omega
  · exact q

theorem WDop_cases {L : Nat} {kd : Kd} {t : List (Nat × V)} {m : Mem} {op : Op} {dst : Option Nat} {K : List (Nat × V) → Mem → Prop} (h : WDop P N L kd t m op dst K) :
    dOk N dst ∧ ((∃ f args ts g fs cs, op = .call ⟨.value f, args, ts⟩ ∧ evO t f = .clo (.func g) fs cs ∧ kCall P kd g (fs ++ args.toList.map (evO t) ++ cs) m (fun v m' => K (tput t dst v) m')) ∨
      ∃ p v m', evA P t m op = some (p, v, m') ∧ p ∧ kOk L kd t op m m' v ∧ K (tput t dst v) m') := by
  obtain ⟨hd, h⟩ := h
  refine ⟨hd, ?_⟩
  split at h
  · rename_i f args ts
    split at h
    · rename_i g fs cs hf
      exact .inl ⟨_, _, _, _, _, _, rfl, hf, h⟩
    · exact h.elim
  · split at h
    · rename_i p v m' he
      exact .inr ⟨_, _, _, he, h⟩
    · exact h.elim

/-- what has come within the region lies behind what there was when it began -/
def Behind (B : World) (L : Nat) (ρ : List Re) : Prop := ∀ (b : Nat) r, L ≤ b → ρ[b]? = some r → B.heap.size ≤ r.blk

theorem WDop_sound {B : World} {L : Nat} {w : World} {ρ : List Re} {m : Mem} {t : List (Nat × V)} {a : Act} {o : Oper} {k : Kd} {K : List (Nat × V) → Mem → Prop} (hR : Rel N w ρ m t a) (hB : k = .q → w = B) {F : Prop} (hF : F → Ext B w ∧ Behind B L ρ ∧ L ≤ m.length) (hkf : k = .f → F) (hkw : k = .w → ¬ F) (h : WDop P N L k t m o.op o.dst K) {K' : Act → World → Prop}
    (hK : ∀ t' m' a' w' ρ', K t' m' → Rel N w' ρ' m' t' a' → After w ρ m w' ρ' m' → ((k = .p ∨ k = .q) → w' = w) → (F → Ext B w' ∧ Behind B L ρ' ∧ L ≤ m'.length) → K' a' w') :
    kPost P B o a w k K' := by
  obtain ⟨hd, h⟩ := WDop_cases h
  rcases h with ⟨f, args, ts, g, fs, cs, ho, hf, h⟩ | ⟨p, v, m', he, hp, hk, hKK⟩
  · have st : ∀ {w' : World} {xs : Array Value} {Z : Value → World → Prop}, (execOp a.eval o).run P w' = .ok (.enter g xs) w' → Calls P g xs w' (fun e w'' => ∃ x, e = .returned x ∧ Z x w'') → stOp P o a w' Z := by
      intro w' xs Z h1 h2
      unfold stOp
      rw [h1]
      exact h2
    cases k with
    | p => exact h.elim
    | f => exact h.elim
    | q =>
      obtain ⟨v0, hdet, hc, hKK⟩ := h
      obtain ⟨xs, hrun, hargs⟩ := call_args hR ho hf hc.1
      have := hB rfl
      subst this
      refine ⟨v0.real, fun w' hw => st (hrun w') ((hc.2 w' ρ xs (hR.mem.mono hw) (hargs.later hR.mem hw)).mono ?_), hK _ _ _ _ _ hKK (hR.putv hd (After.refl hR.mem) (real_rel hdet)) (After.refl hR.mem) (fun _ => rfl) hF⟩
      rintro e w'' ⟨v, mo, x, rfl, ⟨rfl, rfl⟩, hh⟩
      rcases hh with ⟨_, hb, rv⟩ | ⟨m', ρ', e, _⟩
      · exact ⟨x, rfl, det_eq (real_rel (w := w) (ρ := ρ) (B := bad m ρ) hdet) hdet rv, hb⟩
      · cases e
    | a =>
      obtain ⟨xs, hrun, hargs⟩ := call_args hR ho hf h.1
      intro w' hw
      refine st (hrun w') ((h.2 w' ρ xs (hR.mem.mono hw) (hargs.later hR.mem hw)).mono ?_)
      rintro e w'' ⟨v, mo, x, rfl, ⟨rfl, hKK⟩, hh⟩
      rcases hh with ⟨_, hb, rv⟩ | ⟨m', ρ', e, _⟩
      · have af := (After.of_same hR.mem hw).trans (After.of_same (hR.mem.mono hw) hb)
        exact ⟨x, rfl, hb, hK _ _ _ _ _ hKK (hR.putv hd af rv) af (fun e => by rcases e with e | e <;> cases e) (fun f => ⟨((hF f).1.trans hw).trans hb, (hF f).2⟩)⟩
      · cases e
    | w =>
      obtain ⟨xs, hrun, hargs⟩ := call_args hR ho hf h.1
      intro w' hw
      refine st (hrun w') ((h.2 w' ρ xs (hR.mem.mono hw) (hargs.later hR.mem hw)).mono ?_)
      rintro e w'' ⟨v, mo, x, rfl, hKK, hh⟩
      rcases hh with ⟨rfl, hb, rv⟩ | ⟨m', ρ', rfl, af, rv⟩
      · have af := (After.of_same hR.mem hw).trans (After.of_same (hR.mem.mono hw) hb)
        exact ⟨x, rfl, hK _ _ _ _ _ hKK (hR.putv hd af rv) af (fun e => by rcases e with e | e <;> cases e) (fun f => (hkw rfl f).elim)⟩
      · have af := (After.of_same hR.mem hw).trans af
        exact ⟨x, rfl, hK _ _ _ _ _ hKK (hR.putv hd af rv) af (fun e => by rcases e with e | e <;> cases e) (fun f => (hkw rfl f).elim)⟩
  · have gen : ∀ w', Ext w w' → ∃ n w1 ρ1 x, (execOp a.eval o).run P w' = .ok n w1 ∧ After w' ρ m w1 ρ1 m' ∧ RelV w1 ρ1 (bad m' ρ1) v x ∧ (n = .value x ∨ (n = .skip ∧ x = undef)) ∧ Gentle o.op w' ρ w1 ρ1 := by
      intro w' hw
      have hR' := hR.later hw
      obtain ⟨n, w1, ρ1, h1, af, h2, hg⟩ := evA_sound hR'.mem hR'.tm he hp
      rcases h2 with ⟨x, rfl, rv⟩ | ⟨rfl, rfl⟩
      · exact ⟨_, w1, ρ1, x, h1, af, rv, .inl rfl, hg⟩
      · exact ⟨_, w1, ρ1, undef, h1, af, .any _, .inr ⟨rfl, rfl⟩, hg⟩
    have st : ∀ {w' : World} {n : Next} {w1 : World} {x : Value} {Z : Value → World → Prop}, (execOp a.eval o).run P w' = .ok n w1 → (n = .value x ∨ (n = .skip ∧ x = undef)) → Z x w1 → stOp P o a w' Z := by
      intro w' n w1 x Z h1 h2 hz
      unfold stOp
      rw [h1]
      rcases h2 with rfl | ⟨rfl, rfl⟩
      · exact hz
      · exact hz
    have rdv : isRd o.op = true → isPure o.op = true → ∃ x, (∀ w', stOp P o a w' fun y w'' => y = x ∧ w'' = w') ∧ RelV w ρ (bad m' ρ) v x ∧ After w ρ m w ρ m' := by
      intro hrd hpu
      obtain ⟨n, w1, ρ1, x, h1, af, rv, hn, hg⟩ := gen w (Below.refl _ _)
      obtain ⟨rfl, rfl⟩ := hg.1 hpu
      refine ⟨x, fun w' => ?_, rv, af⟩
      rcases rd_op hrd he a.eval with ⟨z, hz⟩ | hz
      · have e1 := hz w1
        rw [h1] at e1
        cases e1
        exact st (hz w') hn ⟨rfl, rfl⟩
      · exact absurd h1 (hz _ _ _)
    have pur : ∀ op, isRd op = true → isPure op = true := by
      intro op h
      cases op <;> simp only [isRd] at h <;> first | rfl | (cases h; done) | skip
      all_goals simp_all [isPure]
    cases k with
    | p =>
      rcases hk with ⟨hrd, rfl⟩ | ⟨bo, T, y, z, T', k1, a1, k2, a2, hop, hy, hz, hdet, rfl⟩
      · obtain ⟨x, h1, rv, af⟩ := rdv hrd (pur _ hrd)
        exact ⟨x, h1, hK _ _ _ _ _ hKK (hR.putv hd af rv) af (fun _ => rfl) hF⟩
      · have hev : evBin bo (.int k1 a1) (.int k2 a2) = some (p, v) := by
          rw [hop] at he
          have hn : evEq P bo T (.int k1 a1) (.int k2 a2) = none := by cases bo <;> rfl
          simp only [evA, hy, hz, hn, evOp] at he
          split at he
          · rename_i q u hb
            rw [hb]
            simp only [Option.some.injEq, Prod.mk.injEq] at he
            rw [he.1, he.2.1]
          · cases he
        have ey : a.eval y = .int k1 a1 := by
          have := evO_rel hR.tm y
          rw [hy] at this
          generalize a.eval y = q at this
          cases this; rfl
        have ez : a.eval z = .int k2 a2 := by
          have := evO_rel hR.tm z
          rw [hz] at this
          generalize a.eval z = q at this
          cases this; rfl
        refine ⟨v.real, fun w' => ?_, hK _ _ _ _ _ hKK (hR.putv hd (After.refl hR.mem) (real_rel hdet)) (After.refl hR.mem) (fun _ => rfl) hF⟩
        obtain ⟨x, h1, h2⟩ := evBin_sound (P := P) (w := w') (ρ := []) (B := fun _ => False) (T := T) (o1 := y) (o2 := z) hev hp (.int k1 a1) (.int k2 a2)
        have hrun : (execOp a.eval o).run P w' = .ok (.value x) w' := by
          simp only [execOp, hop, ey, ez]
          exact run_v h1
        exact st hrun (.inl rfl) ⟨det_eq (real_rel (w := w') (ρ := []) (B := fun _ => False) hdet) hdet h2, rfl⟩
    | q =>
      obtain ⟨hpu, rfl, hrd⟩ := hk
      have := hB rfl
      subst this
      obtain ⟨n, w1, ρ1, x, h1, af, rv, hn, hg⟩ := gen w (Below.refl _ _)
      obtain ⟨rfl, rfl⟩ := hg.1 hpu
      refine ⟨x, fun w' hw => ?_, hK _ _ _ _ _ hKK (hR.putv hd af rv) af (fun _ => rfl) hF⟩
      obtain ⟨n', w2, ρ2, x', h1', af', rv', hn', hg'⟩ := gen w' hw
      obtain ⟨rfl, rfl⟩ := hg'.1 hpu
      rcases Bool.or_eq_true_iff.1 hrd with hrd | hdet
      · obtain ⟨y, hy, _, _⟩ := rdv hrd hpu
        have hyx : y = x := by
          have := hy w1
          unfold stOp at this
          rw [h1] at this
          rcases hn with rfl | ⟨rfl, rfl⟩
          · exact this.1.symm
          · exact this.1.symm
        subst hyx
        exact st_mono (hy w2) fun z w'' ⟨e1, e2⟩ => ⟨e1, by rw [e2]; exact Below.refl _ _⟩
      · exact st h1' hn' ⟨det_eq rv hdet rv', Below.refl _ _⟩
    | a =>
      intro w' hw
      obtain ⟨n, w1, ρ1, x, h1, af, rv, hn, hg⟩ := gen w' hw
      have af' := (After.of_same hR.mem hw).trans af
      have hext : Ext w' w1 := by
        rcases hk with hk | hk
        · obtain ⟨rfl, _⟩ := hg.1 hk
          exact Below.refl _ _
        · exact hg.2 hk
      refine st h1 hn ⟨hext, hK _ _ _ _ _ hKK (hR.putv hd af' rv) af' (fun e => by rcases e with e | e <;> cases e) ?_⟩
      intro f
      obtain ⟨f1, hI', hL⟩ := hF f
      have hB' := f1.trans hw
      refine ⟨hB'.trans hext, ?_, ?_⟩
      · rcases hk with hk | hk
        · obtain ⟨_, rfl⟩ := hg.1 hk
          exact hI'
        · obtain ⟨T, sz, es, rfl⟩ := fresh_shape hk he
          intro b r hb hr
          rcases Nat.lt_or_ge b m.length with q | q
          · have hlt : b < ρ.length := by rw [hR.mem.len]; exact q
            have h3 : ρ[b]? = some ρ[b] := List.getElem?_eq_getElem hlt
            have := af.pre b _ h3
            rw [hr] at this
            cases this
            exact hI' b _ hb h3
          · have hlt : b < ρ1.length := (List.getElem?_eq_some_iff.1 hr).1
            rw [af.mem.len] at hlt
            simp at hlt
            have : b = m.length := by omega
            subst this
            exact Nat.le_trans hB'.size (new_behind (hR.mem.mono hw) af hr)
      · rcases hk with hk | hk
        · have hl1 := af.mem.len
          obtain ⟨_, rfl⟩ := hg.1 hk
          rw [hR.mem.len] at hl1
          omega
        · obtain ⟨T, sz, es, rfl⟩ := fresh_shape hk he
          simp; omega
    | f =>
      intro w' hw hBw'
      obtain ⟨n, w1, ρ1, x, h1, af, rv, hn, hg⟩ := gen w' hw
      have af' := (After.of_same hR.mem hw).trans af
      obtain ⟨_, hI', hL⟩ := hF (hkf rfl)
      rcases hk with hk | ⟨T, y, z, b, i, q, ho, hb, hLb⟩
      · have hl1 := af.mem.len
        obtain ⟨rfl, rfl⟩ := hg.1 hk
        refine st h1 hn ⟨hBw', hK _ _ _ _ _ hKK (hR.putv hd af' rv) af' (fun e => by rcases e with e | e <;> cases e) (fun _ => ⟨hBw', hI', ?_⟩)⟩
        rw [hR.mem.len] at hl1
        omega
      · have hR' := hR.later hw
        have he' : evOp P t m (.store T y z) = some (p, v, m') := by rw [ho] at he; exact he
        obtain ⟨w2, r, g1, g2, g3, g4⟩ := store_frame (P := P) hR'.mem hR'.tm ho he' hb
        rw [g1] at h1
        cases h1
        have hbel : Ext B w1 := by
          refine ⟨?_, ?_, ?_, ?_, fun k hk => ?_⟩
          · exact af.keep.os.trans hBw'.os
          · exact af.keep.tape.trans hBw'.tape
          · exact af.keep.output.trans hBw'.output
          · rw [g3]; exact hBw'.size
          · have := hI' b r hLb g2
            rw [g4 k (by omega)]
            exact hBw'.block k hk
        have hlen : m'.length = m.length := by
          simp only [evOp] at he'
          split at he'
          · split at he'
            · split at he'
              · split at he'
                · cases he'; simp
                · cases he'
              · cases he'
            · cases he'
          · cases he'
        have hpre : Behind B L ρ1 := by
          intro b' r' hb' hr'
          have hlt : b' < ρ.length := by
            have := (List.getElem?_eq_some_iff.1 hr').1
            rw [af.mem.len, hlen] at this
            rw [hR.mem.len]; exact this
          have h3 : ρ[b']? = some ρ[b'] := List.getElem?_eq_getElem hlt
          have := af.pre b' _ h3
          rw [hr'] at this
          cases this
          exact hI' b' _ hb' h3
        exact st g1 hn ⟨hbel, hK _ _ _ _ _ hKK (hR.putv hd af' rv) af' (fun e => by rcases e with e | e <;> cases e) (fun _ => ⟨hbel, hpre, by omega⟩)⟩
    | w =>
      intro w' hw
      obtain ⟨n, w1, ρ1, x, h1, af, rv, hn, hg⟩ := gen w' hw
      have af' := (After.of_same hR.mem hw).trans af
      exact st h1 hn (hK _ _ _ _ _ hKK (hR.putv hd af' rv) af' (fun e => by rcases e with e | e <;> cases e) (fun f => (hkw rfl f).elim))

theorem maker_run {w : World} {ρ : List Re} {m : Mem} {t : List (Nat × V)} {a : Act} {o : Oper} {v : TV} {blk : Blk} {p : Prop} (hR : Rel N w ρ m t a) (h1 : Maker o.op v blk) (h2 : MakerEv P t o.op v blk p) (hp : p) :
    ∃ w1 ρ1 x, (execOp a.eval o).run P w = .ok (.value x) w1 ∧ After w ρ m w1 ρ1 (m ++ [blk]) ∧ RelV w1 ρ1 (bad (m ++ [blk]) ρ1) (v.inst fun _ => m.length) x ∧ Ext w w1 := by
  obtain ⟨n, w1, ρ1, g1, af, g2, hg⟩ := evA_sound hR.mem hR.tm (h2 m) hp
  rcases g2 with ⟨x, rfl, rv⟩ | ⟨rfl, hv⟩
  · exact ⟨w1, ρ1, x, g1, af, rv, hg.2 h1.1⟩
  · exfalso
    rcases h1.2.2 with ⟨n, rfl⟩ | ⟨q, z, rfl⟩ <;> cases hv
theorem rel_inst {w : World} {ρ : List Re} {Bd : Nat → Prop} {v : TV} {x : Value} {f g : Nat → Nat} {ρ' : List Re} {Bd' : Nat → Prop} (hv : (∃ n, v = .sl 0 n) ∨ ∃ a o, v = .ptr 0 a o) (h : RelV w ρ Bd (v.inst f) x) (hr : ∀ r, ρ[f 0]? = some r → ρ'[g 0]? = some r) : RelV w ρ' Bd' (v.inst g) x := by
  rcases hv with ⟨n, rfl⟩ | ⟨a, o, rfl⟩
  · simp only [TV.inst] at h ⊢
    cases h with | sl _ _ r h1 h2 h3 => exact .sl _ _ r (hr r h1) h2 h3
  · simp only [TV.inst] at h ⊢
    cases h with | ptr _ _ _ r h1 => exact .ptr _ _ _ r (hr r h1)


def putsOf (ops : Array Oper) (xv : Nat → Value) (D : List Nat) (a : Act) : Act := D.foldl (fun a n => a.put (dstOf ops n) (xv n)) a
theorem putsOf_snoc (ops : Array Oper) (xv : Nat → Value) (D : List Nat) (n : Nat) (a : Act) : putsOf ops xv (D ++ [n]) a = (putsOf ops xv D a).put (dstOf ops n) (xv n) := by simp [putsOf]
theorem putsOf_congr {ops : Array Oper} {xv xv' : Nat → Value} : ∀ {D : List Nat} {a : Act}, (∀ n ∈ D, xv n = xv' n) → putsOf ops xv D a = putsOf ops xv' D a
  | [], _, _ => rfl
  | n :: D, a, h => by
    show putsOf ops xv D (a.put _ (xv n)) = putsOf ops xv' D (a.put _ (xv' n))
    rw [h n List.mem_cons_self]
    exact putsOf_congr fun k hk => h k (List.mem_cons_of_mem _ hk)
theorem putsOf_put {ops : Array Oper} {xv : Nat → Value} {d : Option Nat} {x : Value} : ∀ {D : List Nat} {a : Act}, (∀ n ∈ D, ∀ k, dstOf ops n = some k → d ≠ some k) → putsOf ops xv D (a.put d x) = (putsOf ops xv D a).put d x
  | [], _, _ => rfl
  | n :: D, a, h => by
    show putsOf ops xv D ((a.put d x).put _ (xv n)) = (putsOf ops xv D (a.put _ (xv n))).put d x
    rw [Act.put_comm a x (xv n) (fun k e e' => h n List.mem_cons_self k e' e)]
    exact putsOf_put fun k hk => h k (List.mem_cons_of_mem _ hk)
theorem execOp_puts {ops : Array Oper} {xv : Nat → Value} {o : Oper} (hsel : ∀ cs b, o.op ≠ .select cs b) : ∀ {D : List Nat} {a : Act}, (∀ n ∈ D, ∀ d, dstOf ops n = some d → d ∉ o.looksAt ops) → execOp (putsOf ops xv D a).eval o = execOp a.eval o
  | [], _, _ => rfl
  | n :: D, a, h => by
    show execOp (putsOf ops xv D (a.put _ (xv n))).eval o = _
    rw [execOp_puts hsel (fun k hk => h k (List.mem_cons_of_mem _ hk))]
    exact execOp_put o hsel a _ _ (h n List.mem_cons_self)

theorem call_run {w : World} {ρ : List Re} {m : Mem} {t : List (Nat × V)} {a : Act} {o : Oper} {f : Operand} {args : Array Operand} {ts : Array TypeId} {g : FuncId} {fs cc : List V} {v : V} (hR : Rel N w ρ m t a) (ho : o.op = .call ⟨.value f, args, ts⟩) (hf : evO t f = .clo (.func g) fs cc)
    (hc : Gives P g (fs ++ args.toList.map (evO t) ++ cc) m v) : stOp P o a w fun x w' => Ext w w' ∧ RelV w' ρ (bad m ρ) v x := by
  obtain ⟨xs, hrun, hargs⟩ := call_args hR ho hf hc.1
  unfold stOp
  rw [hrun w]
  refine (hc.2 w ρ xs hR.mem hargs).mono ?_
  rintro e w'' ⟨v', mo, x, rfl, ⟨rfl, rfl⟩, hh⟩
  rcases hh with ⟨_, hb, rv⟩ | ⟨m', ρ', e, _⟩
  · exact ⟨x, rfl, hb, rv⟩
  · cases e

theorem maker_own {ops : Array Oper} {t : List (Nat × V)} {n : Nat} {v : TV} {blk : Blk} (h : MkOk P N ops t n v blk) : ∃ T sz es, blk = .cells .own T sz es := by
  obtain ⟨o, p, _, _, h1, h2, _⟩ := h
  obtain ⟨T, sz, es, h⟩ := fresh_shape h1.1 (h2 [])
  exact ⟨T, sz, es, by simpa using h⟩

/-- a group, in whichever order it comes -/
theorem grp_sound {ops : Array Oper} {kd : Nat → Kd} {rest : List Nat} {w0 : World} {ρ0 : List Re} {m : Mem} {t0 : List (Nat × V)} {a0 : Act} (hsel : Region.noSelect ops = true) {cs0 ns0 : List Nat} (hg : GrpOk ops kd cs0 ns0 rest) {tv : Nat → TV} {bl : Nat → Blk} (hmk : ∀ n ∈ ns0, MkOk P N ops t0 n (tv n) (bl n))
    {tf : List (Nat × V)} {K : Act → World → Prop}
    (hfin : ∀ (w : World) (ρ : List Re) (a : Act) (xv : Nat → Value) (D : List Nat), Rel N w ρ (m ++ D.map bl) tf a → After w0 ρ0 m w ρ (m ++ D.map bl) → Ext w0 w → D.Nodup → (∀ n, n ∈ D ↔ n ∈ ns0) → (∀ (k n : Nat), D[k]? = some n → RelV w ρ (bad (m ++ D.map bl) ρ) ((tv n).inst fun _ => m.length + k) (xv n)) →
      (∀ (b : Nat) r, m.length ≤ b → ρ[b]? = some r → w0.heap.size ≤ r.blk) → K (putsOf ops xv D a) w) :
    ∀ (f : Nat) (cs ns D : List Nat) (vs : List V) (w : World) (ρ : List Re) (tc : List (Nat × V)) (ac : Act) (xv : Nat → Value), cs.length + ns.length = f → (∀ c ∈ cs, c ∈ cs0) → (∀ n, n ∈ ns ↔ n ∈ ns0 ∧ n ∉ D) → (∀ n ∈ D, n ∈ ns0) → D.Nodup → ns.Nodup → callsT ops cs vs tc = tf → CallsOk P N ops cs vs tc →
      Rel N w ρ (m ++ D.map bl) tc ac → Rel N w ρ (m ++ D.map bl) t0 a0 → After w0 ρ0 m w ρ (m ++ D.map bl) → Ext w0 w → (∀ n ∈ ns0, ∀ o, ops[n]? = some o → execOp ac.eval o = execOp a0.eval o) →
      (∀ (k n : Nat), D[k]? = some n → RelV w ρ (bad (m ++ D.map bl) ρ) ((tv n).inst fun _ => m.length + k) (xv n)) → (∀ (b : Nat) r, m.length ≤ b → ρ[b]? = some r → w0.heap.size ≤ r.blk) →
      grpL P ops K f cs ns (putsOf ops xv D ac) w
  | 0, cs, ns, D, vs, w, ρ, tc, ac, xv, hf, hcs, hns, hD, hnd, hnn, htf, hco, hR, hR0, haf, hext, hex, hxv, hbeh => by
    have h1 : cs = [] := List.eq_nil_of_length_eq_zero (by omega)
    have h2 : ns = [] := List.eq_nil_of_length_eq_zero (by omega)
    subst h1; subst h2
    refine ⟨rfl, rfl, hfin w ρ ac xv D ?_ haf hext hnd (fun n => ⟨hD n, fun h => ?_⟩) hxv hbeh⟩
    · have : tc = tf := by
        cases vs <;> exact htf
      rw [← this]; exact hR
    · by_cases hd : n ∈ D
      · exact hd
      · exact absurd ((hns n).2 ⟨h, hd⟩) (by simp)
  | f + 1, cs, ns, D, vs, w, ρ, tc, ac, xv, hf, hcs, hns, hD, hnd, hnn, htf, hco, hR, hR0, haf, hext, hex, hxv, hbeh => by
    have hsel' := Region.noSelect_spec hsel
    have apart_of : ∀ {n i : Nat} {on oi : Oper}, ops[n]? = some on → ops[i]? = some oi → apartB ops n i = true → on.apart ops oi = true := by
      intro n i on oi h1 h2 h3
      unfold apartB at h3
      rw [h1, h2] at h3
      exact h3
    have dst_of : ∀ {n : Nat} {o : Oper}, ops[n]? = some o → dstOf ops n = o.dst := fun h => by unfold dstOf; rw [h]; rfl
    have laterD : ∀ {w' : World}, Ext w w' → Rel N w' ρ (m ++ D.map bl) tc ac ∧ Rel N w' ρ (m ++ D.map bl) t0 a0 ∧ After w0 ρ0 m w' ρ (m ++ D.map bl) ∧ (∀ (k n : Nat), D[k]? = some n → RelV w' ρ (bad (m ++ D.map bl) ρ) ((tv n).inst fun _ => m.length + k) (xv n)) := fun h =>
      ⟨hR.later h, hR0.later h, haf.trans (After.of_same hR.mem h), fun k n hk => (After.of_same hR.mem h).rel (hxv k n hk)⟩
    constructor
    · intro c cs' hc
      subst hc
      obtain ⟨v, vs', rfl, ⟨o, fo, args, ts, g, fs, cc, ho, hop, hd, hfo, hgv⟩, hco'⟩ := hco
      refine ⟨o, ho, fun w' hw' => ?_⟩
      obtain ⟨q1, q2, q3, q4⟩ := laterD hw'
      have hcm : c ∈ cs0 ++ ns0 := List.mem_append_left _ (hcs c List.mem_cons_self)
      have hne : ∀ n ∈ ns0, n ≠ c := by
        intro n hn e
        subst e
        have := hg.nd
        rw [List.nodup_append] at this
        exact this.2.2 n (hcs n List.mem_cons_self) n hn rfl
      have hap : ∀ n ∈ ns0, ∀ on, ops[n]? = some on → on.apart ops o = true ∧ o.apart ops on = true := fun n hn on hon => by
        obtain ⟨a1, a2⟩ := hg.ap n hn c hcm (hne n hn)
        exact ⟨apart_of hon ho a1, apart_of ho hon a2⟩
      have hDl : ∀ n ∈ D, ∀ d, dstOf ops n = some d → d ∉ o.looksAt ops ∧ o.dst ≠ some d := by
        intro n hn d hdd
        obtain ⟨on, p, hon, _⟩ := hmk n (hD n hn)
        rw [dst_of hon] at hdd
        obtain ⟨p1, p2, p3⟩ := Oper.apart_spec (hap n (hD n hn) on hon).1
        exact ⟨p1 d hdd, p2 d hdd⟩
      have hexc : execOp (putsOf ops xv D ac).eval o = execOp ac.eval o := execOp_puts (fun cs b => hsel' c o cs b ho) fun n hn d hdd => (hDl n hn d hdd).1
      refine st_mono (st_congr hexc (call_run q1 hop hfo (hgv _))) fun x w'' ⟨e1, rv⟩ => ⟨e1, ?_⟩
      have hsame := After.of_same q1.mem e1
      have hput : (putsOf ops xv D ac).put o.dst x = putsOf ops xv D (ac.put o.dst x) := (putsOf_put fun n hn d hdd => (hDl n hn d hdd).2).symm
      rw [hput]
      have hRc := q1.putv hd hsame rv
      rw [dst_of ho] at hco'
      refine grp_sound hsel hg hmk hfin f cs' ns D vs' w'' ρ _ (ac.put o.dst x) xv (by simp at hf; omega) (fun c hc => hcs c (List.mem_cons_of_mem _ hc)) hns hD hnd hnn ?_ hco' hRc (q2.later e1) (q3.trans hsame) ((hext.trans hw').trans e1) ?_ (fun k n hk => hsame.rel (q4 k n hk)) hbeh
      · have := htf
        simp only [callsT, dst_of ho] at this
        exact this
      · intro n hn on hon
        rw [execOp_put on (fun cs b => hsel' n on cs b hon) ac o.dst x]
        · exact hex n hn on hon
        · exact (Oper.apart_spec (hap n hn on hon).2).1
    · intro n hn
      obtain ⟨hn0, hnD⟩ := (hns n).1 hn
      obtain ⟨o, p, ho, hd, hm1, hm2, hp⟩ := hmk n hn0
      refine ⟨o, ho, fun w' hw' => ?_⟩
      obtain ⟨q1, q2, q3, q4⟩ := laterD hw'
      have hap : ∀ k ∈ D, ∀ ok, ops[k]? = some ok → ok.apart ops o = true := fun k hk ok hok => by
        have hne : k ≠ n := fun e => hnD (e ▸ hk)
        exact apart_of hok ho (hg.ap k (hD k hk) n (List.mem_append_right _ hn0) hne).1
      have hexc : execOp (putsOf ops xv D ac).eval o = execOp a0.eval o := by
        rw [execOp_puts (fun cs b => hsel' n o cs b ho), hex n hn0 o ho]
        intro k hk d hdd
        obtain ⟨ok, pk, hok, _⟩ := hmk k (hD k hk)
        rw [dst_of hok] at hdd
        exact (Oper.apart_spec (hap k hk ok hok)).1 d hdd
      obtain ⟨w1, ρ1, x, r1, af1, rv1, x1⟩ := maker_run q2 hm1 hm2 hp
      have hst : stOp P o a0 w' fun y w'' => y = x ∧ w'' = w1 := by
        unfold stOp
        rw [r1]
        exact ⟨rfl, rfl⟩
      refine st_mono (st_congr hexc hst) ?_
      rintro y w'' ⟨hyx, hww⟩
      rw [hyx, hww]
      clear hyx hww y w''
      have ha : (m ++ D.map bl) ++ [bl n] = m ++ (D ++ [n]).map bl := by simp
      rw [ha] at af1 rv1
      refine ⟨x1, ?_⟩
      let xv' : Nat → Value := fun k => if k = n then x else xv k
      have hxvD : ∀ k ∈ D, xv k = xv' k := fun k hk => by
        have : ¬ k = n := fun e => hnD (e ▸ hk)
        simp [xv', this]
      have hput : (putsOf ops xv D ac).put o.dst x = putsOf ops xv' (D ++ [n]) ac := by
        rw [putsOf_snoc, putsOf_congr hxvD, dst_of ho]
        simp [xv']
      rw [hput]
      have hlen : (m ++ D.map bl).length = m.length + D.length := by simp
      have relAll : ∀ {t : List (Nat × V)} {a : Act}, Rel N w' ρ (m ++ D.map bl) t a → Rel N w1 ρ1 (m ++ (D ++ [n]).map bl) t a := fun h => ⟨af1.mem, h.tm.after af1, h.size, h.defers⟩
      refine grp_sound hsel hg hmk hfin f cs (ns.erase n) (D ++ [n]) vs w1 ρ1 tc ac xv' ?_ hcs ?_ ?_ ?_ (hnn.erase n) htf hco (relAll q1) (relAll q2) (q3.trans af1) ((hext.trans hw').trans x1) hex ?_ ?_
      · have := List.length_erase_of_mem hn
        have : 0 < ns.length := List.length_pos_of_mem hn
        omega
      · intro k
        rw [mem_erase_iff' hnn, hns k]
        simp only [List.mem_append, List.mem_singleton, not_or]
        constructor
        · rintro ⟨h1, h2, h3⟩; exact ⟨h2, h3, h1⟩
        · rintro ⟨h2, h3, h1⟩; exact ⟨h1, h2, h3⟩
      · intro k hk
        rcases List.mem_append.1 hk with hk | hk
        · exact hD k hk
        · rw [List.mem_singleton.1 hk]; exact hn0
      · rw [List.nodup_append]
        refine ⟨hnd, by simp, fun a ha b hb e => ?_⟩
        rw [List.mem_singleton.1 hb] at e
        exact hnD (e ▸ ha)
      · intro k n' hk
        rcases Nat.lt_or_ge k D.length with q | q
        · rw [List.getElem?_append_left q] at hk
          rw [← hxvD n' (List.mem_of_getElem? hk)]
          exact af1.rel (q4 k n' hk)
        · rw [List.getElem?_append_right q] at hk
          have hk0 : k - D.length = 0 := by
            rcases hx : k - D.length with _ | z
            · rfl
            · rw [hx] at hk; simp at hk
          rw [hk0] at hk
          simp at hk
          subst hk
          have hkD : k = D.length := by omega
          subst hkD
          rw [hlen] at rv1
          simpa [xv'] using rv1
      · intro b r hb hr
        obtain ⟨T1, s1, es1, hown⟩ := maker_own (hmk n hn0)
        rcases Nat.lt_or_ge b (m.length + D.length) with q | q
        · have hlt : b < ρ.length := by rw [q1.mem.len, hlen]; exact q
          have h3 : ρ[b]? = some ρ[b] := List.getElem?_eq_getElem hlt
          have := af1.pre b _ h3
          rw [hr] at this
          rw [Option.some.inj this]
          exact hbeh b _ hb h3
        · have hlt : b < ρ1.length := (List.getElem?_eq_some_iff.1 hr).1
          rw [af1.mem.len] at hlt
          simp at hlt
          have hbe : b = (m ++ D.map bl).length := by rw [hlen]; omega
          subst hbe
          rw [← ha, hown] at af1
          exact Nat.le_trans (Nat.le_trans hext.size hw'.size) (new_behind q1.mem af1 hr)

theorem mksT_rel {ops : Array Oper} {w : World} {ρ : List Re} {m : Mem} {tv : Nat → TV} {xv : Nat → Value} : ∀ (ns : List Nat) (k : Nat) (t : List (Nat × V)) (a : Act), (∀ n ∈ ns, dOk N (dstOf ops n)) → Rel N w ρ m t a → (∀ (i n : Nat), ns[i]? = some n → RelV w ρ (bad m ρ) ((tv n).inst fun _ => k + i) (xv n)) →
    Rel N w ρ m (mksT ops tv ns k t) (putsOf ops xv ns a)
  | [], _, _, _, _, hR, _ => hR
  | n :: ns, k, t, a, hd1, hR, hx => by
    have h0 := hx 0 n rfl
    have hR' := hR.putv (hd1 n List.mem_cons_self) (After.refl hR.mem) h0
    exact mksT_rel ns (k + 1) _ _ (fun n hn => hd1 n (List.mem_cons_of_mem _ hn)) hR' fun i n' hi => by
      have := hx (i + 1) n' (by simpa using hi)
      rw [show k + 1 + i = k + (i + 1) by omega]
      exact this

def hasF (kd : Nat → Kd) (l : List El) : Prop := ∃ i ∈ idxs l, kd i = .f
theorem WDs_sound {ops : Array Oper} {kd : Nat → Kd} {B : World} {L : Nat} (hsel : Region.noSelect ops = true) {Q : List (Nat × V) → Mem → Prop} {Q' : Act → World → Prop} : ∀ (l : List El) {w : World} {ρ : List Re} {m : Mem} {t : List (Nat × V)} {a : Act}, okOrder ops kd l = true → Rel N w ρ m t a →
    ((∃ i ∈ idxs l, kd i = .q) → w = B) → (hasF kd l → Ext B w ∧ Behind B L ρ ∧ L ≤ m.length) → WDs P N ops kd L l t m Q →
    (∀ t' m' a' w' ρ', Q t' m' → Rel N w' ρ' m' t' a' → After w ρ m w' ρ' m' → Q' a' w') → mixL P ops kd B Q' l a w
  | [], w, ρ, m, t, a, _, hR, _, _, h, hQ => fun w' hw => hQ _ _ _ _ _ h (hR.later hw) (After.of_same hR.mem hw)
  | .one i :: l, w, ρ, m, t, a, hok, hR, hB, hF, h, hQ => by
    have hok' := hok
    simp only [okOrder, Bool.and_eq_true, Bool.or_eq_true, decide_eq_true_eq, Bool.not_eq_true', decide_eq_false_iff_not] at hok'
    obtain ⟨⟨⟨⟨⟨_, _⟩, _⟩, ho4⟩, ho5⟩, ho6⟩ := hok'
    have hBl : (∃ j ∈ idxs l, kd j = .q) → w = B := fun ⟨j, hj, hq⟩ => hB ⟨j, by rw [idxs_cons]; exact List.mem_append_right _ hj, hq⟩
    have hFl : hasF kd l → hasF kd (.one i :: l) := fun ⟨j, hj, hq⟩ => ⟨j, by rw [idxs_cons]; exact List.mem_append_right _ hj, hq⟩
    simp only [WDs] at h
    split at h
    · rename_i o ho
      refine ⟨o, ho, ?_⟩
      have step : WDop P N L (kd i) t m o.op o.dst (fun t m => WDs P N ops kd L l t m Q) → kPost P B o a w (kd i) (mixL P ops kd B Q' l) := fun h =>
        WDop_sound (F := hasF kd (.one i :: l)) hR (fun hk => hB ⟨i, by simp [idxs, El.idx], hk⟩) hF (fun hk => ⟨i, by simp [idxs, El.idx], hk⟩) (fun hk => by
          rintro ⟨j, hj, hq⟩
          rw [idxs_cons] at hj
          rcases List.mem_append.1 hj with hj | hj
          · simp only [El.idx, List.mem_singleton] at hj; subst hj; rw [hk] at hq; cases hq
          · rcases ho5 with h5 | h5
            · exact h5 hk
            · unfold noF at h5; rw [List.all_eq_true] at h5; have := h5 j hj; simp [hq] at this) h
          (fun t' m' a' w' ρ' hk hR' af hw hF' => WDs_sound hsel l ho6 hR' (by
            rintro ⟨j, hj, hq⟩
            rcases ho4 with (h4 | h4) | h4
            · rw [hw (.inl h4)]; exact hBl ⟨j, hj, hq⟩
            · rw [hw (.inr h4)]; exact hBl ⟨j, hj, hq⟩
            · unfold noQ at h4; rw [List.all_eq_true] at h4; have := h4 j hj; simp [hq] at this) (fun hf => hF' (hFl hf)) hk (fun t2 m2 a2 w2 ρ2 q1 q2 q3 => hQ _ _ _ _ _ q1 q2 (af.trans q3)))
      cases hg : o.guard with
      | none =>
        rw [hg] at h
        rw [if_pos (by simp [Region.wanted, hg])]
        exact step h
      | some jw =>
        obtain ⟨j, want⟩ := jw
        rw [hg] at h
        simp only at h
        split at h
        · rename_i d hd
          split at h
          · rename_i c hc
            have hr := hR.tm d
            rw [hc] at hr
            have hget : a.tmps[d]? = some (.bool c) := by
              have : a.tmps.getD d undef = .bool c := by
                generalize a.tmps.getD d undef = x at hr
                cases hr; rfl
              rw [Array.getD_eq_getD_getElem?] at this
              cases hx : a.tmps[d]? with
              | none => rw [hx] at this; simp [undef] at this
              | some y => rw [hx] at this; simp at this; rw [this]
            have hy : yielded ops a.tmps j = some c := by
              unfold yielded
              rw [hd]
              simp only [Option.bind_some, hget]
            by_cases hcw : c = want
            · rw [if_pos (by simp [Region.wanted, hg, hy, hcw])]
              exact step (h.1 hcw)
            · rw [if_neg (by simp [Region.wanted, hg, hy, hcw])]
              obtain ⟨hdk, h2⟩ := h.2 hcw
              have hR' : Rel N w ρ m (tput t o.dst (.tup [])) (a.put o.dst undef) := hR.putv hdk (After.refl hR.mem) undef_rel
              exact WDs_sound hsel l ho6 hR' hBl (fun hf => hF (hFl hf)) h2 hQ
          · rename_i hc
            have hr := hR.tm d
            rw [hc] at hr
            have hu : a.tmps.getD d undef = .tuple #[] := by
              generalize a.tmps.getD d undef = x at hr
              cases hr with
              | tup _ xs hl _ => have : xs = #[] := Array.eq_empty_of_size_eq_zero hl.symm
                                 rw [this]
            have hy : yielded ops a.tmps j = none := by
              unfold yielded
              rw [hd]
              simp only [Option.bind_some]
              rw [Array.getD_eq_getD_getElem?] at hu
              cases hx : a.tmps[d]? with
              | none => rfl
              | some y => rw [hx] at hu; simp at hu; subst hu; rfl
            rw [if_neg (by simp [Region.wanted, hg, hy])]
            obtain ⟨hdk, h2⟩ := h
            have hR' : Rel N w ρ m (tput t o.dst (.tup [])) (a.put o.dst undef) := hR.putv hdk (After.refl hR.mem) undef_rel
            exact WDs_sound hsel l ho6 hR' hBl (fun hf => hF (hFl hf)) h2 hQ
          · exact h.elim
        · exact h.elim
    · exact h.elim
  | .grp cs ns :: l, w, ρ, m, t, a, hok, hR, hB, hF, h, hQ => by
    obtain ⟨hg, h14⟩ := grp_iff.1 hok
    simp only [WDs] at h
    obtain ⟨vs, tv, bl, hco, hmk, hrest⟩ := h
    have hnoq : ¬ ∃ k ∈ idxs l, kd k = .q := by
      rintro ⟨k, hk, hq⟩
      have h13 := hg.nq
      unfold noQ at h13
      rw [List.all_eq_true] at h13
      have := h13 k hk
      simp [hq] at this
    have hnd := hg.nd
    rw [List.nodup_append] at hnd
    have dst_of : ∀ {n : Nat} {o : Oper}, ops[n]? = some o → dstOf ops n = o.dst := fun h => by unfold dstOf; rw [h]; rfl
    refine grp_sound (m := m) (t0 := t) (a0 := a) (w0 := w) (ρ0 := ρ) (cs0 := cs) (ns0 := ns) hsel hg hmk (tf := callsT ops cs vs t) ?_ (cs.length + ns.length) cs ns [] vs w ρ t a (fun _ => undef) rfl (fun _ h => h) (fun n => by simp) (fun n h => by cases h) (by simp) hnd.2.1 rfl hco (by simpa using hR) (by simpa using hR) (by simpa using After.refl hR.mem) (Below.refl _ _) (fun _ _ _ _ => rfl) (fun k n h => by simp at h) ?_
    · intro w3 ρ3 ac xv D hRc haf hext hDn hDm hxv hbeh
      have hperm : D.Perm ns := (List.perm_ext_iff_of_nodup hDn hnd.2.1).2 hDm
      have hDl : D.length = ns.length := hperm.length_eq
      have hidx : ∀ n ∈ ns, D.idxOf n < D.length ∧ D[D.idxOf n]? = some n := fun n hn => by
        have h1 : D.idxOf n < D.length := List.idxOf_lt_length_iff.2 ((hDm n).2 hn)
        exact ⟨h1, by rw [List.getElem?_eq_getElem h1, List.getElem_idxOf]⟩
      have hjn : (ns.map D.idxOf).Nodup := by
        rw [List.nodup_iff_pairwise_ne, List.pairwise_map]
        refine (List.nodup_iff_pairwise_ne.1 hnd.2.1).imp_of_mem ?_
        intro x y hx hy hne e
        have h1 := (hidx x hx).2
        rw [e, (hidx y hy).2] at h1
        exact hne (Option.some.inj h1).symm
      have hflat : (ns.map bl).all Blk.flat = true := by
        rw [List.all_map, List.all_eq_true]
        intro n hn
        obtain ⟨o, p, _, _, hm1, _⟩ := hmk n hn
        exact hm1.2.1
      obtain ⟨ρ', hM', af', hnew⟩ := renorm haf.mem (js := ns.map D.idxOf) (E := ns.map bl) (by simp) hjn (by
        intro i j hij
        rw [List.getElem?_map, Option.map_eq_some_iff] at hij
        obtain ⟨n, h1, rfl⟩ := hij
        rw [List.getElem?_map, List.getElem?_map, (hidx n (List.mem_of_getElem? h1)).2, h1]) hflat
      have hdead : deadB (D.map bl) = List.replicate ns.length .dead := by
        unfold deadB
        rw [List.map_map, ← hDl]
        apply List.ext_getElem?
        intro i
        rw [List.getElem?_map, List.getElem?_replicate]
        split
        · rename_i hi; rw [List.getElem?_eq_getElem hi]; rfl
        · rename_i hi; rw [List.getElem?_eq_none (by omega)]; rfl
      rw [hdead] at hM' af' hnew
      have e2 : (m ++ List.replicate ns.length Blk.dead).length = m.length + ns.length := by simp
      have hRel : Rel N w3 ρ' ((m ++ List.replicate ns.length .dead) ++ ns.map bl) (callsT ops cs vs t) ac := ⟨hM', hRc.tm.after af', hRc.size, hRc.defers⟩
      have hfinal := mksT_rel (ops := ops) (tv := tv) (xv := xv) ns (m.length + ns.length) _ _ (fun n hn => by
        obtain ⟨o, p, ho, hd, _⟩ := hmk n hn
        rw [dst_of ho]; exact hd) hRel (fun i n hi => by
        have hn := List.mem_of_getElem? hi
        obtain ⟨o, p, _, _, hm1, _⟩ := hmk n hn
        refine rel_inst (g := fun _ => m.length + ns.length + i) hm1.2.2 (hxv _ n (hidx n hn).2) fun r hr => ?_
        have := hnew i (D.idxOf n) r (by rw [List.getElem?_map, hi]; rfl) hr
        rw [e2] at this
        exact this)
      have hcomm : putsOf ops xv D ac = putsOf ops xv ns ac := by
        refine hperm.foldl_eq' ?_ ac
        intro x hx y hy z
        by_cases hxy : x = y
        · subst hxy; rfl
        · have hx' := (hDm x).1 hx
          have hy' := (hDm y).1 hy
          obtain ⟨ox, _, hox, _⟩ := hmk x hx'
          obtain ⟨oy, _, hoy, _⟩ := hmk y hy'
          have := (hg.ap x hx' y (List.mem_append_right _ hy') hxy).1
          unfold apartB at this
          rw [hox, hoy] at this
          rw [dst_of hox, dst_of hoy]
          exact Act.put_comm z (xv x) (xv y) (Oper.apart_spec this).2.1
      rw [hcomm]
      refine WDs_sound hsel l h14 hfinal (fun h => (hnoq h).elim) (fun hf => ?_) hrest (fun t2 m2 a2 w2 ρ2 q1 q2 q3 => hQ _ _ _ _ _ q1 q2 ((haf.trans af').trans q3))
      obtain ⟨f1, f2, f3⟩ := hF (by obtain ⟨k, hk, hq⟩ := hf; exact ⟨k, by rw [idxs_cons]; exact List.mem_append_right _ hk, hq⟩)
      refine ⟨f1.trans hext, ?_, by simp; omega⟩
      intro b r hb hr
      have l3 : ρ3.length = m.length + ns.length := by have := haf.mem.len; simp only [List.length_append, List.length_map] at this; omega
      have l' : ρ'.length = m.length + ns.length + ns.length := by have := hM'.len; simp only [List.length_append, List.length_map, List.length_replicate] at this; omega
      have hblt : b < ρ'.length := (List.getElem?_eq_some_iff.1 hr).1
      have low : ∀ (b : Nat) r, m.length ≤ b → ρ3[b]? = some r → B.heap.size ≤ r.blk := fun b r h1 h2 => Nat.le_trans f1.size (hbeh b r h1 h2)
      rcases Nat.lt_or_ge b (m.length + ns.length) with q | q
      · have h3 : ρ3[b]? = some (ρ3[b]'(by omega)) := List.getElem?_eq_getElem (by omega)
        have := af'.pre b _ h3
        rw [hr] at this
        cases this
        rcases Nat.lt_or_ge b m.length with q2 | q2
        · have hlt : b < ρ.length := by rw [hR.mem.len]; exact q2
          have h4 : ρ[b]? = some ρ[b] := List.getElem?_eq_getElem hlt
          have := haf.pre b _ h4
          rw [h3] at this
          rw [Option.some.inj this]
          exact f2 b _ hb h4
        · exact low b _ q2 h3
      · have hi : b - (m.length + ns.length) < ns.length := by omega
        have hn : ns[b - (m.length + ns.length)]? = some (ns[b - (m.length + ns.length)]) := List.getElem?_eq_getElem hi
        have hid := hidx _ (List.mem_of_getElem? hn)
        have h7 : ρ3[m.length + D.idxOf (ns[b - (m.length + ns.length)])]? = some (ρ3[m.length + D.idxOf (ns[b - (m.length + ns.length)])]'(by omega)) := List.getElem?_eq_getElem (by omega)
        have h8 := hnew (b - (m.length + ns.length)) _ _ (by rw [List.getElem?_map, hn]; rfl) h7
        rw [e2, show m.length + ns.length + (b - (m.length + ns.length)) = b by omega, hr] at h8
        rw [Option.some.inj h8]
        exact low _ _ (by omega) h7
    · intro b r hb hr
      have := (List.getElem?_eq_some_iff.1 hr).1
      rw [hR.mem.len] at this
      omega

theorem WA_draw {id : Nat} {l : List Oper} {t : List (Nat × V)} {m : Mem} {Q : Exit → List (Nat × V) → Mem → Prop} (hm : P.follows .mixedOrders = true) (kd : Nat → Kd) (order : List El) (hok : okMix l.toArray kd order = true)
    (h : WDs P N l.toArray kd m.length order t m (fun t m => Q .normal t m)) : WA P N (.region id l.toArray true) t m Q := by
  intro w ρ a hR
  have hok' := hok
  simp only [okMix, Bool.and_eq_true] at hok'
  refine wp_region_mix order hm hok (WDs_sound (B := w) (L := m.length) hok'.2 order hok'.1.1.1 hR (fun _ => rfl) (fun _ => ⟨Below.refl _ _, ?_, Nat.le_refl _⟩) h ?_)
  · intro b r hb hr
    have := (List.getElem?_eq_some_iff.1 hr).1
    rw [hR.mem.len] at this
    omega
  · intro t' m' a' w' ρ' h1 h2 h3
    exact ⟨t', m', ρ', h1, h2, h3⟩
end
end Go.Proofs.Yteogokmbedmkjaa
