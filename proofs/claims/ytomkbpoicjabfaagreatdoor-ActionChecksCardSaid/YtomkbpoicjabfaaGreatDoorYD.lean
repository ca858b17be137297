import Derived.Test.YtomkbpoicjabfaaGreatDoorYB
import Derived.IntWalk
set_option linter.unusedSimpArgs false
set_option linter.unusedVariables false
/- the plain reading, step by step: one rule for each operation, one for each kind of code -/
namespace Go.Proofs.YtomkbpoicjabfaaGreatDoor
open Go.RowKit

section
variable {P:Program} {N:Nat} {t:List (Nat×V)} {m:Mem} {Q:List (Nat×V)→Mem→Prop} {ops:Array Oper} {rest:List Oper}

theorem WOs_nil(h:Q t m):WOs P N ops [] t m Q:=h
theorem WOp_of{op:Op}{dst:Option Nat}{K:List (Nat×V)→Mem→Prop}(hd:dOk N dst)(h:match evA P t m op with
    |some (p,v,m')=>p∧K (tput t dst v) m'
    |none=>False):WOp P N t m op dst K:=by
  refine⟨hd,?_⟩
  split
  · exact h.elim
  · split at h
    · rename_i he
      rw [he]
      exact h
    · exact h.elim
theorem WOs_op{d:Option Nat}{op:Op}{ty:TypeId}{pos:String}{af:Array Edge}(hd:dOk N d)(h:∀ K:List (Nat×V)→Mem→Prop,(∀ t m,WOs P N ops rest t m Q→K t m)→match evA P t m op with
    |some (p,v,m')=>p∧K (tput t d v) m'
    |none=>False):WOs P N ops (⟨d,op,ty,pos,af,none⟩::rest) t m Q:=
  WOp_of hd (h _ fun _ _ h=>h)
theorem WOs_yes{d:Option Nat}{op:Op}{ty:TypeId}{pos:String}{af:Array Edge}{j e:Nat}{want:Bool}(hj:(ops[j]?).bind (·.dst)=some e)(ht:tget t e= .bool want)(h:WOs P N ops (⟨d,op,ty,pos,af,none⟩::rest) t m Q):
    WOs P N ops (⟨d,op,ty,pos,af,some (j,want)⟩::rest) t m Q:=by
  unfold WOs
  simp only [hj,ht]
  exact⟨fun _=>h,fun hn=>(hn trivial).elim⟩
theorem WOs_no{d:Option Nat}{op:Op}{ty:TypeId}{pos:String}{af:Array Edge}{j e:Nat}{want c:Bool}(hj:(ops[j]?).bind (·.dst)=some e)(ht:tget t e= .bool c)(hc:(c==want)=false)(hd:dOk N d)(h:WOs P N ops rest (tput t d (.tup [])) m Q):
    WOs P N ops (⟨d,op,ty,pos,af,some (j,want)⟩::rest) t m Q:=by
  have hne:¬ c=want:=by simpa using hc
  unfold WOs
  simp only [hj,ht]
  exact⟨fun e=>(hne e).elim,fun _=>⟨hd,h⟩⟩
theorem WOs_no'{d:Option Nat}{op:Op}{ty:TypeId}{pos:String}{af:Array Edge}{j e:Nat}{want:Bool}(hj:(ops[j]?).bind (·.dst)=some e)(hd:dOk N d)(ht:tget t e= .bool (!want))(h:WOs P N ops rest (tput t d (.tup [])) m Q):
    WOs P N ops (⟨d,op,ty,pos,af,some (j,want)⟩::rest) t m Q:=WOs_no hj ht (by cases want<;>rfl) hd h
theorem WOs_noU{d:Option Nat}{op:Op}{ty:TypeId}{pos:String}{af:Array Edge}{j e:Nat}{want:Bool}(hj:(ops[j]?).bind (·.dst)=some e)(hd:dOk N d)(ht:tget t e= .tup [])(h:WOs P N ops rest (tput t d (.tup [])) m Q):
    WOs P N ops (⟨d,op,ty,pos,af,some (j,want)⟩::rest) t m Q:=by
  unfold WOs
  simp only [hj,ht]
  exact⟨hd,h⟩
theorem WOs_call{d:Option Nat}{ty:TypeId}{pos:String}{af:Array Edge}{f:Operand}{args:Array Operand}{ts:Array TypeId}{g:FuncId}{fs cs vs:List V}{R:V→Option Mem→Prop}(hd:dOk N d)(hf:evO t f= .clo (.func g) fs cs)
    (ha:fs++args.toList.map (evO t)++cs=vs) (hc:CallA P g vs m R) (h:∀ v mo,R v mo→WOs P N ops rest (tput t d v) (mo.getD m) Q):WOs P N ops (⟨d,.call ⟨.value f,args,ts⟩,ty,pos,af,none⟩::rest) t m Q:=by
  subst ha
  refine⟨hd,?_⟩
  simp only [hf]
  exact .inl (hc.mono fun v mo hr=>h v mo hr)
theorem WOs_gives{d:Option Nat}{ty:TypeId}{pos:String}{af:Array Edge}{f:Operand}{args:Array Operand}{ts:Array TypeId}{g:FuncId}{fs cs vs:List V}{v:V}(hd:dOk N d)(hf:evO t f= .clo (.func g) fs cs)
    (ha:fs++args.toList.map (evO t)++cs=vs) (hc:Gives P g vs m v) (h:WOs P N ops rest (tput t d v) m Q):WOs P N ops (⟨d,.call ⟨.value f,args,ts⟩,ty,pos,af,none⟩::rest) t m Q:=by
  refine WOs_call hd hf ha hc ?_
  rintro v mo ⟨rfl,rfl⟩
  exact h
/-- two ways on from here, by a bool that has just come up -/
theorem WOs_split{b:Bool}{i:Nat}(h1:b=true→WOs P N ops rest ((i,.bool true)::t) m Q)(h2:b=false→WOs P N ops rest ((i,.bool false)::t) m Q):WOs P N ops rest ((i,.bool b)::t) m Q:=by
  cases b
  · exact h2 rfl
  · exact h1 rfl
def dOkB(N:Nat):Option Nat→Bool
  |none=>true
  |some d=>Nat.blt d N
theorem dOk_b{d:Option Nat}(h:dOkB N d=true):dOk N d:=by
  cases d with
  |none=>trivial
  |some d=>exact Nat.le_of_ble_eq_true h
/-- '[]byte(s)' -/
theorem s_cv{d:Nat}{S D:TypeId}{x:Operand}{ty:TypeId}{pos:String}{af:Array Edge}{s:List UInt8}(h:WOs P N ops rest ((d,.lst (s.map fun b=>[V.int .u8 b.toNat]))::t) m Q)(hx:evO t x= .str s)(hl:s.length≤maxLen)(hd:dOkB N (some d)=true:=by first|exact rfl|fail)(hb:bytesT P S D=true:=by first|exact rfl|fail):
    WOs P N ops (⟨some d,.convert S D x,ty,pos,af,none⟩::rest) t m Q:=by
  have he:evA P t m (.convert S D x)=none:=by
    simp only [evA,hx]
    split<;>first|rfl|(rename_i h;cases h)
  refine⟨dOk_b hd,?_⟩
  simp only [he,cvStr,hx,hb,if_true]
  exact⟨hl,h⟩
/-- only these slots matter from here -/
def pickT(ks:List Nat)(t:List (Nat×V)):List (Nat×V):=ks.map fun k=>(k,tget t k)
/-! the operations, one by one -/
theorem ev_move(x:Operand):evA P t m (.move x)=some (True,evO t x,m):=rfl
theorem ev_assign(x:Operand):evA P t m (.assign x)=some (True,evO t x,m):=rfl
theorem ev_pick(c a b:Operand):evA P t m (.pick c a b)=match evO t c with
    | .bool c=>some (True,if c=true then evO t a else evO t b,m)
    |_=>none:=rfl
theorem ev_alloc(T:TypeId):evA P t m (.alloc T)=match zeT P T with
    |some zs=>if 0<zs.length∧zs.length≤1000000 then some (True,.ptr m.length 0 0,m++[.cells .own T zs.length [zs]]) else none
    |none=>none:=rfl
theorem ev_box(T:TypeId)(x:Operand):evA P t m (.box T x)=match cellsV (evO t x) with
    |some xs=>if 0<xs.length∧xs.length≤1000000 then some (True,.ptr m.length 0 0,m++[.cells .own T xs.length [xs]]) else none
    |none=>none:=rfl
def evLoad (P:Program) (m:Mem) (T:TypeId):V→Res
  | .bp cs o=>okO m (partV P T cs o)
  | .ptr b i o=>match m[b]? with
    | some (.cells _ _ _ es)=>match es[i]? with
      |some e=>okO m (partV P T e o)
      |none=>none
    |_=>none
  |_=>none
theorem ev_load(T:TypeId)(x:Operand):evA P t m (.load T x)=evLoad P m T (evO t x):=rfl
def evStore (P:Program) (m:Mem) (T:TypeId):V→Option (List V)→Res
  | .ptr b i o,some xs=>match m[b]? with
    | some (.cells .own ty sz es)=>match es[i]? with
      |some e=>if xs.length=szT P T∧0<xs.length∧o+xs.length≤sz then some (True,.any,m.set b (.cells .own ty sz (es.set i (setAt e o xs)))) else none
      |none=>none
    |_=>none
  |_,_=>none
theorem ev_store(T:TypeId)(x y:Operand):evA P t m (.store T x y)=evStore P m T (evO t x) (cellsV (evO t y)):=by
  simp only [evA,evOp]
  generalize evO t x=a
  generalize cellsV (evO t y)=b
  rfl
def evB (P:Program) (m:Mem) (op:BinOp) (T:TypeId) (x y:V):Res:=match evEq P op T x y with
  |some v=>some (True,v,m)
  | none=>match evBin op x y with
    |some (p,v)=>some (p,v,m)
    |none=>none
theorem ev_binOp(op:BinOp)(T:TypeId)(x y:Operand)(T':TypeId):evA P t m (.binOp op T x y T')=evB P m op T (evO t x) (evO t y):=rfl
theorem ev_unOp(op:UnOp)(T:TypeId)(x:Operand):evA P t m (.unOp op T x)=okO m (evUn op (evO t x)):=rfl
theorem ev_extract(x:Operand)(i:Nat):evA P t m (.extract x i)=match evO t x with
    | .tup vs=>okO m (vs[i]?)
    |_=>none:=rfl
def evFA (P:Program) (m:Mem) (T:TypeId) (j:Nat) (x:V):Res:=match fdT P T j,x with
    |some (off,_),.bp cs o=>okR m (.bp cs (o+off))
    |some (off,_),.ptr b i o=>okR m (.ptr b i (o+off))
    |_,_=>none
theorem ev_fieldAddr(T:TypeId)(x:Operand)(j:Nat):evA P t m (.fieldAddr T x j)=evFA P m T j (evO t x):=rfl
def evF (P:Program) (m:Mem) (T:TypeId) (j:Nat) (x:V):Res:=match fdT P T j,x with
    |some (off,ft),.agg cs=>okO m (partV P ft cs off)
    |_,_=>none
theorem ev_field(T:TypeId)(x:Operand)(j:Nat):evA P t m (.field T x j)=evF P m T j (evO t x):=rfl
def evIA (P:Program) (m:Mem) (T:TypeId) (x ix:V):Res:=match ix with
    | .int _ n=>match slT P T,x with
      | some E,.lst es=>match es[n.toNat]? with
        |some e=>if e.length=szT P E∧0<szT P E then some (0≤n,.bp e 0,m) else none
        |none=>none
      | some E,.sl b k=>match m[b]? with
        |some (.cells _ _ sz _)=>if sz=szT P E∧0<szT P E then some (0≤n∧n<(k:Int),.ptr b n.toNat 0,m) else none
        |_=>none
      | _,.bp cs o=>match arT P T with
        |some (k,E)=>if 0<szT P E then some (0≤n∧n<(k:Int),.bp cs (o+n.toNat * szT P E),m) else none
        |none=>none
      | _,.ptr b i o=>match arT P T with
        |some (k,E)=>if 0<szT P E then some (0≤n∧n<(k:Int),.ptr b i (o+n.toNat * szT P E),m) else none
        |none=>none
      |_,_=>none
    |_=>none
theorem ev_indexAddr(T:TypeId)(x ix:Operand):evA P t m (.indexAddr T x ix)=evIA P m T (evO t x) (evO t ix):=rfl
def evI (P:Program) (m:Mem) (T:TypeId) (x ix:V):Res:=match evStrIdx P T x ix with
  |some (p,v)=>some (p,v,m)
  | none=>match ix,arT P T,x with
    | .int _ n,some (k,E),.agg cs=>match partV P E cs (n.toNat * szT P E) with
      |some v=>if 0<szT P E then some (0≤n∧n<(k:Int),v,m) else none
      |none=>none
    |_,_,_=>none
theorem ev_index(T:TypeId)(x ix:Operand):evA P t m (.index T x ix)=evI P m T (evO t x) (evO t ix):=rfl
theorem ev_nilCheck(x:Operand):evA P t m (.nilCheck x)=match evO t x with
    | .ptr b i o=>okR m (.ptr b i o)
    | .bp cs o=>okR m (.bp cs o)
    |_=>none:=rfl
theorem ev_makeFunc(fn:Fn)(f c:Array Operand):evA P t m (.makeFunc fn f c)=some (True,.clo fn (f.toList.map (evO t)) (c.toList.map (evO t)),m):=rfl
def evBuild (P:Program) (m:Mem) (T:TypeId) (vs:List (Nat×V)):Res:=match zeT P T with
    | some zs=>match arT P T with
      | some (_,E)=>if 0<szT P E then
          match fillV (fun i=>some (i * szT P E,szT P E)) zs vs with
          |some cs=>okR m (.agg cs)
          |none=>none
        else none
      | none=>if stT P T=true then
          match fillV (fun i=>(fdT P T i).map fun(o,ft)=>(o,szT P ft)) zs vs with
          |some cs=>okR m (.agg cs)
          |none=>none
        else none
    |none=>none
theorem ev_build(T:TypeId)(parts:Array (Nat×Operand)):evA P t m (.build T parts)=evBuild P m T (parts.toList.map fun(i,x)=>(i,evO t x)):=rfl
theorem ev_makeSlice(T:TypeId)(l c:Operand):evA P t m (.makeSlice T l c)=evMake P t m T l c:=rfl
theorem ev_buildSlice(T:TypeId)(n:Nat)(parts:Array (Nat×Operand)):evA P t m (.buildSlice T n parts)=evBuildSl P t m T n parts:=rfl
theorem ev_convert(S D:TypeId)(x:Operand):evA P t m (.convert S D x)=match intT P S,intT P D,evO t x with
    |some _,some k,.int _ n=>okR m (.int k (k.wrap n))
    |_,_,_=>none:=rfl
theorem ev_len(x:Operand)(T:TypeId):evA P t m (.call ⟨.builtin .len,#[x],#[T]⟩)=okO m (evLen P T (evO t x)):=rfl
theorem ev_max(x y:Operand)(ts:Array TypeId):evA P t m (.call ⟨.builtin .max,#[x,y],ts⟩)=okO m (evMax (evO t x) (evO t y)):=rfl
theorem ev_min(x y:Operand)(ts:Array TypeId):evA P t m (.call ⟨.builtin .min,#[x,y],ts⟩)=okO m (evMin (evO t x) (evO t y)):=rfl
theorem ev_append(s x:Operand)(T T':TypeId):evA P t m (.call ⟨.builtin .append,#[s,x],#[T,T']⟩)=if T'=T then evAppend P t m T s x else none:=rfl

/-! numbers -/
theorem b_add{T:TypeId}{k:IntKind}{a b:Int}:evB P m .add T (.int k a) (.int k b)=some (True,.int k (k.wrap (a+b)),m):=by simp [evB,evEq,evBin]
theorem b_sub{T:TypeId}{k:IntKind}{a b:Int}:evB P m .sub T (.int k a) (.int k b)=some (True,.int k (k.wrap (a - b)),m):=by simp [evB,evEq,evBin]
theorem b_mul{T:TypeId}{k:IntKind}{a b:Int}:evB P m .mul T (.int k a) (.int k b)=some (True,.int k (k.wrap (a * b)),m):=by simp [evB,evEq,evBin]
theorem b_quo{T:TypeId}{k:IntKind}{a b:Int}:evB P m .quo T (.int k a) (.int k b)=some (b≠0,.int k (k.wrap (a.tdiv b)),m):=by simp [evB,evEq,evBin]
theorem b_rem{T:TypeId}{k:IntKind}{a b:Int}:evB P m .rem T (.int k a) (.int k b)=some (b≠0,.int k (a.tmod b),m):=by simp [evB,evEq,evBin]
theorem b_eql{T:TypeId}{k:IntKind}{a b:Int}:evB P m .eql T (.int k a) (.int k b)=some (True,.bool (decide (a=b)),m):=by simp [evB,evEq,eqV,evBin]
theorem b_neq{T:TypeId}{k:IntKind}{a b:Int}:evB P m .neq T (.int k a) (.int k b)=some (True,.bool (!decide (a=b)),m):=by simp [evB,evEq,eqV,evBin]
theorem b_lss{T:TypeId}{k:IntKind}{a b:Int}:evB P m .lss T (.int k a) (.int k b)=some (True,.bool (decide (a<b)),m):=by simp [evB,evEq,evBin]
theorem b_leq{T:TypeId}{k:IntKind}{a b:Int}:evB P m .leq T (.int k a) (.int k b)=some (True,.bool (decide (a≤b)),m):=by simp [evB,evEq,evBin]
theorem b_gtr{T:TypeId}{k:IntKind}{a b:Int}:evB P m .gtr T (.int k a) (.int k b)=some (True,.bool (decide (b<a)),m):=by simp [evB,evEq,evBin]
theorem b_geq{T:TypeId}{k:IntKind}{a b:Int}:evB P m .geq T (.int k a) (.int k b)=some (True,.bool (decide (b≤a)),m):=by simp [evB,evEq,evBin]
theorem b_and{T:TypeId}{k:IntKind}{a b:Int}:evB P m .and T (.int k a) (.int k b)=some (True,.int k (bits .and k a b),m):=by simp [evB,evEq,evBin]
theorem b_or{T:TypeId}{k:IntKind}{a b:Int}:evB P m .or T (.int k a) (.int k b)=some (True,.int k (bits .or k a b),m):=by simp [evB,evEq,evBin]
theorem b_xor{T:TypeId}{k:IntKind}{a b:Int}:evB P m .xor T (.int k a) (.int k b)=some (True,.int k (bits .xor k a b),m):=by simp [evB,evEq,evBin]
theorem b_shr{T:TypeId}{k j:IntKind}{a b:Int}:evB P m .shr T (.int k a) (.int j b)=some (0≤b,.int k (a.fdiv (2 ^ (min b.toNat k.bits))),m):=by simp [evB,evEq,evBin]
theorem b_sadd{T:TypeId}{a b:List UInt8}:evB P m .add T (.str a) (.str b)=some (a.length+b.length≤1000000000,.str (a++b),m):=by simp [evB,evEq,evBin]
theorem b_seql{T:TypeId}{a b:List UInt8}:evB P m .eql T (.str a) (.str b)=some (True,.bool (decide (a=b)),m):=by simp [evB,evEq,eqV,evBin]
theorem b_sneq{T:TypeId}{a b:List UInt8}:evB P m .neq T (.str a) (.str b)=some (True,.bool (!decide (a=b)),m):=by simp [evB,evEq,eqV,evBin]
theorem i64w{n:Int}(h1: -9223372036854775808≤n)(h2:n≤9223372036854775807):IntKind.i64.wrap n=n:=IntWalk.i64_in n ⟨h1,h2⟩
theorem u_not{b:Bool}:evUn .not (.bool b)=some (.bool (!b)):=rfl
theorem u_neg{k:IntKind}{a:Int}:evUn .neg (.int k a)=some (.int k (k.wrap (-a))):=rfl
theorem okO_some{v:V}:okO m (some v)=some (True,v,m):=rfl
theorem okR_eq{v:V}:okR m v=some (True,v,m):=rfl
theorem evO_tmp{i:Nat}:evO t (.tmp i)=tget t i:=rfl
theorem evO_const{c:Value}:evO t (.const c)=ofC c:=rfl
theorem evO_glb{g:Nat}:evO t (.global g)=gval g:=rfl
theorem evO_func{f:FuncId}:evO t (.func f)= .clo (.func f) [] []:=rfl
theorem ofC_int{k:IntKind}{n:Int}:ofC (.int k n)= .int k n:=rfl
theorem ofC_bool{b:Bool}:ofC (.bool b)= .bool b:=rfl
theorem tput_some{d:Nat}{v:V}:tput t (some d) v=(d,v)::t:=rfl
theorem tput_none{v:V}:tput t none v=t:=rfl

theorem WOs_splitD{p:Prop} [Decidable p] {i:Nat}(h1:p→WOs P N ops rest ((i,.bool true)::t) m Q)(h2:¬ p→WOs P N ops rest ((i,.bool false)::t) m Q):WOs P N ops rest ((i,.bool (decide p))::t) m Q:=
  WOs_split (fun h=>h1 (of_decide_eq_true h)) (fun h=>h2 (of_decide_eq_false h))
theorem WOs_splitN{p:Prop} [Decidable p] {i:Nat}(h1:¬ p→WOs P N ops rest ((i,.bool true)::t) m Q)(h2:p→WOs P N ops rest ((i,.bool false)::t) m Q):WOs P N ops rest ((i,.bool (!decide p))::t) m Q:=
  WOs_split (fun h=>h1 (by simpa using h)) (fun h=>h2 (by simpa using h))
theorem WA_condT{c:Operand}{x y:Code}{Q:Exit→List (Nat×V)→Mem→Prop}(hc:evO t c= .bool true)(h:WA P N x t m Q):WA P N (.cond c x y) t m Q:=WA_cond hc (fun _=>h) (fun e=>by cases e)
theorem WA_condF{c:Operand}{x y:Code}{Q:Exit→List (Nat×V)→Mem→Prop}(hc:evO t c= .bool false)(h:WA P N y t m Q):WA P N (.cond c x y) t m Q:=WA_cond hc (fun e=>by cases e) (fun _=>h)

/-! regions that draw their order -/
variable {kd:Nat→Kd} {l:List El} {L:Lim}
theorem WDs_nil(h:Q t m):WDs P N ops kd L [] t m Q:=h
theorem WDs_one{i:Nat}{o:Oper}(hi:ops[i]?=some o)(hg:o.guard=none)(h:WDop P N L (kd i) t m o.op o.dst (fun t m=>WDs P N ops kd L l t m Q)):WDs P N ops kd L (.one i::l) t m Q:=by
  simp only [WDs,hi,hg];exact h
theorem WDs_op{i:Nat}{d:Option Nat}{op:Op}{ty:TypeId}{pos:String}{af:Array Edge}(hi:ops[i]?=some ⟨d,op,ty,pos,af,none⟩)(hd:dOk N d)(h:∀ K:List (Nat×V)→Mem→Prop,(∀ t m,WDs P N ops kd L l t m Q→K t m)→match evA P t m op with
    |some (p,v,m')=>p∧kOk P L (kd i) t op m m' v∧K (tput t d v) m'
    |none=>False):WDs P N ops kd L (.one i::l) t m Q:=by
  refine WDs_one hi rfl ⟨hd,?_⟩
  have h:=h _ fun _ _ h=>h
  dsimp only
  split
  · exact h.elim
  · split at h
    · rename_i he;rw [he];exact h
    · exact h.elim
theorem WDs_yes{i:Nat}{d:Option Nat}{op:Op}{ty:TypeId}{pos:String}{af:Array Edge}{j e:Nat}{want:Bool}(hi:ops[i]?=some ⟨d,op,ty,pos,af,some (j,want)⟩)(hj:(ops[j]?).bind (·.dst)=some e)(ht:tget t e= .bool want)
    (hd:dOk N d) (h:∀ K:List (Nat×V)→Mem→Prop,(∀ t m,WDs P N ops kd L l t m Q→K t m)→match evA P t m op with
    |some (p,v,m')=>p∧kOk P L (kd i) t op m m' v∧K (tput t d v) m'
    |none=>False):WDs P N ops kd L (.one i::l) t m Q:=by
  unfold WDs
  simp only [hi,hj,ht]
  refine⟨fun _=>⟨hd,?_⟩,fun hn=>(hn trivial).elim⟩
  have h:=h _ fun _ _ h=>h
  dsimp only
  split
  · exact h.elim
  · split at h
    · rename_i he;rw [he];exact h
    · exact h.elim
theorem WDs_no{i:Nat}{d:Option Nat}{op:Op}{ty:TypeId}{pos:String}{af:Array Edge}{j e:Nat}{want c:Bool}(hi:ops[i]?=some ⟨d,op,ty,pos,af,some (j,want)⟩)(hj:(ops[j]?).bind (·.dst)=some e)(ht:tget t e= .bool c)(hc:(c==want)=false)(hd:dOk N d)
    (h:WDs P N ops kd L l (tput t d (.tup [])) m Q):WDs P N ops kd L (.one i::l) t m Q:=by
  have hne:¬ c=want:=by simpa using hc
  unfold WDs
  simp only [hi,hj,ht]
  exact⟨fun e=>(hne e).elim,fun _=>⟨hd,h⟩⟩
theorem WDs_no'{i:Nat}{d:Option Nat}{op:Op}{ty:TypeId}{pos:String}{af:Array Edge}{j e:Nat}{want:Bool}(hi:ops[i]?=some ⟨d,op,ty,pos,af,some (j,want)⟩)(hj:(ops[j]?).bind (·.dst)=some e)(hd:dOk N d)(ht:tget t e= .bool (!want))
    (h:WDs P N ops kd L l (tput t d (.tup [])) m Q):WDs P N ops kd L (.one i::l) t m Q:=WDs_no hi hj ht (by cases want<;>rfl) hd h
theorem WDs_noU{i:Nat}{d:Option Nat}{op:Op}{ty:TypeId}{pos:String}{af:Array Edge}{j e:Nat}{want:Bool}(hi:ops[i]?=some ⟨d,op,ty,pos,af,some (j,want)⟩)(hj:(ops[j]?).bind (·.dst)=some e)(hd:dOk N d)(ht:tget t e= .tup [])
    (h:WDs P N ops kd L l (tput t d (.tup [])) m Q):WDs P N ops kd L (.one i::l) t m Q:=by
  unfold WDs
  simp only [hi,hj,ht]
  exact⟨hd,h⟩
theorem WDs_gives{i:Nat}{d:Option Nat}{ty:TypeId}{pos:String}{af:Array Edge}{f:Operand}{args:Array Operand}{ts:Array TypeId}{g:FuncId}{fs cs vs:List V}{v:V}(hi:ops[i]?=some ⟨d,.call ⟨.value f,args,ts⟩,ty,pos,af,none⟩)(hd:dOk N d)(hf:evO t f= .clo (.func g) fs cs)
    (ha:fs++args.toList.map (evO t)++cs=vs) (hk:(kd i= .q∧v.det=true∧L.ty=none)∨kd i= .a∨kd i= .w) (hc:Gives P g vs m v) (h:WDs P N ops kd L l (tput t d v) m Q):WDs P N ops kd L (.one i::l) t m Q:=by
  subst ha
  refine WDs_one hi rfl ⟨hd,?_⟩
  simp only [hf]
  rcases hk with ⟨e,hdet,hT⟩|e|e<;>rw [e]
  · refine⟨v,hdet,?_,h⟩
    rw [hT]
    exact hc
  · exact .inl (hc.mono fun v mo hr=>by obtain⟨rfl,rfl⟩:=hr;exact⟨rfl,h⟩)
  · exact hc.mono fun v mo hr=>by obtain⟨rfl,rfl⟩:=hr;exact h
/-- a call that looks at no memory of this call's, in a region with calls that write -/
theorem WDs_givesQ{i:Nat}{d:Option Nat}{ty:TypeId}{pos:String}{af:Array Edge}{f:Operand}{args:Array Operand}{ts:Array TypeId}{g:FuncId}{fs cs vs:List V}{v:V}(hi:ops[i]?=some ⟨d,.call ⟨.value f,args,ts⟩,ty,pos,af,none⟩)(hd:dOk N d)(hf:evO t f= .clo (.func g) fs cs)
    (ha:fs++args.toList.map (evO t)++cs=vs) (hk:kd i= .q∧v.det=true) (hc:∀ m,Gives P g vs m v) (h:WDs P N ops kd L l (tput t d v) m Q):WDs P N ops kd L (.one i::l) t m Q:=by
  subst ha
  refine WDs_one hi rfl ⟨hd,?_⟩
  simp only [hf]
  rw [hk.1]
  exact⟨v,hk.2,hc _,h⟩
/-- a call that writes one block -/
theorem WDs_callW{i:Nat}{d:Option Nat}{ty:TypeId}{pos:String}{af:Array Edge}{f:Operand}{args:Array Operand}{ts:Array TypeId}{g:FuncId}{fs cs vs:List V}{v:V}{b:Nat}{blk0 blk':Blk}(hi:ops[i]?=some ⟨d,.call ⟨.value f,args,ts⟩,ty,pos,af,none⟩)(hd:dOk N d)(hf:evO t f= .clo (.func g) fs cs)
    (ha:fs++args.toList.map (evO t)++cs=vs) (hk:kd i= .f) (hc:CallW P g vs b blk0 blk' v) (hb:m[b]?=some blk0) (hm:mayW L b) (h0:blk0.own=true) (h:WDs P N ops kd L l (tput t d v) (m.set b blk') Q):WDs P N ops kd L (.one i::l) t m Q:=by
  subst ha
  refine WDs_one hi rfl ⟨hd,?_⟩
  simp only [hf]
  rw [hk]
  exact⟨b,blk0,blk',v,hb,hm,h0,hc,h⟩
theorem CallA_enter{f:FuncId}{fn:Func}{c:Code}{args:List V}{m:Mem}{R:V→Option Mem→Prop}{n:Nat}{rs:Array ResultVar}(hf:P.funcs[f]?=some fn)(hb:fn.body=some c)(hN:fn.ntmps=n)(hr:fn.results=rs)(hg:isGo P f=true)(hn:args.length≤n)
    (h:WA P n c (argT 0 args) (lend m) (fun e t m'=>(e= .normal∨e= .ret)∧match resV P t m' rs.toList with
      |some v=>Fin m R v m'
      |none=>False)):CallA P f args m R:=by
  subst hN;subst hr
  exact CallA_intro hf hb hg hn h
/-- a quiet contract: one flat result -/
theorem Gives_enter{f:FuncId}{fn:Func}{c:Code}{args:List V}{m:Mem}{n:Nat}{rs:Array ResultVar}{v:V}(hf:P.funcs[f]?=some fn)(hb:fn.body=some c)(hN:fn.ntmps=n)(hr:fn.results=rs)(hg:isGo P f=true)(hn:args.length≤n)(hv:v.flat=true)
    (h:∀ Q:Exit→List (Nat×V)→Mem→Prop,(∀ e t m',(e= .normal∨e= .ret)→resV P t m' rs.toList=some v→Q e t m')→WA P n c (argT 0 args) (lend m) Q):Gives P f args m v:=by
  refine CallA_enter hf hb hN hr hg hn (h _ ?_)
  intro e t m' he hr
  refine⟨he,?_⟩
  rw [hr]
  exact .inl ⟨hv,rfl,rfl⟩

def zipT:List Nat→List V→List (Nat×V)
  |k::ks,v::vs=>(k,v)::zipT ks vs
  |_,_=>[]
theorem zipT_get:∀ (ks:List Nat) (vs:List V) (t:List (Nat×V)),ks.map (tget t)=vs→∀ i,tget (zipT ks vs) i=tget t i∨tget (zipT ks vs) i= .any
  |[],_,_,_,_=> .inr rfl
  |k::ks,[],_,_,_=> .inr rfl
  | k ::ks,v::vs,t,h,i=>by
    simp only [List.map_cons,List.cons.injEq] at h
    show tget ((k,v)::zipT ks vs) i=_∨tget ((k,v)::zipT ks vs) i=_
    by_cases e:k=i
    · subst e;exact .inl (by simp [tget,h.1])
    · have:tget ((k,v)::zipT ks vs) i=tget (zipT ks vs) i:=by simp [tget,e]
      rw [this];exact zipT_get ks vs t h.2 i
/-- a loop whose state is told by 's' -/
theorem WA_while{c:Code}{Q:Exit→List (Nat×V)→Mem→Prop}{σ:Type}(ks:List Nat)(st:σ→List V)(me:σ→Mem)(inv:σ→Prop)(μ:σ→Nat)(s0:σ)(h0:inv s0)(ht:ks.map (tget t)=st s0)(hm:m=me s0)
    (hr:∀ s,inv s→∀ K:List (Nat×V)→Mem→Prop,(∀ s' t' m',ks.map (tget t')=st s'→m'=me s'→inv s'→μ s'<μ s→K t' m')→WA P N c (zipT ks (st s)) (me s) (qThen K Q)):WA P N (.loop c) t m Q:=by
  refine WA_loop (fun n t m=>∃ s,inv s∧n=μ s∧ks.map (tget t)=st s∧m=me s) (n:=μ s0) ⟨s0,h0,rfl,ht,hm⟩ ?_
  rintro n t m ⟨s,h1,rfl,h2,rfl⟩
  refine WA_forget _ (zipT_get ks _ t h2) (hr s h1 _ ?_)
  intro s' t' m' e1 e2 e3 e4
  exact⟨μ s',e4,s',e3,rfl,e1,e2⟩

/-! code, in a row -/
variable {Q Q':Exit→List (Nat×V)→Mem→Prop} {K:List (Nat×V)→Mem→Prop} {x y z:Code}
theorem WA_seq'(h:WA P N x t m (qThen (fun t m=>WA P N y t m Q) Q)):WA P N (.seq x y) t m Q:=
  WA_seq_k fun K hK=>WA_mono h fun e t m h=>by
    cases e with
    |normal=>exact hK _ _ h
    |_=>exact h
theorem qT_WA(h:WA P N y t m Q):qThen (fun t m=>WA P N y t m Q) Q' .normal t m:=h
theorem qT_normal(h:K t m):qThen K Q .normal t m:=h
theorem qT_ret(h:Q .ret t m):qThen K Q .ret t m:=h
theorem qT_exit{id:Nat}(h:Q (.exit id) t m):qThen K Q (.exit id) t m:=h
theorem qB_exit{id:Nat}(h:Q .normal t m):qBlock id Q (.exit id) t m:=by simpa [qBlock] using h
theorem qB_other{id id':Nat}(hne:(id'==id)=false)(h:Q (.exit id') t m):qBlock id Q (.exit id') t m:=by
  have:¬ id'=id:=by simpa using hne
  simpa [qBlock,this] using h
theorem qB_normal{id:Nat}(h:Q .normal t m):qBlock id Q .normal t m:=h
theorem qB_ret{id:Nat}(h:Q .ret t m):qBlock id Q .ret t m:=h
end
end Go.Proofs.YtomkbpoicjabfaaGreatDoor
namespace Go.Proofs.YtomkbpoicjabfaaGreatDoor
open Go.RowKit

theorem u64w{n:Int}(h1:0≤n)(h2:n≤18446744073709551615):IntKind.u64.wrap n=n:=by rw [IntKind.wrap_u64];omega
section
variable {L ext:Mem} {j:Nat} {b:Blk}
theorem mg:(L++ext)[L.length+j]?=ext[j]?:=by rw [List.getElem?_append_right (by omega)];congr 1;omega
theorem ms:(L++ext).set (L.length+j) b=L++ext.set j b:=by
  rw [List.set_append_right _ _ (by omega)];congr 2;omega
theorem mg0:(L++ext)[L.length]?=ext[0]?:=mg (j:=0)
theorem ms0:(L++ext).set L.length b=L++ext.set 0 b:=ms (j:=0)
theorem ma:(L++ext)++[b]=L++(ext++[b]):=List.append_assoc ..
theorem ml:(L++ext).length=L.length+ext.length:=List.length_append
end

section
variable {P:Program} {N:Nat} {t:List (Nat×V)} {m:Mem}
theorem b_aeq{T:TypeId}{c1 c2:List V}:evB P m .eql T (.agg c1) (.agg c2)=match eqT P T with
    | some l=>if c1.length=szT P T∧c2.length=szT P T then (match planEq c1 c2 l with
      |some b=>some (True,.bool b,m)
      |none=>none) else none
    |none=>none:=by
  unfold evB evEq eqV
  cases eqT P T with
  |none=>rfl
  | some l=>
    by_cases hc:c1.length=szT P T∧c2.length=szT P T
    · cases hp:planEq c1 c2 l<;>simp [hc,hp,evBin]
    · simp [hc,evBin]
theorem b_ane{T:TypeId}{c1 c2:List V}:evB P m .neq T (.agg c1) (.agg c2)=match eqT P T with
    | some l=>if c1.length=szT P T∧c2.length=szT P T then (match planEq c1 c2 l with
      |some b=>some (True,.bool (!b),m)
      |none=>none) else none
    |none=>none:=by
  unfold evB evEq eqV
  cases eqT P T with
  |none=>rfl
  | some l=>
    by_cases hc:c1.length=szT P T∧c2.length=szT P T
    · cases hp:planEq c1 c2 l<;>simp [hc,hp,evBin]
    · simp [hc,evBin]
theorem ev_slice(T:TypeId)(x:Operand)(lo hi:Option Operand):evA P t m (.slice T x lo hi none)=match evStrSlice P t T x lo hi with
    |some (p,v)=>some (p,v,m)
    |none=>evSlice P t m T x lo hi:=rfl
theorem maxLen_eq:maxLen=9223372036854775807:=rfl
/-- a quiet contract: one flat result -/
theorem Gives_in{f:FuncId}{fn:Func}{c:Code}{args:List V}{m:Mem}{n:Nat}{rs:Array ResultVar}{v:V}(hf:P.funcs[f]?=some fn)(hb:fn.body=some c)(hN:fn.ntmps=n)(hr:fn.results=rs)(hg:isGo P f=true)(hn:args.length≤n)(hv:v.flat=true)
    (h:∀ Q:Exit→List (Nat×V)→Mem→Prop,(∀ e t m',(e= .normal∨e= .ret)→resV P t m' rs.toList=some v→Q e t m')→WA P n c (argT 0 args) (lend m++[]) Q):Gives P f args m v:=
  Gives_enter hf hb hN hr hg hn hv (by rw [List.append_nil] at h;exact h)
/-- a quiet contract: whatever may be said of the result -/
theorem CallA_in{f:FuncId}{fn:Func}{c:Code}{args:List V}{m:Mem}{n:Nat}{rs:Array ResultVar}{R:V→Option Mem→Prop}(hf:P.funcs[f]?=some fn)(hb:fn.body=some c)(hN:fn.ntmps=n)(hr:fn.results=rs)(hg:isGo P f=true)(hn:args.length≤n)
    (h:∀ Q:Exit→List (Nat×V)→Mem→Prop,(∀ e t m',(e= .normal∨e= .ret)→∀ v,resV P t m' rs.toList=some v→Fin m R v m'→Q e t m')→WA P n c (argT 0 args) (lend m++[]) Q):CallA P f args m R:=by
  refine CallA_enter hf hb hN hr hg hn ?_
  rw [List.append_nil] at h
  refine h _ ?_
  intro e t m' he v hr hF
  refine⟨he,?_⟩
  rw [hr]
  exact hF

section
variable {Q:List (Nat×V)→Mem→Prop} {ops:Array Oper} {rest:List Oper} {d:Nat} {op:Op} {ty:TypeId} {pos:String} {af:Array Edge} {g:FuncId} {ts:Array TypeId} {l:List Operand} {vs:List V} {v:V} {kd:Nat→Kd} {is:List El} {LL:Lim} {i:Nat}
theorem fn_args{t:List (Nat×V)}(l:List Operand){vs:List V}(h:l.map (evO t)=vs):([]:List V)++l.toArray.toList.map (evO t)++[]=vs:=by simpa using h
theorem WDs_split{b:Bool}{k:Nat}(h1:b=true→WDs P N ops kd LL is ((k,.bool true)::t) m Q)(h2:b=false→WDs P N ops kd LL is ((k,.bool false)::t) m Q):WDs P N ops kd LL is ((k,.bool b)::t) m Q:=by
  cases b
  · exact h2 rfl
  · exact h1 rfl
theorem WDs_splitD{p:Prop} [Decidable p] {k:Nat}(h1:p→WDs P N ops kd LL is ((k,.bool true)::t) m Q)(h2:¬ p→WDs P N ops kd LL is ((k,.bool false)::t) m Q):WDs P N ops kd LL is ((k,.bool (decide p))::t) m Q:=
  WDs_split (fun h=>h1 (of_decide_eq_true h)) (fun h=>h2 (of_decide_eq_false h))
theorem WDs_splitN{p:Prop} [Decidable p] {k:Nat}(h1:¬ p→WDs P N ops kd LL is ((k,.bool true)::t) m Q)(h2:p→WDs P N ops kd LL is ((k,.bool false)::t) m Q):WDs P N ops kd LL is ((k,.bool (!decide p))::t) m Q:=
  WDs_split (fun h=>h1 (by simpa using h)) (fun h=>h2 (by simpa using h))
theorem WDs_fn(hi:ops[i]?=some ⟨some d,.call ⟨.value (.func g),l.toArray,ts⟩,ty,pos,af,none⟩)(hd:dOk N (some d))(ha:l.map (evO t)=vs)(hc:Gives P g vs m v)(hk:(kd i= .q∧v.det=true∧LL.ty=none)∨kd i= .a∨kd i= .w)(h:WDs P N ops kd LL is ((d,v)::t) m Q):WDs P N ops kd LL (.one i::is) t m Q:=
  WDs_gives hi hd rfl (fn_args l ha) hk hc h
end
theorem WAn_step{c:Code}{Q:Exit→List (Nat×V)→Mem→Prop}{n:Nat}(h:WA P N c t m (qThen (WAn P N c Q n) Q)):WAn P N c Q (n+1) t m:=h
theorem qT_WAn{c:Code}{Q Q':Exit→List (Nat×V)→Mem→Prop}{n:Nat}(h:WAn P N c Q n t m):qThen (WAn P N c Q n) Q' .normal t m:=h
end
end Go.Proofs.YtomkbpoicjabfaaGreatDoor
namespace Go.Proofs.YtomkbpoicjabfaaGreatDoor
open Go.RowKit

def frzV(b:Nat)(es:List (List V)):V→V
  | .sl b' n=>if b'=b∧n≤es.length then .lst (es.take n) else .sl b' n
  |v=>v

theorem frzV_rel {w:World} {ρ:List Re} {m:Mem} (hM:RelM w ρ m) {b:Nat} {st:Sta} {ty sz:Nat} {es:List (List V)} (hb:m[b]?=some (.cells st ty sz es)) {v:V} {x:Value} (h:RelV w ρ (bad m ρ) v x):
    RelV w ρ (bad (m.set b (.cells .ro ty sz es)) ρ) (frzV b es v) x:=by
  have gen:RelV w ρ (bad (m.set b (.cells .ro ty sz es)) ρ) v x:=(After.of_ro hM hb).rel h
  unfold frzV
  split
  · rename_i b' n
    split
    · rename_i hc
      obtain⟨rfl,hn'⟩:=hc
      cases h with
      | sl _ _ r hr hn hm=>
        obtain⟨r0,cur,k1,k2,k3,k4,k5,k6,k7,k8,k9⟩:=hM.cells b' st ty _ es hb
        rw [hr] at k1
        cases k1
        have hnot:¬ bad (m.set b' (.cells .ro ty sz es)) ρ r.blk:=not_owned hM hb (by simp) hr rfl
        have rv:=rel_sub (w:=w) (ρ:=ρ) (B:=bad (m.set b' (.cells .ro ty sz es)) ρ) (b:=r.blk) (off:=0) (c:=r.cap) (s:=sz) (Y:=fun i j=>(cur[i * sz+j]?).getD undef) (es:=es) (heap_lt k4) hnot (by omega) hm k8 (fun i j e u a1 a2=>by
          obtain⟨b1,y,b2,b3⟩:=k9 i j e u a1 a2
          have hy:((cur[i * sz+j]?).getD undef)=y:=by rw [b2];rfl
          simp only [hy]
          refine⟨?_,b3.mono (Nat.le_refl _) (fun _ _ _=>rfl) (fun k _ ho=>owned_demote rfl ho) (fun _ _ h=>h),b1⟩
          simp [World.cell?,k4,b2]) (l:=0) (h:=n) (Nat.zero_le _) hn'
        simp only [List.drop_zero,Nat.sub_zero,Nat.zero_mul,Nat.add_zero,ite_self] at rv
        exact rv
    · exact gen
  · exact gen
section
variable {P:Program} {N:Nat} {t:List (Nat×V)} {m:Mem} {Q:List (Nat×V)→Mem→Prop} {ops:Array Oper} {rest:List Oper} {d:Nat} {ty:TypeId} {pos:String} {af:Array Edge} {g:FuncId} {ts:Array TypeId} {l:List Operand} {vs vs':List V} {v:V} {m':Mem}
end
end Go.Proofs.YtomkbpoicjabfaaGreatDoor
namespace Go.Proofs.YtomkbpoicjabfaaGreatDoor
open Go.RowKit

def Blk.foreign:Blk→Bool
  | .cells .own _ _ _=>false
  | .obj .own _ _=>false
  |_=>true
theorem After.drop {w w1:World} {ρ ρ1:List Re} {m m2 ext:Mem} (hM:RelM w ρ m) (af:After w ρ m w1 ρ1 (m2++ext)) (hlen:m2.length=m.length)
    (hb:∀ (b:Nat) blk,m2[b]?=some blk→blk.flat=true∨(m[b]?=some blk∧blk.foreign=true)):
    After w ρ m w1 ρ m2∧(∀ k,bad m2 ρ k→bad (m2++ext) ρ1 k)∧(∀ k,owned m2 ρ k→owned (m2++ext) ρ1 k):=by
  have hρ:∀ (b:Nat) blk r,m2[b]?=some blk→ρ1[b]?=some r→ρ[b]?=some r:=by
    intro b blk r h1 h2
    have hlt:b<ρ.length:=by rw [hM.len,←hlen];exact(List.getElem?_eq_some_iff.1 h1).1
    have h3:ρ[b]?=some ρ[b]:=List.getElem?_eq_getElem hlt
    have:=af.pre b _ h3
    rw [h2] at this
    cases this
    exact h3
  have hbad:∀ k,bad m2 ρ k→bad (m2++ext) ρ1 k:=by
    rintro k ⟨b,blk,r,h1,h2,h3,h4⟩
    exact⟨b,blk,r,pre_get h1,h2,af.pre b r h3,h4⟩
  have hown:∀ k,owned m2 ρ k→owned (m2++ext) ρ1 k:=by
    rintro k ⟨b,blk,r,h1,h2,h3,h4⟩
    exact⟨b,blk,r,pre_get h1,h2,af.pre b r h3,h4⟩
  refine⟨⟨af.keep,fun _ _ h=>h,⟨hM.len.trans hlen.symm,?_,?_,?_,hM.glob.mono fun v x h=>h.mono af.keep.size (fun k hk hn=>af.keep.block k hk (fun ho=>hn (bad_of_owned ho))) (fun k hk h=>af.bd k hk (hbad k h)) (fun _ _ h=>h)⟩,fun k hk ho=>af.own k hk (hown k ho),fun k hk ho=>af.bd k hk (hbad k ho)⟩,hbad,hown⟩
  · intro b st ty sz es h
    obtain⟨r,cur,k1,k2,k3,k4,k5,k6,k7,k8,k9⟩:=af.mem.cells b st ty sz es (pre_get h)
    have hr:=hρ b _ r h k1
    refine⟨r,cur,hr,k2,k3,k4,k5,k6,k7,k8,fun i j e v e1 e2=>?_⟩
    obtain⟨g1,y,g2,g3⟩:=k9 i j e v e1 e2
    refine⟨g1,y,g2,?_⟩
    rcases hb b _ h with hf|⟨hm,ho⟩
    · simp only [Blk.flat,List.all_eq_true] at hf
      exact plain_rel (fun k _ h=>hbad k h) g3 (plainL_mem (hf e (List.mem_of_getElem? e1)) v (List.mem_of_getElem? e2))
    · obtain⟨r0,cur0,q1,q2,q3,q4,q5,q6,q7,q8,q9⟩:=hM.cells b st ty sz es hm
      rw [hr] at q1
      cases q1
      have hno:¬ owned m ρ r.blk:=by
        rintro⟨b',blk',r',a1,a2,a3,a4⟩
        have:=hM.inj b b' _ _ _ _ hm (by simp) a1 (Blk.bad_of_own a2) hr a3 a4.symm
        subst this
        rw [hm] at a1
        cases a1
        cases st<;>simp [Blk.foreign,Blk.own] at ho a2
      have hsame:=af.keep.block r.blk (heap_lt q4) hno
      rw [q4] at hsame
      rw [k4] at hsame
      cases hsame
      obtain⟨_,y',g2',g3'⟩:=q9 i j e v e1 e2
      rw [g2] at g2'
      cases g2'
      exact g3'.mono af.keep.size (fun k hk hn=>af.keep.block k hk (fun ho=>hn (bad_of_owned ho))) (fun k hk hh=>af.bd k hk (hbad k hh)) (fun _ _ h=>h)
  · intro b b' blk blk' r r' h1 h2 h3 h4 h5 h6 h7
    exact af.mem.inj b b' blk blk' r r' (pre_get h1) h2 (pre_get h3) h4 (af.pre b r h5) (af.pre b' r' h6) h7
  · intro b st vs φ h
    rcases hb b _ h with hf|⟨hm,ho⟩
    · simp only [Blk.flat,List.isEmpty_iff] at hf
      subst hf
      obtain⟨r',q1,o',xs',q2,q3,q4,q5,_⟩:=af.mem.objs b st [] φ (pre_get h)
      exact⟨_,hρ b _ r' h q1,o',xs',q2,q3,q4,q5,fun i v x h1=>by simp at h1⟩
    · obtain⟨r,k1,k2⟩:=hM.objs b st vs φ hm
      have hno:¬ owned m ρ r.blk:=by
        rintro⟨b',blk',r',a1,a2,a3,a4⟩
        have:=hM.inj b b' _ _ _ _ hm (by simp) a1 (Blk.bad_of_own a2) k1 a3 a4.symm
        subst this
        rw [hm] at a1
        cases a1
        cases st<;>simp [Blk.foreign,Blk.own] at ho a2
      exact⟨r,k1,k2.mono (fun hlt=>af.keep.block r.blk hlt hno) fun v x g3=>g3.mono af.keep.size (fun k hk hn=>af.keep.block k hk (fun ho=>hn (bad_of_owned ho))) (fun k hk hh=>af.bd k hk (hbad k hh)) (fun _ _ h=>h)⟩

/-- may a slot's value be kept where blocks from number n on are let go -/
def V.keeps(n:Nat):V→Bool
  | .ptr b _ _=>decide (b<n)
  | .sl b _=>decide (b<n)
  |v=>v.plain
theorem keeps_rel{w1:World}{ρ ρ1:List Re}{B B':Nat→Prop}{n:Nat}(hn:ρ.length=n)(hpre:∀ (b:Nat) r,ρ[b]?=some r→ρ1[b]?=some r)(hB:∀ k,k<w1.heap.size→B' k→B k){v:V}{x:Value}(h:RelV w1 ρ1 B v x)(hk:v.keeps n=true):RelV w1 ρ B' v x:=by
  have key:∀ (b:Nat) r,b<n→ρ1[b]?=some r→ρ[b]?=some r:=by
    intro b r hb h2
    have h3:ρ[b]?=some ρ[b]:=List.getElem?_eq_getElem (by omega)
    have:=hpre b _ h3
    rw [h2] at this
    cases this
    exact h3
  unfold V.keeps at hk
  split at hk
  · cases h with
    |ptr _ _ _ r hr=>exact .ptr _ _ _ r (key _ r (by simpa using hk) hr)
  · cases h with
    |sl _ _ r hr h1 h2=>exact .sl _ _ r (key _ r (by simpa using hk) hr) h1 h2
  · exact plain_rel hB h hk

theorem zipT_cases:∀ (ks:List Nat) (vs:List V) (t:List (Nat×V)),ks.map (tget t)=vs→∀ i,(tget (zipT ks vs) i= .any∧i ∉ ks)∨(tget (zipT ks vs) i=tget t i∧tget t i∈vs)
  |[],_,_,_,_=> .inl ⟨rfl,by simp⟩
  |k::ks,[],_,h,_=>by simp at h
  | k ::ks,v::vs,t,h,i=>by
    simp only [List.map_cons,List.cons.injEq] at h
    show(tget ((k,v)::zipT ks vs) i=_∧_)∨(tget ((k,v)::zipT ks vs) i=_∧_)
    by_cases e:k=i
    · subst e;exact .inr ⟨by simp [tget,h.1],by rw [h.1];exact List.mem_cons_self⟩
    · have e1:tget ((k,v)::zipT ks vs) i=tget (zipT ks vs) i:=by simp [tget,e]
      rw [e1]
      rcases zipT_cases ks vs t h.2 i with ⟨q1,q2⟩|⟨q1,q2⟩
      · exact .inl ⟨q1,by simp [q2];exact fun h=>e h.symm⟩
      · exact .inr ⟨q1,List.mem_cons_of_mem _ q2⟩
section
variable {P:Program} {N:Nat} {t:List (Nat×V)} {m:Mem}
end
end Go.Proofs.YtomkbpoicjabfaaGreatDoor
namespace Go.Proofs.YtomkbpoicjabfaaGreatDoor
open Go.RowKit

def TV.ok(n k:Nat):TV→Bool
  | .v x=>x.keeps n
  | .ptr i _ _=>decide (i<k)
  | .sl i _=>decide (i<k)
  | .mp i=>decide (i<k)
theorem zipT_map:∀ (ks:List Nat) (vs:List V),ks.Nodup→ks.length=vs.length→ks.map (tget (zipT ks vs))=vs
  |[],[],_,_=>rfl
  |[],_::_,_,h=>by simp at h
  |_::_,[],_,h=>by simp at h
  | k ::ks,v::vs,hn,hl=>by
    have hn':=List.nodup_cons.1 hn
    show tget ((k,v)::zipT ks vs) k::ks.map (tget ((k,v)::zipT ks vs))=v::vs
    have e1:tget ((k,v)::zipT ks vs) k=v:=by simp [tget]
    have e2:ks.map (tget ((k,v)::zipT ks vs))=ks.map (tget (zipT ks vs)):=by
      apply List.map_congr_left
      intro q hq
      have:¬ k=q:=fun e=>hn'.1 (e ▸ hq)
      simp [tget,this]
    rw [e1,e2,zipT_map ks vs hn'.2 (by simpa using hl)]
theorem zipT_at:∀ (ks:List Nat) (vs:List V) (i:Nat),tget (zipT ks vs) i= .any∨∃ p:Nat,ks[p]?=some i∧vs[p]?=some (tget (zipT ks vs) i)
  |[],_,_=> .inl rfl
  |_::_,[],_=> .inl rfl
  | k ::ks,v::vs,i=>by
    show tget ((k,v)::zipT ks vs) i= .any∨∃ p:Nat,(k::ks)[p]?=some i∧(v::vs)[p]?=some (tget ((k,v)::zipT ks vs) i)
    by_cases e:k=i
    · subst e;exact .inr ⟨0,rfl,by simp [tget]⟩
    · have:tget ((k,v)::zipT ks vs) i=tget (zipT ks vs) i:=by simp [tget,e]
      rw [this]
      rcases zipT_at ks vs i with h|⟨p,h1,h2⟩
      · exact .inl h
      · exact .inr ⟨p+1,by simpa using h1,by simpa using h2⟩
section
variable {P:Program} {N:Nat} {t:List (Nat×V)} {m:Mem}
end
end Go.Proofs.YtomkbpoicjabfaaGreatDoor
namespace Go.Proofs.YtomkbpoicjabfaaGreatDoor
open Go.RowKit

theorem frz_plain(m:Mem)(L n:Nat){v:V}(h:v.plain=true)(hb:∀ b k,v≠ .sl b k)(hc:∀ b i o,v≠ .ptr b i o)(ha:∀ cs,v≠ .agg cs)(ht:∀ cs,v≠ .tup cs):frz m L n v=some v:=by
  cases n with
  |zero=>simp [frz,h]
  |succ n=>cases v<;>simp_all [frz]
theorem lend_len{m:Mem}:(lend m).length=m.length:=by simp [lend]
theorem frz_sl{m0 D X:Mem}{n j k:Nat}{st:Sta}{ty sz:Nat}{es:List (List V)}(hX:X[j]?=some (.cells st ty sz es))(hk:k≤es.length)(hp:plainLL (es.take k)=true):
    frz ((lend m0++D)++X) m0.length (n+1) (.sl ((lend m0++D).length+j) k)=some (.lst (es.take k)):=by
  have h1:¬ (lend m0++D).length+j<m0.length:=by simp [lend];omega
  have h2:((lend m0++D)++X)[(lend m0++D).length+j]?=some (.cells st ty sz es):=by
    rw [List.getElem?_append_right (by omega),Nat.add_sub_cancel_left];exact hX
  simp only [frz,if_neg h1,h2,if_pos (And.intro hk hp)]
theorem fin_sl{m0 D X B:Mem}{j k:Nat}{st:Sta}{ty sz:Nat}{es:List (List V)}{R:V→Option Mem→Prop}(hB:B=lend m0++D)(hX:X[j]?=some (.cells st ty sz es))(hk:k≤es.length)(hp:plainLL (es.take k)=true)(h:R (.lst (es.take k)) none):
    Fin m0 R (.sl (B.length+j) k) (B++X):=by
  subst hB
  exact .inr ⟨D++X,_,by simp,frz_sl (n:=3) hX hk hp,h⟩
theorem fin_sl2{m0 D X B:Mem}{j k:Nat}{st:Sta}{ty sz:Nat}{es:List (List V)}{u u':V}{R:V→Option Mem→Prop}(hB:B=lend m0++D)(hX:X[j]?=some (.cells st ty sz es))(hk:k≤es.length)(hp:plainLL (es.take k)=true)(hu:∀ m L,frz m L 3 u=some u')(h:R (.tup [.lst (es.take k),u']) none):
    Fin m0 R (.tup [.sl (B.length+j) k,u]) (B++X):=by
  subst hB
  refine .inr ⟨D++X,_,by simp,?_,h⟩
  show(frzs (frz _ _ 3) _).map V.tup=_
  simp only [frzs,frz_sl (n:=2) hX hk hp,hu,Option.map_some]
theorem frz_int(m:Mem)(L:Nat)(n:Nat)(k:IntKind)(i:Int):frz m L n (.int k i)=some (.int k i):=by cases n<;>simp [frz,V.plain]
theorem frz_bool(m:Mem)(L:Nat)(n:Nat)(b:Bool):frz m L n (.bool b)=some (.bool b):=by cases n<;>simp [frz,V.plain]

/-- what is lent comes back as it was: a function that hands over what it has made, to be written by the caller -/
theorem unlend_after {w w':World} {ρ ρ':List Re} {m ext:Mem} (hM:RelM w ρ m) (af:After w ρ (lend m) w' ρ' (lend m++ext)):After w ρ m w' ρ' (m++ext):=by
  have hno:∀ k,¬ owned (lend m) ρ k:=fun k=>lend_own
  have hbel:Below w.heap.size w w':=⟨af.keep.os,af.keep.tape,af.keep.output,af.keep.size,fun k hk=>af.keep.block k hk (hno k)⟩
  have hlen:(lend m).length=m.length:=lend_len
  have hpreρ:∀ (b:Nat) r,b<m.length→ρ'[b]?=some r→ρ[b]?=some r:=by
    intro b r hb h
    have hlt:b<ρ.length:=by rw [hM.len];exact hb
    have h3:ρ[b]?=some ρ[b]:=List.getElem?_eq_getElem hlt
    have:=af.pre b _ h3
    rw [h] at this;cases this;exact h3
  have hbad:∀ k,bad (m++ext) ρ' k↔bad (lend m++ext) ρ' k:=by
    intro k
    constructor
    · rintro⟨b,blk,r,h1,h2,h3,h4⟩
      rcases Nat.lt_or_ge b m.length with q|q
      · rw [List.getElem?_append_left q] at h1
        exact⟨b,lendB blk,r,pre_get (by simp [lend,h1]),(lendB_bad blk).trans h2,h3,h4⟩
      · rw [List.getElem?_append_right q] at h1
        exact⟨b,blk,r,by rw [List.getElem?_append_right (by omega),hlen];exact h1,h2,h3,h4⟩
    · rintro⟨b,blk,r,h1,h2,h3,h4⟩
      rcases Nat.lt_or_ge b (lend m).length with q|q
      · rw [List.getElem?_append_left q] at h1
        obtain⟨b0,g1,rfl⟩:=lend_get h1
        exact⟨b,b0,r,pre_get g1,(lendB_bad b0).symm.trans h2,h3,h4⟩
      · rw [List.getElem?_append_right q] at h1
        exact⟨b,blk,r,by rw [List.getElem?_append_right (by omega),←hlen];exact h1,h2,h3,h4⟩
  have hmem:RelM w' ρ' (m++ext):=by
    refine⟨by have:=af.mem.len;rw [List.length_append,hlen] at this;rw [List.length_append];exact this,?_,?_,?_,hM.glob.mono fun v x h=>h.mono hbel.size (fun k hk _=>hbel.block k hk) (fun k hk h=>lend_bad.1 (af.bd k hk ((hbad k).1 h))) af.pre⟩
    · intro b st ty sz es h
      rcases Nat.lt_or_ge b m.length with q|q
      · rw [List.getElem?_append_left q] at h
        obtain⟨r,cur,k1,k2,k3,k4,k5,k6,k7,k8,k9⟩:=hM.cells b st ty sz es h
        refine⟨r,cur,af.pre b r k1,k2,k3,(hbel.block _ (heap_lt k4)).trans k4,k5,k6,k7,k8,fun i j e v e1 e2=>?_⟩
        obtain⟨g1,y,g2,g3⟩:=k9 i j e v e1 e2
        refine⟨g1,y,g2,g3.mono hbel.size (fun k hk _=>hbel.block k hk) (fun k hk h=>?_) af.pre⟩
        exact lend_bad.1 (af.bd k hk ((hbad k).1 h))
      · rw [List.getElem?_append_right q] at h
        have h':(lend m++ext)[b]?=some (.cells st ty sz es):=by rw [List.getElem?_append_right (by omega),hlen];exact h
        obtain⟨r,cur,k1,k2,k3,k4,k5,k6,k7,k8,k9⟩:=af.mem.cells b st ty sz es h'
        refine⟨r,cur,k1,k2,k3,k4,k5,k6,k7,k8,fun i j e v e1 e2=>?_⟩
        obtain⟨g1,y,g2,g3⟩:=k9 i j e v e1 e2
        exact⟨g1,y,g2,g3.mono (Nat.le_refl _) (fun _ _ _=>rfl) (fun k _ h=>(hbad k).1 h) (fun _ _ h=>h)⟩
    · have conv:∀ (b:Nat) blk,(m++ext)[b]?=some blk→∃ blk',(lend m++ext)[b]?=some blk'∧(blk≠ .dead→blk'≠ .dead)∧blk'.bad=blk.bad:=by
        intro b blk h
        rcases Nat.lt_or_ge b m.length with q|q
        · rw [List.getElem?_append_left q] at h
          refine⟨lendB blk,pre_get (by simp [lend,h]),fun hd=>?_,lendB_bad blk⟩
          cases blk with
          |cells st ty sz es=>cases st<;>simp [lendB]
          |obj st vs φ=>cases st<;>simp [lendB]
          |dead=>exact(hd rfl).elim
        · rw [List.getElem?_append_right q] at h
          exact⟨blk,by rw [List.getElem?_append_right (by omega),hlen];exact h,fun h=>h,rfl⟩
      intro b b' blk blk' r r' h1 h2 h3 h4 h5 h6 h7
      obtain⟨c1,p1,p2,_⟩:=conv b blk h1
      obtain⟨c2,q1,_,q3⟩:=conv b' blk' h3
      exact af.mem.inj b b' c1 c2 r r' p1 (p2 h2) q1 (q3.trans h4) h5 h6 h7
    · intro b st vs φ h
      rcases Nat.lt_or_ge b m.length with q|q
      · rw [List.getElem?_append_left q] at h
        obtain⟨r,k1,k2⟩:=hM.objs b st vs φ h
        exact⟨r,af.pre b r k1,k2.mono (fun hlt=>hbel.block _ hlt) fun v x g3=>g3.mono hbel.size (fun k hk _=>hbel.block k hk) (fun k hk h=>lend_bad.1 (af.bd k hk ((hbad k).1 h))) af.pre⟩
      · rw [List.getElem?_append_right q] at h
        have h':(lend m++ext)[b]?=some (.obj st vs φ):=by rw [List.getElem?_append_right (by omega),hlen];exact h
        obtain⟨r,k1,k2⟩:=af.mem.objs b st vs φ h'
        exact⟨r,k1,k2.mono (fun _=>rfl) fun v x g3=>g3.mono (Nat.le_refl _) (fun _ _ _=>rfl) (fun k _ h=>(hbad k).1 h) (fun _ _ h=>h)⟩
  refine⟨Keep.of_below hbel,af.pre,hmem,?_,fun k hk h=>lend_bad.1 (af.bd k hk ((hbad k).1 h))⟩
  rintro k hk ⟨b,blk,r,h1,h2,h3,h4⟩
  rcases Nat.lt_or_ge b m.length with q|q
  · rw [List.getElem?_append_left q] at h1
    exact⟨b,blk,r,h1,h2,hpreρ b r q h3,h4⟩
  · rw [List.getElem?_append_right q] at h1
    exact(hno k (af.own k hk ⟨b,blk,r,by rw [List.getElem?_append_right (by omega),hlen];exact h1,h2,h3,h4⟩)).elim

section
variable {P:Program} {N:Nat}
/-- what stands at the end of a body: a value, and the blocks that the caller gets to own with it -/
def FinO(m0:Mem)(R:V→Option Mem→Prop)(v:V)(m':Mem):Prop:=∃ ext,m'=lend m0++ext∧R v (some (m0++ext))
theorem CallA_introO {f:FuncId} {fn:Func} {c:Code} {args:List V} {m:Mem} {R:V→Option Mem→Prop} (hf:P.funcs[f]?=some fn) (hb:fn.body=some c) (hg:isGo P f=true) (hn:args.length≤fn.ntmps)
    (h:WA P fn.ntmps c (argT 0 args) (lend m) (QRet P fn (FinO m R))):CallA P f args m R:=by
  refine⟨hg,fun w ρ xs hM hA=>calls_marks hf hb ?_⟩
  have hM':=hM.lend
  have hA':RelAs w ρ (lend m) args xs:=⟨hA.1,fun i v x h1 h2=>RelV.lend.2 (hA.2 i v x h1 h2)⟩
  refine wpIn_mono (h _ Free.wide w.heap.size w ρ _ (start_rel hM' hA' hn)) ?_
  rintro e a' w' ⟨t',m',ρ',⟨he,hq⟩,hR,af⟩
  split at hq
  · rename_i v hv
    refine⟨he,⟨_,_,hR.defers⟩,fun w1 hsh=>?_⟩
    have af:=af.shut hsh
    have hT1:RelT w1 ρ' m' t' a':=fun i=>(hR.tm i).shut hsh
    obtain⟨x,hrun,hrv⟩:=resV_sound (P:=P) (hR.mem.shut hsh) hT1 hv
    obtain⟨ext,rfl,hr⟩:=hq
    have af':=unlend_after hM af
    have hrv':RelV w1 ρ' (bad (m++ext) ρ') v x:=by
      refine hrv.mono (Nat.le_refl _) (fun _ _ _=>rfl) (fun k _ h=>?_) (fun _ _ h=>h)
      obtain⟨b,blk,r,h1,h2,h3,h4⟩:=h
      rcases Nat.lt_or_ge b m.length with q|q
      · rw [List.getElem?_append_left q] at h1
        exact⟨b,lendB blk,r,pre_get (by simp [lend,h1]),(lendB_bad blk).trans h2,h3,h4⟩
      · rw [List.getElem?_append_right q] at h1
        exact⟨b,blk,r,by rw [List.getElem?_append_right (by rw [lend_len];omega),lend_len];exact h1,h2,h3,h4⟩
    exact⟨x,hrun,v,some (m++ext),x,rfl,hr,.inr ⟨_,ρ',rfl,af',hrv'⟩⟩
  · exact hq.elim
theorem CallA_inO{f:FuncId}{fn:Func}{c:Code}{args:List V}{m:Mem}{n:Nat}{rs:Array ResultVar}{R:V→Option Mem→Prop}(hf:P.funcs[f]?=some fn)(hb:fn.body=some c)(hN:fn.ntmps=n)(hr:fn.results=rs)(hg:isGo P f=true)(hn:args.length≤n)
    (h:∀ Q:Exit→List (Nat×V)→Mem→Prop,(∀ e t m',(e= .normal∨e= .ret)→∀ v,resV P t m' rs.toList=some v→FinO m R v m'→Q e t m')→WA P n c (argT 0 args) (lend m++[]) Q):CallA P f args m R:=by
  subst hN;subst hr
  refine CallA_introO hf hb hg hn ?_
  rw [List.append_nil] at h
  refine h _ ?_
  intro e t m' he v hr hF
  refine⟨he,?_⟩
  rw [hr]
  exact hF
end
/-- a slice of the caller's own, handed to a function that reads it -/
theorem CallA_fz1 {P:Program} {f:FuncId} {B X:Mem} {vs:List V} {R:V→Option Mem→Prop} {j p n:Nat} {st:Sta} {ty sz:Nat} {es:List (List V)} (hX:X[j]?=some (.cells st ty sz es)) (hp:vs[p]?=some (.sl (B.length+j) n)) (hn:n≤es.length)
    (h:CallA P f (vs.set p (.lst (es.take n))) (B++X.set j (.cells .ro ty sz es)) R):CallA P f vs (B++X) fun v mo=>∃ mo0,R v mo0∧mo=some (mo0.getD (B++X.set j (.cells .ro ty sz es))):=by
  refine⟨h.1,fun w ρ xs hM hA=>?_⟩
  have hb:(B++X)[B.length+j]?=some (.cells st ty sz es):=by rw [List.getElem?_append_right (by omega),Nat.add_sub_cancel_left];exact hX
  have hset:(B++X).set (B.length+j) (.cells .ro ty sz es)=B++X.set j (.cells .ro ty sz es):=by
    rw [List.set_append_right _ _ (by omega),Nat.add_sub_cancel_left]
  have af:=After.of_ro hM hb
  rw [hset] at af
  refine(h.2 w ρ xs af.mem ⟨by simpa using hA.1,fun i v x h1 h2=>?_⟩).mono ?_
  · rw [List.getElem?_set] at h1
    split at h1
    · rename_i e
      subst e
      split at h1
      · cases h1
        have hr:=frzV_rel hM hb (hA.2 p _ x hp h2)
        rw [hset] at hr
        have he:frzV (B.length+j) es (.sl (B.length+j) n)= .lst (es.take n):=by simp [frzV,hn]
        rw [he] at hr
        exact hr
      · cases h1
    · exact af.rel (hA.2 i v x h1 h2)
  · rintro e w' ⟨v,mo,x,rfl,hr,hh⟩
    rcases hh with ⟨rfl,hbel,rv⟩|⟨m',ρ',rfl,af',rv⟩
    · exact⟨v,_,x,rfl,⟨none,hr,rfl⟩,.inr ⟨_,ρ,rfl,af.trans (After.of_same af.mem hbel),rv⟩⟩
    · exact⟨v,_,x,rfl,⟨some m',hr,rfl⟩,.inr ⟨_,ρ',rfl,af.trans af',rv⟩⟩
end Go.Proofs.YtomkbpoicjabfaaGreatDoor
namespace Go.Proofs.YtomkbpoicjabfaaGreatDoor
open Go.RowKit

/-- the caller's memory, lent but for one block, which stands behind it -/
def outM(M:Mem)(b:Nat)(blk0:Blk):Mem:=lend (M.set b .dead)++[blk0]
theorem outM_len(M:Mem)(b:Nat)(blk0:Blk):(outM M b blk0).length=M.length+1:=by simp [outM,lend]
theorem outM_get{M:Mem}{b:Nat}{blk0:Blk}(hb:M[b]?=some blk0){i:Nat}{blk:Blk}(h:(outM M b blk0)[i]?=some blk):(i=M.length∧blk=blk0)∨(i<M.length∧i≠b∧∃ b0,M[i]?=some b0∧blk=lendB b0)∨(i=b∧blk= .dead):=by
  unfold outM at h
  have hl:(lend (M.set b .dead)).length=M.length:=by simp [lend]
  rcases Nat.lt_or_ge i M.length with q|q
  · rw [List.getElem?_append_left (by omega)] at h
    obtain⟨b0,g1,g2⟩:=lend_get h
    by_cases e:b=i
    · subst e
      rw [List.getElem?_set,if_pos rfl,if_pos q] at g1
      cases g1
      exact .inr (.inr ⟨rfl,g2⟩)
    · rw [List.getElem?_set,if_neg e] at g1
      exact .inr (.inl ⟨q,fun h=>e h.symm,b0,g1,g2⟩)
  · rw [List.getElem?_append_right (by omega),hl] at h
    rcases hx:i - M.length with _|k
    · rw [hx] at h
      simp at h
      exact .inl ⟨by omega,h.symm⟩
    · rw [hx] at h;simp at h
theorem outM_new(M:Mem)(b:Nat)(blk0:Blk):(outM M b blk0)[M.length]?=some blk0:=by
  unfold outM
  have hl:(lend (M.set b .dead)).length=M.length:=by simp [lend]
  rw [List.getElem?_append_right (by omega),hl];simp
theorem outM_old{M:Mem}{b:Nat}{blk0:Blk}{i:Nat}{b0:Blk}(hi:i≠b)(h:M[i]?=some b0):(outM M b blk0)[i]?=some (lendB b0):=by
  unfold outM
  have hl:(lend (M.set b .dead)).length=M.length:=by simp [lend]
  have hlt:i<M.length:=(List.getElem?_eq_some_iff.1 h).1
  rw [List.getElem?_append_left (by omega)]
  simp [lend,List.getElem?_set,h]
  intro q;exact(hi q.symm).elim
section
variable {w:World} {ρ:List Re} {M:Mem} {b:Nat} {blk0:Blk} {rb:Re}
theorem out_ρ(hM:RelM w ρ M)(hr:ρ[b]?=some rb){i:Nat}{r:Re}(h:(ρ++[rb])[i]?=some r):(i<M.length∧ρ[i]?=some r)∨(i=M.length∧r=rb):=by
  have hl:=hM.len
  rcases Nat.lt_or_ge i ρ.length with q|q
  · rw [List.getElem?_append_left q] at h;exact .inl ⟨by omega,h⟩
  · rw [List.getElem?_append_right q] at h
    rcases hx:i - ρ.length with _|k
    · rw [hx] at h;simp at h;exact .inr ⟨by omega,h.symm⟩
    · rw [hx] at h;simp at h
theorem out_bad(hM:RelM w ρ M)(hb:M[b]?=some blk0)(hr:ρ[b]?=some rb){k:Nat}:bad (outM M b blk0) (ρ++[rb]) k↔bad M ρ k:=by
  constructor
  · rintro⟨i,blk,r,h1,h2,h3,h4⟩
    rcases outM_get hb h1 with ⟨rfl,rfl⟩|⟨q,hne,b0,g1,rfl⟩|⟨_,rfl⟩
    · rcases out_ρ hM hr h3 with ⟨q,_⟩|⟨_,rfl⟩
      · omega
      · exact⟨b,_,_,hb,h2,hr,h4⟩
    · rcases out_ρ hM hr h3 with ⟨_,g⟩|⟨q2,_⟩
      · exact⟨i,b0,r,g1,(lendB_bad b0).symm.trans h2,g,h4⟩
      · omega
    · simp [Blk.bad] at h2
  · rintro⟨i,blk,r,h1,h2,h3,h4⟩
    by_cases e:i=b
    · subst e
      rw [hb] at h1;cases h1
      rw [hr] at h3;cases h3
      exact⟨M.length,_,_,outM_new M i _,h2,by rw [List.getElem?_append_right (by rw [hM.len];exact Nat.le_refl _),hM.len];simp,h4⟩
    · exact⟨i,_,r,outM_old e h1,(lendB_bad blk).trans h2,prefix_get h3,h4⟩
theorem out_owned(hM:RelM w ρ M)(hb:M[b]?=some blk0)(hr:ρ[b]?=some rb){k:Nat}(h:owned (outM M b blk0) (ρ++[rb]) k):blk0.own=true∧k=rb.blk:=by
  obtain⟨i,blk,r,h1,h2,h3,h4⟩:=h
  rcases outM_get hb h1 with ⟨rfl,rfl⟩|⟨q,hne,b0,g1,rfl⟩|⟨_,rfl⟩
  · rcases out_ρ hM hr h3 with ⟨q,_⟩|⟨_,rfl⟩
    · omega
    · exact⟨h2,h4.symm⟩
  · rw [lendB_own] at h2;cases h2
  · simp [Blk.own] at h2
theorem RelM.out (hM:RelM w ρ M) (hb:M[b]?=some blk0) (h0:blk0.own=true) (hr:ρ[b]?=some rb):RelM w (ρ++[rb]) (outM M b blk0):=by
  have hV:∀ {v:V} {x:Value},RelV w ρ (bad M ρ) v x→RelV w (ρ++[rb]) (bad (outM M b blk0) (ρ++[rb])) v x:=fun h=>h.mono (Nat.le_refl _) (fun _ _ _=>rfl) (fun _ _ h=>(out_bad hM hb hr).1 h) (fun _ _ h=>prefix_get h)
  have hnew:(ρ++[rb])[M.length]?=some rb:=by rw [List.getElem?_append_right (by rw [hM.len];exact Nat.le_refl _),hM.len];simp
  refine⟨by rw [outM_len];simp [hM.len],fun i st ty sz es h=>?_,fun i j blk blk' r r' h1 h2 h3 h4 h5 h6 h7=>?_,fun i st vs φ h=>?_,hM.glob.mono fun v x h=>hV h⟩
  · rcases outM_get hb h with ⟨rfl,rfl⟩|⟨q,hne,b0,g1,g2⟩|⟨_,e⟩
    · obtain⟨r,cur,k1,k2,k3,k4,k5,k6,k7,k8,k9⟩:=hM.cells b st ty sz es hb
      rw [hr] at k1;cases k1
      refine⟨_,cur,hnew,k2,k3,k4,k5,k6,k7,k8,fun i j e v a1 a2=>?_⟩
      obtain⟨b1,y,b2,b3⟩:=k9 i j e v a1 a2
      exact⟨b1,y,b2,hV b3⟩
    · obtain⟨st0,rfl⟩:=lendB_cells g2.symm
      obtain⟨r,cur,k1,k2,k3,k4,k5,k6,k7,k8,k9⟩:=hM.cells i st0 ty sz es g1
      refine⟨r,cur,prefix_get k1,k2,k3,k4,k5,k6,k7,k8,fun i j e v a1 a2=>?_⟩
      obtain⟨b1,y,b2,b3⟩:=k9 i j e v a1 a2
      exact⟨b1,y,b2,hV b3⟩
    · cases e
  · -- where each stands in the caller's memory
    have conv:∀ (i:Nat) blk r,(outM M b blk0)[i]?=some blk→blk≠ .dead→(ρ++[rb])[i]?=some r→∃ i' b0,M[i']?=some b0∧b0≠ .dead∧blk.bad=b0.bad∧ρ[i']?=some r∧((i=M.length∧i'=b)∨(i<M.length∧i≠b∧i'=i)):=by
      intro i blk r x1 x2 x3
      rcases outM_get hb x1 with ⟨y1,y2⟩|⟨q,hne,b0,g1,y⟩|⟨_,y⟩
      · rcases out_ρ hM hr x3 with ⟨q,_⟩|⟨_,y3⟩
        · omega
        · exact⟨b,_,hb,by rw [←y2];exact x2,by rw [y2],by rw [y3];exact hr,.inl ⟨y1,rfl⟩⟩
      · rcases out_ρ hM hr x3 with ⟨_,g⟩|⟨q2,_⟩
        · exact⟨i,b0,g1,fun e=>x2 (by rw [y,e];rfl),by rw [y];exact lendB_bad b0,g,.inr ⟨q,hne,rfl⟩⟩
        · omega
      · exact(x2 y).elim
    obtain⟨i',b1,p1,p2,p3,p4,p5⟩:=conv i blk r h1 h2 h5
    obtain⟨j',b2,q1,q2,q3,q4,q5⟩:=conv j blk' r' h3 (Blk.live_of_bad h4) h6
    have:=hM.inj i' j' b1 b2 r r' p1 p2 q1 (q3.symm.trans h4) p4 q4 h7
    subst this
    rcases p5 with ⟨a1,a2⟩|⟨a1,a2,a3⟩<;>rcases q5 with ⟨c1,c2⟩|⟨c1,c2,c3⟩<;>omega
  · rcases outM_get hb h with ⟨rfl,rfl⟩|⟨q,hne,b0,g1,g2⟩|⟨_,e⟩
    · obtain⟨r,k1,k2⟩:=hM.objs b st vs φ hb
      rw [hr] at k1;cases k1
      exact⟨_,hnew,k2.mono (fun _=>rfl) fun v x h=>hV h⟩
    · obtain⟨st0,rfl⟩:=lendB_obj g2.symm
      obtain⟨r,k1,k2⟩:=hM.objs i st0 vs φ g1
      exact⟨r,prefix_get k1,k2.mono (fun _=>rfl) fun v x h=>hV h⟩
    · cases e
end
def Blk.flatS:Blk→Bool
  | .cells _ _ _ es=>es.all flatL
  |_=>false
/-- arguments that may name the block that is written, and no other -/
theorem CallW_of {P:Program} {f:FuncId} {tvs:List TV} {b:Nat} {blk0 blk':Blk} {v:V} (h0:blk0.own=true) (hl:∃ ty sz es,blk0= .cells .own ty sz es) (hf':blk'.flatS=true) (ho':blk'.own=true) (hv:v.flat=true) (hgo:isGo P f=true)
    (h:∀ m:Mem,CallA P f (tvs.map (TV.inst fun _=>(lend m).length)) (lend m++[blk0]) (fun v' mo=>v'=v∧∃ ext,mo=some (lend m++(blk'::ext)))):CallW P f (tvs.map (TV.inst fun _=>b)) b blk0 blk' v:=by
  intro M hb
  refine⟨hgo,fun w ρ xs hM hA=>?_⟩
  have hbl:b<M.length:=(List.getElem?_eq_some_iff.1 hb).1
  have hr:ρ[b]?=some (ρ[b]'(by rw [hM.len];exact hbl)):=List.getElem?_eq_getElem _
  generalize ρ[b]'(by rw [hM.len];exact hbl)=rb at hr
  have hO:=hM.out hb h0 hr
  have hlen:(lend (M.set b .dead)).length=M.length:=by simp [lend]
  have hA':RelAs w (ρ++[rb]) (outM M b blk0) (tvs.map (TV.inst fun _=>(lend (M.set b .dead)).length)) xs:=by
    refine⟨by have:=hA.1;simpa using this,fun i u x h1 h2=>?_⟩
    rw [List.getElem?_map,Option.map_eq_some_iff] at h1
    obtain⟨tv,g1,rfl⟩:=h1
    have g2:=hA.2 i (tv.inst fun _=>b) x (by rw [List.getElem?_map,g1];rfl) h2
    have hnew:(ρ++[rb])[M.length]?=some rb:=by rw [List.getElem?_append_right (by rw [hM.len];exact Nat.le_refl _),hM.len];simp
    cases tv with
    |v y=>exact g2.mono (Nat.le_refl _) (fun _ _ _=>rfl) (fun _ _ h=>(out_bad hM hb hr).1 h) (fun _ _ h=>prefix_get h)
    | ptr i a o=>
      simp only [TV.inst] at g2 ⊢
      rw [hlen]
      cases g2 with|ptr _ _ _ r k1=>rw [hr] at k1;cases k1;exact .ptr _ _ _ _ hnew
    | sl i n=>
      simp only [TV.inst] at g2 ⊢
      rw [hlen]
      cases g2 with|sl _ _ r k1 k2 k3=>rw [hr] at k1;cases k1;exact .sl _ _ _ hnew k2 k3
    | mp i=>
      simp only [TV.inst] at g2 ⊢
      rw [hlen]
      cases g2 with|mp _ r k1=>rw [hr] at k1;cases k1;exact .mp _ _ hnew
  refine((h (M.set b .dead)).2 w (ρ++[rb]) xs hO hA').mono ?_
  rintro e w' ⟨v',mo,x,rfl,⟨rfl,ext,rfl⟩,hh⟩
  rcases hh with ⟨e,_⟩|⟨m',ρ',e,af,rv⟩
  · cases e
  · cases e
    have hno:∀ k,k<w.heap.size→k≠rb.blk→w'.heap[k]?=w.heap[k]?:=fun k hk hn=>af.keep.block k hk fun ho=>hn (out_owned hM hb hr ho).2
    have hown:owned M ρ rb.blk:=⟨b,blk0,rb,hb,h0,hr,rfl⟩
    have hρ:∀ (i:Nat) r,ρ[i]?=some r→ρ'[i]?=some r:=fun i r h=>af.pre i r (prefix_get h)
    have hρb:ρ'[M.length]?=some rb:=af.pre _ _ (by rw [List.getElem?_append_right (by rw [hM.len];exact Nat.le_refl _),hM.len];simp)
    have hY:∀ (i:Nat) blk,(M.set b blk')[i]?=some blk→(i=b∧blk=blk')∨(i≠b∧M[i]?=some blk):=by
      intro i blk h
      by_cases e:b=i
      · subst e
        rw [List.getElem?_set,if_pos rfl,if_pos hbl] at h
        cases h;exact .inl ⟨rfl,rfl⟩
      · rw [List.getElem?_set,if_neg e] at h
        exact .inr ⟨fun q=>e q.symm,h⟩
    have hnb:∀ (i:Nat) blk r,i≠b→M[i]?=some blk→blk≠ .dead→ρ[i]?=some r→r.blk≠rb.blk:=fun i blk r hne h1 h2 h3 e=>hne (hM.inj i b blk blk0 r rb h1 h2 hb (Blk.bad_of_own h0) h3 hr e)
    have hbad:∀ k,bad (M.set b blk') ρ k→bad M ρ k:=by
      rintro k ⟨i,blk,r,h1,h2,h3,h4⟩
      rcases hY i blk h1 with ⟨rfl,rfl⟩|⟨hne,g⟩
      · exact⟨_,blk0,r,hb,Blk.bad_of_own h0,h3,h4⟩
      · exact⟨i,blk,r,g,h2,h3,h4⟩
    have hV:∀ {u:V} {y:Value},RelV w ρ (bad M ρ) u y→RelV w' ρ (bad (M.set b blk') ρ) u y:=fun hu=>
      hu.mono af.keep.size (fun k hk hn=>hno k hk fun e=>hn (e ▸ bad_of_owned hown)) (fun k _ h=>hbad k h) (fun _ _ h=>h)
    have hm':(lend (M.set b .dead)++blk'::ext)[M.length]?=some blk':=by rw [List.getElem?_append_right (by omega),hlen];simp
    have hmem:RelM w' ρ (M.set b blk'):=by
      refine⟨by rw [List.length_set];exact hM.len,fun i st ty sz es h=>?_,fun i j blk blk1 r r' h1 h2 h3 h4 h5 h6 h7=>?_,fun i st vs φ h=>?_,hM.glob.mono fun v x h=>hV h⟩
      · rcases hY i _ h with ⟨rfl,e⟩|⟨hne,g⟩
        · obtain⟨r,cur,k1,k2,k3,k4,k5,k6,k7,k8,k9⟩:=af.mem.cells M.length st ty sz es (by rw [hm',e])
          rw [hρb] at k1;cases k1
          refine⟨_,cur,hr,k2,k3,k4,k5,k6,k7,k8,fun p j e' u a1 a2=>?_⟩
          obtain⟨b1,y,b2,b3⟩:=k9 p j e' u a1 a2
          rw [←e] at hf'
          simp only [Blk.flatS,List.all_eq_true] at hf'
          exact⟨b1,y,b2,flat_rel b3 (flatL_mem (hf' e' (List.mem_of_getElem? a1)) u (List.mem_of_getElem? a2))⟩
        · obtain⟨r,cur,k1,k2,k3,k4,k5,k6,k7,k8,k9⟩:=hM.cells i st ty sz es g
          refine⟨r,cur,k1,k2,k3,(hno _ (heap_lt k4) (hnb i _ r hne g (by simp) k1)).trans k4,k5,k6,k7,k8,fun p j e' u a1 a2=>?_⟩
          obtain⟨b1,y,b2,b3⟩:=k9 p j e' u a1 a2
          exact⟨b1,y,b2,hV b3⟩
      · have conv:∀ (i:Nat) blk,(M.set b blk')[i]?=some blk→∃ blk2,M[i]?=some blk2∧(blk≠ .dead→blk2≠ .dead)∧(blk.bad=true→blk2.bad=true):=by
          intro i blk h
          rcases hY i blk h with ⟨rfl,rfl⟩|⟨hne,g⟩
          · exact⟨_,hb,fun _=>Blk.live_of_bad (Blk.bad_of_own h0),fun _=>Blk.bad_of_own h0⟩
          · exact⟨_,g,fun h=>h,fun h=>h⟩
        obtain⟨c1,q1,q2,_⟩:=conv i blk h1
        obtain⟨c2,q3,_,q4⟩:=conv j blk1 h3
        exact hM.inj i j c1 c2 r r' q1 (q2 h2) q3 (q4 h4) h5 h6 h7
      · rcases hY i _ h with ⟨rfl,e⟩|⟨hne,g⟩
        · rw [←e] at hf';simp [Blk.flatS] at hf'
        · obtain⟨r,k1,k2⟩:=hM.objs i st vs φ g
          exact⟨r,k1,k2.mono (fun hlt=>hno _ hlt (hnb i _ r hne g (by simp) k1)) fun u y h=>hV h⟩
    refine⟨v',_,x,rfl,⟨rfl,rfl⟩,.inr ⟨_,ρ,rfl,⟨⟨af.keep.os,af.keep.tape,af.keep.output,af.keep.size,fun k hk hn=>hno k hk fun e=>hn (e ▸ hown)⟩,fun _ _ h=>h,hmem,fun k hk ho=>?_,fun k _ h=>hbad k h⟩,flat_rel rv hv⟩⟩
    obtain⟨i,blk,r,h1,h2,h3,h4⟩:=ho
    rcases hY i blk h1 with ⟨rfl,rfl⟩|⟨hne,g⟩
    · exact⟨_,blk0,r,hb,h0,h3,h4⟩
    · exact⟨i,blk,r,g,h2,h3,h4⟩
/-- .. out of the code -/
theorem CallW_in{P:Program}{f:FuncId}{fn:Func}{c:Code}{n:Nat}{rs:Array ResultVar}{tvs:List TV}{b:Nat}{ty sz:Nat}{es es':List (List V)}{v:V}(hf:P.funcs[f]?=some fn)(hb:fn.body=some c)(hN:fn.ntmps=n)(hr:fn.results=rs)(hg:isGo P f=true)(hn:tvs.length≤n)
    (hfl:es'.all flatL=true) (hv:v.flat=true)
    (h:∀ (m:Mem) (Q:Exit→List (Nat×V)→Mem→Prop),(∀ e t m',(e= .normal∨e= .ret)→∀ ext,resV P t m' rs.toList=some v→m'=lend m++(.cells .own ty sz es'::ext)→Q e t m')→WA P n c (argT 0 (tvs.map (TV.inst fun _=>(lend m).length))) (lend m++[.cells .own ty sz es]) Q):
    CallW P f (tvs.map (TV.inst fun _=>b)) b (.cells .own ty sz es) (.cells .own ty sz es') v:=by
  subst hN;subst hr
  refine CallW_of rfl ⟨_,_,_,rfl⟩ hfl rfl hv hg fun m=>CallA_introD hf hb hg (by simpa using hn) (h m _ ?_)
  intro e t m' he ext hres hm'
  refine⟨he,?_⟩
  rw [hres]
  exact⟨rfl,ext,by rw [hm']⟩
end Go.Proofs.YtomkbpoicjabfaaGreatDoor
