import Derived.RowKit
import Derived.Below
import Derived.Lib.Hide
import Derived.BigQuiet
import Derived.WalkKit
import Derived.Deep.Quiet
import Derived.Deep.AppendLies
import Derived.Maps.AppendAt
import Derived.Laws.MakeOwn
import Derived.Laws.CopyRow
import Derived.Laws.StructEq
import Derived.ChangeKeysEq
import Derived.MapKept
import Derived.TacticsIn
import Derived.OrdersIn
import Derived.RangeFuncLeaves
import Derived.RangeFuncRecord
import Derived.Laws.IdiomStrings
import Derived.LoopN
import Derived.Scope
set_option linter.unusedSimpArgs false
set_option linter.unusedVariables false
/- plain lemmas on whole numbers, and words for the memory of a call -/
namespace Go.Proofs.YtomkbpoicjabfaaGreatDoor
open Go.RowKit
theorem gcd_tmod(a b:Int):Int.gcd b (a.tmod b)=Int.gcd a b:=by
  rw [Int.gcd_comm a b]
  apply Nat.dvd_antisymm
  · apply Int.dvd_gcd
    · exact Int.gcd_dvd_left ..
    · have h:=Int.tmod_add_mul_tdiv a b
      conv=>rhs;rw [←h]
      exact Int.dvd_add (Int.gcd_dvd_right ..) (Int.dvd_trans (Int.gcd_dvd_left ..) (Int.dvd_mul_right _ _))
  · apply Int.dvd_gcd
    · exact Int.gcd_dvd_left ..
    · have h:=Int.tmod_add_mul_tdiv a b
      have h2:a.tmod b=a - b * a.tdiv b:=by omega
      rw [h2]
      exact Int.dvd_sub (Int.gcd_dvd_right ..) (Int.dvd_trans (Int.gcd_dvd_left ..) (Int.dvd_mul_right _ _))
theorem tmod_bd(a b:Int)(ha: -9223372036854775807≤a∧a≤9223372036854775807)(hb:b≠0):
    (-9223372036854775807≤a.tmod b∧a.tmod b≤9223372036854775807)∧(a.tmod b).natAbs<b.natAbs:=by
  have h1:=Int.natAbs_tmod a b
  have h2:a.natAbs % b.natAbs<b.natAbs:=Nat.mod_lt _ (by omega)
  have h3:a.natAbs % b.natAbs≤a.natAbs:=Nat.mod_le _ _
  omega

inductive V where
  |any
  |int (k:IntKind) (n:Int)
  |bool (b:Bool)
  |str (s:List UInt8)
  |nilptr
  |nilsl
  |nilmap
  |nilfn
  |nilif
  /-- an interface value that holds something -/
  |ifv
  /-- some number -/
  |anyi (k:IntKind)
  /-- a pointer to a block that is known whole -/
  |tab (xs:List Value)
  |agg (cs:List V)
  |tup (vs:List V)
  |lst (es:List (List V))
  |bp (cs:List V) (o:Nat)
  |ptr (b i o:Nat)
  |sl (b n:Nat)
  |mp (b:Nat)
  |clo (fn:Fn) (first caps:List V)

/-- where an abstract block lies: its real block, how many elements fit, how many cells an element has -/
structure Re where
  blk:Nat
  cap:Nat
  sz:Nat

/-- the call's own; a caller's own (it is read alone, and no slice is cut of it); read alone from now on -/
inductive Sta where
  |own
  |lent
  |ro
  deriving DecidableEq

inductive Blk where
  |cells (st:Sta) (ty:TypeId) (sz:Nat) (es:List (List V))
  /-- what is no row of cells (a loop's record, a map): values of it, and what is known of it beside its block's number -/
  |obj (st:Sta) (vs:List V) (φ:Nat→Obj→List Value→Prop)
  |dead

/-- may the call write it -/
def Blk.own:Blk→Bool
  | .cells .own _ _ _=>true
  | .obj .own _ _=>true
  |_=>false
/-- may anybody write it, now or later -/
def Blk.bad:Blk→Bool
  | .cells .ro _ _ _=>false
  | .obj .ro _ _=>false
  | .dead=>false
  |_=>true
theorem Blk.bad_of_own{b:Blk}(h:b.own=true):b.bad=true:=by
  cases b with
  |cells st ty sz es=>cases st<;>first|rfl|simp [Blk.own] at h
  |obj st vs φ=>cases st<;>first|rfl|simp [Blk.own] at h
  |dead=>simp [Blk.own] at h
theorem Blk.live_of_bad{b:Blk}(h:b.bad=true):b≠ .dead:=by
  rintro rfl;simp [Blk.bad] at h

abbrev Mem:=List Blk

/-- a value that is one cell -/
def V.one:V→Bool
  | .agg _| .tup _| .any=>false
  |_=>true

inductive RelV(w:World)(ρ:List Re)(B:Nat→Prop):V→Value→Prop where
  |any (x:Value):RelV w ρ B .any x
  |int (k:IntKind) (n:Int):RelV w ρ B (.int k n) (.int k n)
  |bool (b:Bool):RelV w ρ B (.bool b) (.bool b)
  |str (s:List UInt8) (b:ByteArray) (h:b.data.toList=s):RelV w ρ B (.str s) (.string b)
  |nilptr:RelV w ρ B .nilptr (.pointer none)
  |nilsl:RelV w ρ B .nilsl (.slice none 0 0)
  |lnil (a:Option Addr) (c:Nat) (hc:c≤maxLen) (ha:a=none→c=0):RelV w ρ B (.lst []) (.slice a 0 c)
  |nilmap:RelV w ρ B .nilmap (.map none)
  |nilfn:RelV w ρ B .nilfn .nilFunc
  |nilif:RelV w ρ B .nilif .nilIface
  |ifv (t:TypeId) (x:Value):RelV w ρ B .ifv (.iface t x)
  |anyi (k:IntKind) (n:Int):RelV w ρ B (.anyi k) (.int k n)
  |tab (xs:List Value) (b:Nat) (ty:TypeId) (o:Nat×Nat) (hb:b<w.heap.size) (hB:¬ B b) (h:w.heap[b]?=some (.cells xs.toArray ty o)):RelV w ρ B (.tab xs) (.pointer (some ⟨b,0,none⟩))
  |agg (cs:List V) (xs:Array Value) (hl:cs.length=xs.size) (h:∀ (i:Nat) c x,cs[i]?=some c→xs[i]?=some x→RelV w ρ B c x):RelV w ρ B (.agg cs) (.agg xs)
  |tup (cs:List V) (xs:Array Value) (hl:cs.length=xs.size) (h:∀ (i:Nat) c x,cs[i]?=some c→xs[i]?=some x→RelV w ρ B c x):RelV w ρ B (.tup cs) (.tuple xs)
  |lst (es:List (List V)) (b off c s:Nat) (Y:Nat→Nat→Value) (hb:b<w.heap.size) (hB:¬ B b) (hc:es.length≤c) (hm:c≤maxLen) (hs:∀ e∈es,e.length=s)
      (hY:∀ (i j:Nat) e v,es[i]?=some e→e[j]?=some v→w.cell? ⟨b,off+i * s+j,none⟩=some (Y i j))
      (hV:∀ (i j:Nat) e v,es[i]?=some e→e[j]?=some v→RelV w ρ B v (Y i j)) (hO:∀ (i j:Nat) e v,es[i]?=some e→e[j]?=some v→v.one=true):RelV w ρ B (.lst es) (.slice (some ⟨b,off,none⟩) es.length c)
  |bp (cs:List V) (o b off:Nat) (Y:Nat→Value) (hb:b<w.heap.size) (hB:¬ B b)
      (hY:∀ (j:Nat) v,cs[j]?=some v→w.cell? ⟨b,off+j,none⟩=some (Y j))
      (hV:∀ (j:Nat) v,cs[j]?=some v→RelV w ρ B v (Y j)) (hO:∀ (j:Nat) v,cs[j]?=some v→v.one=true):RelV w ρ B (.bp cs o) (.pointer (some ⟨b,off+o,none⟩))
  |ptr (b i o:Nat) (r:Re) (hr:ρ[b]?=some r):RelV w ρ B (.ptr b i o) (.pointer (some ⟨r.blk,i * r.sz+o,none⟩))
  |sl (b n:Nat) (r:Re) (hr:ρ[b]?=some r) (hn:n≤r.cap) (hm:r.cap≤maxLen):RelV w ρ B (.sl b n) (.slice (some ⟨r.blk,0,none⟩) n r.cap)
  |mp (b:Nat) (r:Re) (hr:ρ[b]?=some r):RelV w ρ B (.mp b) (.map (some r.blk))
  |clo (fn:Fn) (f1 c1:List V) (f2 c2:Array Value) (hf:f1.length=f2.size) (hc:c1.length=c2.size)
      (h1:∀ (i:Nat) c x,f1[i]?=some c→f2[i]?=some x→RelV w ρ B c x) (h2:∀ (i:Nat) c x,c1[i]?=some c→c2[i]?=some x→RelV w ρ B c x):RelV w ρ B (.clo fn f1 c1) (.func fn f2 c2)

/-- the real blocks of the abstract ones that are such -/
def has(p:Blk→Bool)(m:Mem)(ρ:List Re)(k:Nat):Prop:=∃ (b:Nat) (blk:Blk) (r:Re),m[b]?=some blk∧p blk=true∧ρ[b]?=some r∧r.blk=k
/-- .. that the call may write -/
abbrev owned(m:Mem)(ρ:List Re)(k:Nat):Prop:=has Blk.own m ρ k
/-- .. that somebody may write -/
abbrev bad(m:Mem)(ρ:List Re)(k:Nat):Prop:=has Blk.bad m ρ k
theorem bad_of_owned{m:Mem}{ρ:List Re}{k:Nat}(h:owned m ρ k):bad m ρ k:=by
  obtain⟨b,blk,r,h1,h2,h3,h4⟩:=h
  exact⟨b,blk,r,h1,Blk.bad_of_own h2,h3,h4⟩

/-- what is not owned stays -/
structure Keep(B:Nat→Prop)(w w':World):Prop where
  os:w'.os=w.os
  tape:w'.tape=w.tape
  output:w'.output=w.output
  size:w.heap.size≤w'.heap.size
  block:∀ k,k<w.heap.size→¬ B k→w'.heap[k]?=w.heap[k]?

theorem Keep.refl(B:Nat→Prop)(w:World):Keep B w w:=⟨rfl,rfl,rfl,Nat.le_refl _,fun _ _ _=>rfl⟩
theorem Keep.trans{B B':Nat→Prop}{a b c:World}(h:Keep B a b)(k:Keep B' b c)(hB:∀ r,r<a.heap.size→B' r→B r):Keep B a c:=
  ⟨k.os.trans h.os,k.tape.trans h.tape,k.output.trans h.output,Nat.le_trans h.size k.size,fun i hi hn=>(k.block i (Nat.lt_of_lt_of_le hi h.size) (fun hb=>hn (hB i hi hb))).trans (h.block i hi hn)⟩
theorem Keep.of_below{B:Nat→Prop}{w w':World}(h:Below w.heap.size w w'):Keep B w w':=⟨h.os,h.tape,h.output,h.size,fun k hk _=>h.block k hk⟩
theorem RelV.mono{w w':World}{ρ ρ':List Re}{B B':Nat→Prop}(hs:w.heap.size≤w'.heap.size)(hk:∀ k,k<w.heap.size→¬ B k→w'.heap[k]?=w.heap[k]?)
    (hB:∀ k,k<w.heap.size→B' k→B k) (hρ:∀ (b:Nat) r,ρ[b]?=some r→ρ'[b]?=some r) {v:V} {x:Value} (h:RelV w ρ B v x):RelV w' ρ' B' v x:=by
  induction h with
  |any x=>exact .any x
  |int k n=>exact .int k n
  |bool b=>exact .bool b
  |str s b h=>exact .str s b h
  |nilptr=>exact .nilptr
  |nilsl=>exact .nilsl
  |lnil a c hc ha=>exact .lnil a c hc ha
  |nilmap=>exact .nilmap
  |nilfn=>exact .nilfn
  |nilif=>exact .nilif
  |ifv t x=>exact .ifv t x
  |anyi k n=>exact .anyi k n
  |tab xs b ty o hb hB' h=>exact .tab xs b ty o (Nat.lt_of_lt_of_le hb hs) (fun h=>hB' (hB b hb h)) ((hk b hb hB').trans h)
  |agg cs xs hl _ ih=>exact .agg cs xs hl ih
  |tup cs xs hl _ ih=>exact .tup cs xs hl ih
  | lst es b off c s Y hb hB' hc hm hs' hY _ hO ih=>
    exact .lst es b off c s Y (Nat.lt_of_lt_of_le hb hs) (fun h=>hB' (hB b hb h)) hc hm hs' (fun i j e v h1 h2=>(World.cell?_of_block (w:=w) (hk b hb hB')).trans (hY i j e v h1 h2)) ih hO
  | bp cs o b off Y hb hB' hY _ hO ih=>
    exact .bp cs o b off Y (Nat.lt_of_lt_of_le hb hs) (fun h=>hB' (hB b hb h)) (fun j v h1=>(World.cell?_of_block (w:=w) (hk b hb hB')).trans (hY j v h1)) ih hO
  |ptr b i o r hr=>exact .ptr b i o r (hρ b r hr)
  |sl b n r hr hn hm=>exact .sl b n r (hρ b r hr) hn hm
  |mp b r hr=>exact .mp b r (hρ b r hr)
  |clo fn f1 c1 f2 c2 hf hc _ _ ih1 ih2=>exact .clo fn f1 c1 f2 c2 hf hc ih1 ih2

theorem RelV.one{w:World}{ρ:List Re}{B:Nat→Prop}{v:V}{x:Value}(h:RelV w ρ B v x)(hv:v.one=true):x.oneCell'=true∧x.cells= #[x]:=by
  cases h<;>first|exact⟨rfl,rfl⟩|simp [V.one] at hv

def ObjR(w:World)(ρ:List Re)(B:Nat→Prop)(r:Re)(vs:List V)(φ:Nat→Obj→List Value→Prop):Prop:=
  ∃ (o:Obj) (xs:List Value),w.heap[r.blk]?=some o∧(∀ d,o≠ .deferred d)∧φ r.blk o xs∧xs.length=vs.length∧∀ (i:Nat) v x,vs[i]?=some v→xs[i]?=some x→RelV w ρ B v x
theorem ObjR.mono{w w':World}{ρ ρ':List Re}{B B':Nat→Prop}{r:Re}{vs:List V}{φ:Nat→Obj→List Value→Prop}(h:ObjR w ρ B r vs φ)(hh:r.blk<w.heap.size→w'.heap[r.blk]?=w.heap[r.blk]?)
    (hV:∀ (v:V) (x:Value),RelV w ρ B v x→RelV w' ρ' B' v x):ObjR w' ρ' B' r vs φ:=by
  obtain⟨o,xs,h1,h2,h3,h4,h5⟩:=h
  have hlt:r.blk<w.heap.size:=by
    rcases Nat.lt_or_ge r.blk w.heap.size with h|h
    · exact h
    · rw [Array.getElem?_eq_none h] at h1;cases h1
  exact⟨o,xs,(hh hlt).trans h1,h2,h3,h4,fun i v x a1 a2=>hV v x (h5 i v x a1 a2)⟩
theorem ObjR.lt{w:World}{ρ:List Re}{B:Nat→Prop}{r:Re}{vs:List V}{φ:Nat→Obj→List Value→Prop}(h:ObjR w ρ B r vs φ):r.blk<w.heap.size:=by
  obtain⟨o,xs,h1,_⟩:=h
  rcases Nat.lt_or_ge r.blk w.heap.size with h|h
  · exact h
  · rw [Array.getElem?_eq_none h] at h1;cases h1

/-- what the package variables read as (any: nothing is known) -/
def gval:Nat→V:=fun g=>if g=3 then .tab [.int .u64 1,.int .u64 10,.int .u64 100,.int .u64 1000,.int .u64 10000,.int .u64 100000,.int .u64 1000000,.int .u64 10000000,.int .u64 100000000,.int .u64 1000000000,.int .u64 10000000000,.int .u64 100000000000,.int .u64 1000000000000,.int .u64 10000000000000,.int .u64 100000000000000,.int .u64 1000000000000000,.int .u64 10000000000000000,.int .u64 100000000000000000,.int .u64 1000000000000000000,.int .u64 10000000000000000000] else if g=0 then .bp [.anyi .i64] 0 else if g=1∨g=2 then .bp [.ifv] 0 else .any
def GlobOk(w:World)(ρ:List Re)(B:Nat→Prop):Prop:=∀ g,RelV w ρ B (gval g) (.pointer (some ⟨g,0,none⟩))
theorem GlobOk.mono{w w':World}{ρ ρ':List Re}{B B':Nat→Prop}(h:GlobOk w ρ B)(hr:∀ v x,RelV w ρ B v x→RelV w' ρ' B' v x):GlobOk w' ρ' B':=fun g=>hr _ _ (h g)
/-- the call's own memory, as it lies in the world -/
structure RelM(w:World)(ρ:List Re)(m:Mem):Prop where
  len:ρ.length=m.length
  cells:∀ (b:Nat) st ty sz es,m[b]?=some (.cells st ty sz es)→∃ r cur,ρ[b]?=some r∧r.sz=sz∧0<sz∧w.heap[r.blk]?=some (.cells cur ty (0,0))∧cur.size=r.cap * sz∧es.length≤r.cap∧r.cap≤maxLen∧
    (∀ e∈es,e.length=sz)∧(∀ (i j:Nat) e v,es[i]?=some e→e[j]?=some v→v.one=true∧∃ y,cur[i * sz+j]?=some y∧RelV w ρ (bad m ρ) v y)
  inj:∀ (b b':Nat) (blk blk':Blk) (r r':Re),m[b]?=some blk→blk≠Blk.dead→m[b']?=some blk'→blk'.bad=true→ρ[b]?=some r→ρ[b']?=some r'→r.blk=r'.blk→b=b'
  objs:∀ (b:Nat) st vs φ,m[b]?=some (.obj st vs φ)→∃ r,ρ[b]?=some r∧ObjR w ρ (bad m ρ) r vs φ
  glob:GlobOk w ρ (bad m ρ)

theorem RelM.lt{w:World}{ρ:List Re}{m:Mem}(h:RelM w ρ m){k:Nat}(ho:bad m ρ k):k<w.heap.size:=by
  obtain⟨b,blk,r,hb,hd,hr,rfl⟩:=ho
  cases blk with
  | cells wr ty sz es=>
    obtain⟨r',cur,hr',_,_,hh,_⟩:=h.cells b wr ty sz es hb
    rw [hr] at hr'
    cases hr'
    rcases Nat.lt_or_ge r.blk w.heap.size with hlt|hge
    · exact hlt
    · rw [Array.getElem?_eq_none hge] at hh;cases hh
  | obj st vs φ=>
    obtain⟨r',hr',hh⟩:=h.objs b st vs φ hb
    rw [hr] at hr'
    cases hr'
    exact hh.lt
  |dead=>simp [Blk.bad] at hd

theorem heap_lt{w:World}{k:Nat}{o:Obj}(h:w.heap[k]?=some o):k<w.heap.size:=by
  rcases Nat.lt_or_ge k w.heap.size with hlt|hge
  · exact hlt
  · rw [Array.getElem?_eq_none hge] at h;cases h

theorem RelM.mono{w w':World}{ρ:List Re}{m:Mem}(h:RelM w ρ m)(hb:Below w.heap.size w w'):RelM w' ρ m where
  len:=h.len
  cells:=fun b wr ty sz es hm=>by
    obtain⟨r,cur,h1,h2,h3,h4,h5,h6,h7,h8,h9⟩:=h.cells b wr ty sz es hm
    refine⟨r,cur,h1,h2,h3,(hb.block _ (heap_lt h4)).trans h4,h5,h6,h7,h8,fun i j e v a1 a2=>?_⟩
    obtain⟨b1,y,b2,b3⟩:=h9 i j e v a1 a2
    exact⟨b1,y,b2,b3.mono hb.size (fun k hk _=>hb.block k hk) (fun _ _ h=>h) (fun _ _ h=>h)⟩
  inj:=h.inj
  objs:=fun b st vs φ hm=>by
    obtain⟨r,h1,h2⟩:=h.objs b st vs φ hm
    exact⟨r,h1,h2.mono (hb.block _) fun v x h3=>h3.mono hb.size (fun k hk _=>hb.block k hk) (fun _ _ h=>h) (fun _ _ h=>h)⟩
  glob:=h.glob.mono fun v x h3=>h3.mono hb.size (fun k hk _=>hb.block k hk) (fun _ _ h=>h) (fun _ _ h=>h)

theorem RelM.nil(w:World)(hg:GlobOk w [] (bad [] [])):RelM w [] []:=
  ⟨rfl,fun b wr ty sz es h=>by simp at h,fun b b' blk blk' r r' h=>by simp at h,fun b st vs φ h=>by simp at h,hg⟩

theorem owned_nil{p:Blk→Bool}(k:Nat):¬ has p [] [] k:=by rintro⟨b,blk,r,h,_⟩;simp at h

theorem owned_snoc{p:Blk→Bool}{m:Mem}{ρ:List Re}{blk:Blk}{r:Re}(hl:ρ.length=m.length){k:Nat}(h:has p (m++[blk]) (ρ++[r]) k):has p m ρ k∨k=r.blk:=by
  obtain⟨b,blk',r',h1,h2,h3,h4⟩:=h
  rcases Nat.lt_or_ge b m.length with hlt|hge
  · rw [List.getElem?_append_left hlt] at h1
    rw [List.getElem?_append_left (by omega)] at h3
    exact .inl ⟨b,blk',r',h1,h2,h3,h4⟩
  · rw [List.getElem?_append_right hge] at h1
    rw [List.getElem?_append_right (by omega)] at h3
    rw [hl] at h3
    rcases hb:b - m.length with _|q
    · rw [hb] at h1 h3
      simp at h1 h3
      subst h3
      exact .inr h4.symm
    · rw [hb] at h1
      simp at h1

theorem prefix_get{ρ:List Re}{r:Re}{b:Nat}{q:Re}(h:ρ[b]?=some q):(ρ++[r])[b]?=some q:=by
  rw [List.getElem?_append_left (List.getElem?_eq_some_iff.1 h).1]
  exact h

/-- a new block of the call's own -/
theorem RelM.push {w w':World} {ρ:List Re} {m:Mem} (h:RelM w ρ m) (hb:Below w.heap.size w w') (g cap ty sz:Nat) (es:List (List V)) (cur:Array Value) (hg:w.heap.size≤g)
    (hs:0<sz) (hh:w'.heap[g]?=some (.cells cur ty (0,0))) (hc:cur.size=cap * sz) (he:es.length≤cap) (hcm:cap≤maxLen) (hes:∀ e∈es,e.length=sz)
    (hv:∀ (i j:Nat) e v,es[i]?=some e→e[j]?=some v→v.one=true∧∃ y,cur[i * sz+j]?=some y∧RelV w ρ (bad m ρ) v y):
    RelM w' (ρ++[⟨g,cap,sz⟩]) (m++[Blk.cells .own ty sz es]):=by
  have hlt:g<w'.heap.size:=by
    rcases Nat.lt_or_ge g w'.heap.size with hlt|hge
    · exact hlt
    · rw [Array.getElem?_eq_none hge] at hh;cases hh
  have h':=h.mono hb
  have hOld:∀ {v:V} {x:Value},RelV w ρ (bad m ρ) v x→RelV w' (ρ++[⟨g,cap,sz⟩]) (bad (m++[.cells .own ty sz es]) (ρ++[⟨g,cap,sz⟩])) v x:=fun hr=>
    hr.mono hb.size (fun k hk _=>hb.block k hk) (fun k hk ho=>(owned_snoc h.len ho).resolve_right (fun e=>by simp at e;omega)) (fun b r hr=>prefix_get hr)
  refine⟨by simp [h.len],fun b wr' ty' sz' es' hm=>?_,fun b b' blk blk' r r' h1 h2 h3 h4 h5 h6 h7=>?_,fun b st' vs' φ' hm=>?_,h.glob.mono fun v x h3=>hOld h3⟩
  · rcases Nat.lt_or_ge b m.length with hlt'|hge
    · rw [List.getElem?_append_left hlt'] at hm
      obtain⟨r,cur',g1,g2,g3,g4,g5,g6,g7,g8,g9⟩:=h.cells b wr' ty' sz' es' hm
      refine⟨r,cur',prefix_get g1,g2,g3,(hb.block _ (heap_lt g4)).trans g4,g5,g6,g7,g8,fun i j e v a1 a2=>?_⟩
      obtain⟨b1,y,b2,b3⟩:=g9 i j e v a1 a2
      exact⟨b1,y,b2,hOld b3⟩
    · rw [List.getElem?_append_right hge] at hm
      rcases hbm:b - m.length with _|q
      · rw [hbm] at hm
        simp at hm
        obtain⟨rfl,rfl,rfl,rfl⟩:=hm
        refine⟨⟨g,cap,sz⟩,cur,?_,rfl,hs,hh,hc,he,hcm,hes,fun i j e v a1 a2=>?_⟩
        · have hle:ρ.length≤b:=by have:=h.len;omega
          rw [List.getElem?_append_right hle,h.len,hbm];rfl
        · obtain⟨b1,y,b2,b3⟩:=hv i j e v a1 a2
          exact⟨b1,y,b2,hOld b3⟩
      · rw [hbm] at hm
        simp at hm
  · have key:∀ (c:Nat) (blk:Blk) (r:Re),(m++[Blk.cells .own ty sz es])[c]?=some blk→blk≠Blk.dead→(ρ++[⟨g,cap,sz⟩])[c]?=some r→(c<m.length∧m[c]?=some blk∧ρ[c]?=some r∧r.blk<w.heap.size)∨(c=m.length∧r.blk=g):=by
      intro c blk r k1 k2 k3
      rcases Nat.lt_or_ge c m.length with hlt'|hge
      · rw [List.getElem?_append_left hlt'] at k1
        rw [List.getElem?_append_left (by rw [h.len];exact hlt')] at k3
        refine .inl ⟨hlt',k1,k3,?_⟩
        cases blk with
        | cells wr0 ty0 sz0 es0=>
          obtain⟨r',cur',g1,_,_,g4,_⟩:=h.cells c wr0 ty0 sz0 es0 k1
          rw [k3] at g1
          cases g1
          exact heap_lt g4
        | obj st0 vs0 φ0=>
          obtain⟨r',g1,g2⟩:=h.objs c st0 vs0 φ0 k1
          rw [k3] at g1
          cases g1
          exact g2.lt
        |dead=>exact(k2 rfl).elim
      · rw [List.getElem?_append_right hge] at k1
        rw [List.getElem?_append_right (by rw [h.len];exact hge),h.len] at k3
        rcases hbm:c - m.length with _|q
        · rw [hbm] at k3
          simp at k3
          subst k3
          exact .inr ⟨by omega,rfl⟩
        · rw [hbm] at k1
          simp at k1
    have hd4:blk'≠Blk.dead:=fun e=>by subst e;simp [Blk.bad] at h4
    rcases key b blk r h1 h2 h5 with ⟨a1,a2,a3,a4⟩|⟨a1,a2⟩<;>rcases key b' blk' r' h3 hd4 h6 with ⟨c1,c2,c3,c4⟩|⟨c1,c2⟩
    · exact h.inj b b' blk blk' r r' a2 h2 c2 h4 a3 c3 h7
    · omega
    · omega
    · omega
  · rcases Nat.lt_or_ge b m.length with hlt'|hge
    · rw [List.getElem?_append_left hlt'] at hm
      obtain⟨r,g1,g2⟩:=h.objs b st' vs' φ' hm
      exact⟨r,prefix_get g1,g2.mono (hb.block _) fun v x b3=>hOld b3⟩
    · rw [List.getElem?_append_right hge] at hm
      rcases hbm:b - m.length with _|q<;>rw [hbm] at hm<;>simp at hm

/-- a block that is given up, or read from now on alone -/
theorem owned_demote{p:Blk→Bool}{m:Mem}{ρ:List Re}{b k:Nat}{blk0:Blk}(h0:p blk0=false)(h:has p (m.set b blk0) ρ k):has p m ρ k:=by
  obtain⟨c,blk,r,h1,h2,h3,h4⟩:=h
  rw [List.getElem?_set] at h1
  split at h1
  · split at h1
    · simp at h1;subst h1;rw [h0] at h2;cases h2
    · cases h1
  · exact⟨c,blk,r,h1,h2,h3,h4⟩

/-- what is given up, or read from now on alone, is owned no more -/
theorem not_owned{w:World}{ρ:List Re}{m:Mem}(h:RelM w ρ m){b:Nat}{blk:Blk}{r:Re}(hb:m[b]?=some blk)(hd:blk≠ .dead)(hr:ρ[b]?=some r){blk0:Blk}(h0:blk0.bad=false):¬ bad (m.set b blk0) ρ r.blk:=by
  rintro⟨c,blk',r',h1,h2,h3,h4⟩
  rw [List.getElem?_set] at h1
  by_cases hne:b=c
  · rw [if_pos hne] at h1
    split at h1
    · cases h1;rw [h0] at h2;cases h2
    · cases h1
  · rw [if_neg hne] at h1
    exact hne (h.inj b c blk blk' r r' hb hd h1 h2 hr h3 h4.symm)

theorem RelM.demote {w:World} {ρ:List Re} {m:Mem} (h:RelM w ρ m) (b:Nat) (blk0:Blk) (h0:blk0= .dead∨∃ st ty sz es,m[b]?=some (.cells st ty sz es)∧blk0= .cells .ro ty sz es):RelM w ρ (m.set b blk0):=by
  have ho:blk0.bad=false:=by
    rcases h0 with rfl|⟨wr,ty,sz,es,_,rfl⟩<;>rfl
  have get:∀ {c:Nat} {blk:Blk},(m.set b blk0)[c]?=some blk→blk≠ .dead→∃ blk1,m[c]?=some blk1∧blk1≠ .dead∧(blk.bad=true→blk=blk1)∧(∀ wr ty sz es,blk= .cells wr ty sz es→∃ wr',blk1= .cells wr' ty sz es)∧(∀ st vs φ,blk= .obj st vs φ→blk1=blk):=by
    intro c blk h1 h2
    rw [List.getElem?_set] at h1
    split at h1
    · rename_i e
      subst e
      split at h1
      · simp at h1
        subst h1
        rcases h0 with rfl|⟨wr,ty,sz,es,hm,rfl⟩
        · exact(h2 rfl).elim
        · exact⟨_,hm,by simp,by simp [Blk.bad],fun wr' ty' sz' es' e=>(by cases e;exact⟨_,rfl⟩),by simp⟩
      · cases h1
    · exact⟨blk,h1,h2,fun _=>rfl,fun wr' ty' sz' es' e=>⟨_,e⟩,fun _ _ _ _=>rfl⟩
  refine⟨by simp [h.len],fun c wr ty sz es hm=>?_,fun c c' blk blk' r r' h1 h2 h3 h4 h5 h6 h7=>?_,fun c st vs φ hm=>?_,h.glob.mono fun v x h3=>h3.mono (Nat.le_refl _) (fun _ _ _=>rfl) (fun k _ ho'=>owned_demote ho ho') (fun _ _ h=>h)⟩
  · obtain⟨blk1,q1,q2,q3,q4,q5⟩:=get hm (by simp)
    obtain⟨wr',rfl⟩:=q4 wr ty sz es rfl
    obtain⟨r,cur,g1,g2,g3,g4,g5,g6,g7,g8,g9⟩:=h.cells c wr' ty sz es q1
    refine⟨r,cur,g1,g2,g3,g4,g5,g6,g7,g8,fun i j e v a1 a2=>?_⟩
    obtain⟨b1,y,b2,b3⟩:=g9 i j e v a1 a2
    exact⟨b1,y,b2,b3.mono (Nat.le_refl _) (fun _ _ _=>rfl) (fun k _ ho'=>owned_demote ho ho') (fun _ _ h=>h)⟩
  · obtain⟨b1,q1,q2,q3,q4,q5⟩:=get h1 h2
    obtain⟨b2,p1,p2,p3,p4,p5⟩:=get h3 (fun e=>by subst e;simp [Blk.bad] at h4)
    rw [p3 h4] at h4
    exact h.inj c c' b1 b2 r r' q1 q2 p1 h4 h5 h6 h7
  · obtain⟨blk1,q1,q2,q3,q4,q5⟩:=get hm (by simp)
    rw [q5 st vs φ rfl] at q1
    obtain⟨r,g1,g2⟩:=h.objs c st vs φ q1
    exact⟨r,g1,g2.mono (fun _=>rfl) fun v x b3=>b3.mono (Nat.le_refl _) (fun _ _ _=>rfl) (fun k _ ho'=>owned_demote ho ho') (fun _ _ h=>h)⟩

theorem owned_set_cells{p:Blk→Bool}{m:Mem}{ρ:List Re}{b ty sz:Nat}{es es':List (List V)}(hb:m[b]?=some (.cells .own ty sz es))(hp:p (.cells .own ty sz es)=p (.cells .own ty sz es')){k:Nat}(h:has p (m.set b (.cells .own ty sz es')) ρ k):has p m ρ k:=by
  obtain⟨c,blk,r,h1,h2,h3,h4⟩:=h
  rw [List.getElem?_set] at h1
  split at h1
  · rename_i e
    subst e
    split at h1
    · simp at h1;subst h1;exact⟨b,_,r,hb,hp.trans h2,h3,h4⟩
    · cases h1
  · exact⟨c,blk,r,h1,h2,h3,h4⟩

/-- a block's content is turned -/
theorem RelM.turn{w w':World}{ρ:List Re}{m:Mem}(h:RelM w ρ m){b ty sz:Nat}{es es':List (List V)}(hb:m[b]?=some (.cells .own ty sz es)){r:Re}(hr:ρ[b]?=some r)(cur':Array Value)
    (hs:w.heap.size≤w'.heap.size) (hk:∀ k,k<w.heap.size→k≠r.blk→w'.heap[k]?=w.heap[k]?) (hh:w'.heap[r.blk]?=some (.cells cur' ty (0,0))) (hc:cur'.size=r.cap * sz)
    (hl:es'.length≤r.cap) (he:∀ e∈es',e.length=sz)
    (hv:∀ (i j:Nat) e v,es'[i]?=some e→e[j]?=some v→v.one=true∧∃ y,cur'[i * sz+j]?=some y∧RelV w ρ (bad m ρ) v y):
    RelM w' ρ (m.set b (Blk.cells .own ty sz es')):=by
  have hown:bad m ρ r.blk:=⟨b,_,r,hb,rfl,hr,rfl⟩
  have hblt:b<m.length:=(List.getElem?_eq_some_iff.1 hb).1
  have hOld:∀ {v:V} {x:Value},RelV w ρ (bad m ρ) v x→RelV w' ρ (bad (m.set b (Blk.cells .own ty sz es')) ρ) v x:=fun hr'=>
    hr'.mono hs (fun k hk' hn=>hk k hk' (fun e=>hn (e ▸ hown))) (fun k _ ho=>owned_set_cells (p:=Blk.bad) (es':=es') hb rfl ho) (fun _ _ h=>h)
  have get:∀ {c:Nat} {blk:Blk},(m.set b (Blk.cells .own ty sz es'))[c]?=some blk→c≠b→m[c]?=some blk:=by
    intro c blk h1 h2
    rw [List.getElem?_set,if_neg (fun e=>h2 e.symm)] at h1
    exact h1
  have hb':(m.set b (Blk.cells .own ty sz es'))[b]?=some (Blk.cells .own ty sz es'):=by rw [List.getElem?_set,if_pos rfl,if_pos hblt]
  obtain⟨r0,cur0,k1,k2,k3,k4,k5,k6,k7,k8,k9⟩:=h.cells b .own ty sz es hb
  rw [hr] at k1
  cases k1
  refine⟨by simp [h.len],fun c wr' ty' sz' es'' hm=>?_,fun c c' blk blk' r1 r2 h1 h2 h3 h4 h5 h6 h7=>?_,fun c st'' vs'' φ'' hm=>?_,h.glob.mono fun v x h3=>hOld h3⟩
  · by_cases hcb:c=b
    · subst hcb
      rw [hb'] at hm
      simp at hm
      obtain⟨rfl,rfl,rfl,rfl⟩:=hm
      refine⟨r,cur',hr,k2,k3,hh,hc,hl,k7,he,fun i j e v a1 a2=>?_⟩
      obtain⟨b1,y,b2,b3⟩:=hv i j e v a1 a2
      exact⟨b1,y,b2,hOld b3⟩
    · have hm':=get hm hcb
      obtain⟨r1,cur1,g1,g2,g3,g4,g5,g6,g7,g8,g9⟩:=h.cells c wr' ty' sz' es'' hm'
      refine⟨r1,cur1,g1,g2,g3,(hk _ (heap_lt g4) (fun e=>hcb (h.inj c b _ _ r1 r hm' (by simp) hb rfl g1 hr e))).trans g4,g5,g6,g7,g8,fun i j e v a1 a2=>?_⟩
      obtain⟨b1,y,b2,b3⟩:=g9 i j e v a1 a2
      exact⟨b1,y,b2,hOld b3⟩
  · have key:∀ {c:Nat} {blk:Blk},(m.set b (Blk.cells .own ty sz es'))[c]?=some blk→∃ blk0:Blk,m[c]?=some blk0∧(blk≠ .dead→blk0≠ .dead)∧(blk.bad=true→blk0.bad=true):=by
      intro c blk a1
      by_cases hcb:c=b
      · subst hcb;exact⟨_,hb,fun _=>by simp,fun _=>rfl⟩
      · exact⟨blk,get a1 hcb,fun h=>h,fun h=>h⟩
    obtain⟨b1,q1,q2,_⟩:=key h1
    obtain⟨b2,q3,_,q4⟩:=key h3
    exact h.inj c c' b1 b2 r1 r2 q1 (q2 h2) q3 (q4 h4) h5 h6 h7
  · by_cases hcb:c=b
    · subst hcb;rw [hb'] at hm;simp at hm
    · have hm':=get hm hcb
      obtain⟨r1,g1,g2⟩:=h.objs c st'' vs'' φ'' hm'
      exact⟨r1,g1,g2.mono (fun hlt=>hk _ hlt (fun e=>hcb (h.inj c b _ _ r1 r hm' (by simp) hb rfl g1 hr e))) fun v x b3=>hOld b3⟩

def tget:List (Nat×V)→Nat→V
  |[],_=> .any
  |(i,v)::r,j=>if i=j then v else tget r j
def tput(t:List (Nat×V)):Option Nat→V→List (Nat×V)
  |some d,v=>(d,v)::t
  |none,_=>t
def ofC:Value→V
  | .int k n=> .int k n
  | .bool b=> .bool b
  | .string s=> .str s.data.toList
  | .pointer none=> .nilptr
  | .slice none 0 0=> .nilsl
  | .map none=> .nilmap
  | .nilFunc=> .nilfn
  | .nilIface=> .nilif
  |_=> .any
def evO(t:List (Nat×V)):Operand→V
  | .tmp i=>tget t i
  | .const c=>ofC c
  | .global g=>gval g
  | .func f=> .clo (.func f) [] []

/-! what the table of types tells -/
def szT(P:Program)(T:TypeId):Nat:=P.cellsOf T
def agT(P:Program)(T:TypeId):Option Bool:=match P.underlying T with
  |some (.struct _)=>some true
  |some (.array _ _)=>some true
  |some _=>some false
  |none=>none
/-- the element type of a slice type -/
def slT(P:Program)(T:TypeId):Option TypeId:=match P.underlying T with
  |some (.slice e)=>some e
  |_=>none
/-- length and element type of an array type -/
def arT(P:Program)(T:TypeId):Option (Nat×TypeId):=match P.underlying T with
  |some (.array n e)=>some (n,e)
  |_=>none
/-- offset and size of a struct's field (none: of no cell) -/
def fdT(P:Program)(T:TypeId)(j:Nat):Option (Nat×TypeId):=match P.underlying T with
  |some (.struct fs)=>(fs[j]?).bind fun f=>if P.cellsOf f.type=0 then none else some (f.offset,f.type)
  |_=>none
/-- is it a struct type, all of whose fields' types are known -/
def stT(P:Program)(T:TypeId):Bool:=match P.underlying T with
  |some (.struct fs)=>fs.toList.all fun f=>(P.info? f.type).isSome
  |_=>false
def intT(P:Program)(T:TypeId):Option IntKind:=match P.underlying T with
  |some (.int k)=>some k
  |_=>none
def oneC(l:List Value):Option (List V):=let vs:=l.map ofC;if vs.all V.one then some vs else none
/-- the zero value's cells -/
def zeT(P:Program)(T:TypeId):Option (List V):=((P.info? T).bind fun i=>i.zero.bind fun z=>oneC z.cells.toList)
/-- may a slice of this element type grow: elements of one cell or more, and not too large -/
def smT(P:Program)(T:TypeId):Bool:=match P.info? T with
  |some i=>(match i.zero with|some z=>i.bytes≤100000000 && 0<i.size && z.cells.size==i.size && z.cells.all (fun c=>c.oneCell')|none=>false)
  |none=>false

def cellsV:V→Option (List V)
  | .agg cs=>if cs.all V.one then some cs else none
  |v=>if v.one then some [v] else none
def partV(P:Program)(T:TypeId)(cs:List V)(o:Nat):Option V:=
  match agT P T with
  |some true=>if o+szT P T≤cs.length then some (.agg ((cs.drop o).take (szT P T))) else none
  |some false=>cs[o]?
  |none=>none

abbrev Res:=Option (Prop×V×Mem)
def okR(m:Mem)(v:V):Res:=some (True,v,m)
def okO(m:Mem):Option V→Res
  |some v=>some (True,v,m)
  |none=>none

def evBin(op:BinOp)(x y:V):Option (Prop×V):=
  match op,x,y with
  | .add,.int k a,.int k' b=>if k=k' then some (True,.int k (k.wrap (a+b))) else none
  | .sub,.int k a,.int k' b=>if k=k' then some (True,.int k (k.wrap (a - b))) else none
  | .mul,.int k a,.int k' b=>if k=k' then some (True,.int k (k.wrap (a * b))) else none
  | .quo,.int k a,.int k' b=>if k=k' then some (b≠0,.int k (k.wrap (a.tdiv b))) else none
  | .rem,.int k a,.int k' b=>if k=k' then some (b≠0,.int k (a.tmod b)) else none
  | .eql,.int k a,.int k' b=>if k=k' then some (True,.bool (decide (a=b))) else none
  | .neq,.int k a,.int k' b=>if k=k' then some (True,.bool (!decide (a=b))) else none
  | .lss,.int k a,.int k' b=>if k=k' then some (True,.bool (decide (a<b))) else none
  | .leq,.int k a,.int k' b=>if k=k' then some (True,.bool (decide (a≤b))) else none
  | .gtr,.int k a,.int k' b=>if k=k' then some (True,.bool (decide (b<a))) else none
  | .geq,.int k a,.int k' b=>if k=k' then some (True,.bool (decide (b≤a))) else none
  | .and,.int k a,.int k' b=>if k=k' then some (True,.int k (bits .and k a b)) else none
  | .or,.int k a,.int k' b=>if k=k' then some (True,.int k (bits .or k a b)) else none
  | .xor,.int k a,.int k' b=>if k=k' then some (True,.int k (bits .xor k a b)) else none
  | .shr,.int k a,.int _ b=>some (0≤b,.int k (a.fdiv (2 ^ (min b.toNat k.bits))))
  | .shl,.int k a,.int _ b=>some (0≤b,.int k (k.wrap (a * 2 ^ (min b.toNat k.bits))))
  | .add,.str a,.str b=>some (a.length+b.length≤1000000000,.str (a++b))
  | .eql,.str a,.str b=>some (True,.bool (decide (a=b)))
  | .neq,.str a,.str b=>some (True,.bool (!decide (a=b)))
  |_,_,_=>none

def evUn(op:UnOp)(x:V):Option V:=
  match op,x with
  | .not,.bool b=>some (.bool (!b))
  | .neg,.int k a=>some (.int k (k.wrap (-a)))
  |_,_=>none

def setAt(cs:List V)(o:Nat)(xs:List V):List V:=cs.take o++xs++cs.drop (o+xs.length)

/-- an array's or a struct's parts laid into its zero value -/
def fillV (place:Nat→Option (Nat×Nat)) (cs:List V):List (Nat×V)→Option (List V)
  |[]=>some cs
  | (i,v)::rest=>
    match place i,cellsV v with
    |some (off,size),some xs=>if xs.length=size∧off+size≤cs.length then fillV place (setAt cs off xs) rest else none
    |_,_=>none

/-- the elements that a slice value reads as -/
def elsV (m:Mem):V→Option (List (List V))
  | .nilsl=>some []
  | .lst es=>some es
  | .sl b n=>match m[b]? with
    |some (.cells _ _ _ es)=>if n≤es.length then some (es.take n) else none
    |_=>none
  |_=>none

def evOp (P:Program) (t:List (Nat×V)) (m:Mem):Op→Res
  | .move x=>okR m (evO t x)
  | .assign x=>okR m (evO t x)
  | .pick c a b=>match evO t c with
    | .bool c=>okR m (if c=true then evO t a else evO t b)
    |_=>none
  | .alloc T=>match zeT P T with
    |some zs=>if 0<zs.length∧zs.length≤1000000 then some (True,.ptr m.length 0 0,m++[.cells .own T zs.length [zs]]) else none
    |none=>none
  | .box T x=>match cellsV (evO t x) with
    |some xs=>if 0<xs.length∧xs.length≤1000000 then some (True,.ptr m.length 0 0,m++[.cells .own T xs.length [xs]]) else none
    |none=>none
  | .load T x=>match evO t x with
    | .bp cs o=>okO m (partV P T cs o)
    | .ptr b i o=>match m[b]? with
      | some (.cells _ _ _ es)=>match es[i]? with
        |some e=>okO m (partV P T e o)
        |none=>none
      |_=>none
    |_=>none
  | .store T x y=>match evO t x,cellsV (evO t y) with
    | .ptr b i o,some xs=>match m[b]? with
      | some (.cells .own ty sz es)=>match es[i]? with
        |some e=>if xs.length=szT P T∧0<xs.length∧o+xs.length≤sz then some (True,.any,m.set b (.cells .own ty sz (es.set i (setAt e o xs)))) else none
        |none=>none
      |_=>none
    |_,_=>none
  | .binOp op _ x y _=>match evBin op (evO t x) (evO t y) with
    |some (p,v)=>some (p,v,m)
    |none=>none
  | .unOp op _ x=>okO m (evUn op (evO t x))
  | .nilCheck x=>match evO t x with
    | .ptr b i o=>okR m (.ptr b i o)
    | .bp cs o=>okR m (.bp cs o)
    |_=>none
  | .extract x i=>match evO t x with
    | .tup vs=>okO m (vs[i]?)
    |_=>none
  | .fieldAddr T x j=>match fdT P T j,evO t x with
    |some (off,_),.bp cs o=>okR m (.bp cs (o+off))
    |some (off,_),.ptr b i o=>okR m (.ptr b i (o+off))
    |_,_=>none
  | .field T x j=>match fdT P T j,evO t x with
    |some (off,ft),.agg cs=>okO m (partV P ft cs off)
    |_,_=>none
  | .indexAddr T x ix=>match evO t ix with
    | .int _ n=>match slT P T,evO t x with
      | some E,.lst es=>match es[n.toNat]? with
        |some e=>if e.length=szT P E∧0<szT P E then some (0≤n,.bp e 0,m) else none
        |none=>none
      | some E,.sl b k=>match m[b]? with
        |some (.cells _ _ sz _)=>if sz=szT P E∧0<szT P E then some (0≤n∧n<(k:Int),.ptr b n.toNat 0,m) else none
        |_=>none
      | _,.bp cs o=>match arT P T with
        |some (k,E)=>if 0<szT P E then some (0≤n∧n<(k:Int),.bp cs (o+n.toNat * szT P E),m) else none
        |none=>none
      | _,.ptr b i o=>match arT P T with
        |some (k,E)=>if 0<szT P E then some (0≤n∧n<(k:Int),.ptr b i (o+n.toNat * szT P E),m) else none
        |none=>none
      |_,_=>none
    |_=>none
  | .index T x ix=>match evO t ix,arT P T,evO t x with
    | .int _ n,some (k,E),.agg cs=>match partV P E cs (n.toNat * szT P E) with
      |some v=>if 0<szT P E then some (0≤n∧n<(k:Int),v,m) else none
      |none=>none
    |_,_,_=>none
  | .makeFunc fn f c=>okR m (.clo fn (f.toList.map (evO t)) (c.toList.map (evO t)))
  | .build T parts=>match zeT P T with
    | some zs=>match arT P T with
      | some (_,E)=>if 0<szT P E then
          match fillV (fun i=>some (i * szT P E,szT P E)) zs (parts.toList.map fun(i,x)=>(i,evO t x)) with
          |some cs=>okR m (.agg cs)
          |none=>none
        else none
      | none=>if stT P T=true then
          match fillV (fun i=>(fdT P T i).map fun(o,ft)=>(o,szT P ft)) zs (parts.toList.map fun(i,x)=>(i,evO t x)) with
          |some cs=>okR m (.agg cs)
          |none=>none
        else none
    |none=>none
  |_=>none

structure After(w:World)(ρ:List Re)(m:Mem)(w':World)(ρ':List Re)(m':Mem):Prop where
  keep:Keep (owned m ρ) w w'
  pre:∀ (b:Nat) r,ρ[b]?=some r→ρ'[b]?=some r
  mem:RelM w' ρ' m'
  own:∀ k,k<w.heap.size→owned m' ρ' k→owned m ρ k
  bd:∀ k,k<w.heap.size→bad m' ρ' k→bad m ρ k

theorem After.refl{w:World}{ρ:List Re}{m:Mem}(h:RelM w ρ m):After w ρ m w ρ m:=⟨Keep.refl _ _,fun _ _ h=>h,h,fun _ _ h=>h,fun _ _ h=>h⟩
theorem After.trans{a b c:World}{ρ ρ' ρ'':List Re}{m m' m'':Mem}(h:After a ρ m b ρ' m')(k:After b ρ' m' c ρ'' m''):After a ρ m c ρ'' m'':=
  ⟨h.keep.trans k.keep h.own,fun b r hr=>k.pre b r (h.pre b r hr),k.mem,fun r hr ho=>h.own r hr (k.own r (Nat.lt_of_lt_of_le hr h.keep.size) ho),fun r hr ho=>h.bd r hr (k.bd r (Nat.lt_of_lt_of_le hr h.keep.size) ho)⟩
theorem After.rel{w w':World}{ρ ρ':List Re}{m m':Mem}(h:After w ρ m w' ρ' m'){v:V}{x:Value}(hr:RelV w ρ (bad m ρ) v x):RelV w' ρ' (bad m' ρ') v x:=
  hr.mono h.keep.size (fun k hk hn=>h.keep.block k hk (fun ho=>hn (bad_of_owned ho))) h.bd h.pre

def RelT(w:World)(ρ:List Re)(m:Mem)(t:List (Nat×V))(a:Act):Prop:=∀ i,RelV w ρ (bad m ρ) (tget t i) (a.tmps.getD i undef)

theorem ofC_rel(w:World)(ρ:List Re)(B:Nat→Prop)(c:Value):RelV w ρ B (ofC c) c:=by
  unfold ofC
  split
  · exact .int _ _
  · exact .bool _
  · exact .str _ _ rfl
  · exact .nilptr
  · exact .nilsl
  · exact .nilmap
  · exact .nilfn
  · exact .nilif
  · exact .any _

theorem evO_rel{w:World}{ρ:List Re}{m:Mem}{t:List (Nat×V)}{a:Act}(h:RelT w ρ m t a)(o:Operand)(hM:RelM w ρ m:=by assumption):RelV w ρ (bad m ρ) (evO t o) (a.eval o):=by
  cases o with
  |tmp i=>exact h i
  |const c=>exact ofC_rel _ _ _ c
  |global g=>exact hM.glob g
  |func f=>exact .clo _ _ _ _ _ rfl rfl (fun i c x h=>by simp at h) (fun i c x h=>by simp at h)

theorem tput_rel {w:World} {ρ:List Re} {m:Mem} {t:List (Nat×V)} {a:Act} (h:RelT w ρ m t a) {d:Option Nat} {v:V} {x:Value} (hv:RelV w ρ (bad m ρ) v x) (hd:∀ k,d=some k→k<a.tmps.size):
    RelT w ρ m (tput t d v) (a.put d x):=by
  cases d with
  |none=>exact h
  | some k=>
    have hk:=hd k rfl
    intro i
    simp only [tput,tget,Act.put]
    by_cases e:k=i
    · subst e
      rw [if_pos rfl]
      have:(a.tmps.setIfInBounds k x).getD k undef=x:=by simp [Array.getD,hk]
      rw [this];exact hv
    · rw [if_neg e]
      have:(a.tmps.setIfInBounds k x).getD i undef=a.tmps.getD i undef:=by
        simp only [Array.getD_eq_getD_getElem?,Array.getElem?_setIfInBounds]
        rw [if_neg e]
      rw [this];exact h i

theorem info_of_sz{P:Program}{T:TypeId}(h:0<szT P T):∃ i,P.info? T=some i∧i.size=szT P T:=by
  unfold szT Program.cellsOf at *
  cases hi:P.info? T with
  |none=>rw [hi] at h;simp at h
  |some i=>exact⟨i,rfl,by simp⟩
theorem run_sizeOf{P:Program}{T:TypeId}(h:0<szT P T)(w:World):(sizeOf T).run P w= .ok (szT P T) w:=by
  obtain⟨i,hi,hs⟩:=info_of_sz h
  simp [sizeOf,typeInfo,hi,hs,go_sem]
theorem run_isAgg{P:Program}{T:TypeId}{b:Bool}(h:agT P T=some b)(w:World):(isAgg T).run P w= .ok b w:=by
  unfold agT at h
  cases hu:P.underlying T with
  |none=>rw [hu] at h;cases h
  | some d=>
    rw [hu] at h
    cases d<;>simp at h<;>subst h<;>simp [isAgg,run_underlying hu,go_sem]
theorem run_sizeOf_ag{P:Program}{T:TypeId}(h:agT P T=some true)(w:World):(sizeOf T).run P w= .ok (szT P T) w:=by
  have:∃ i,P.info? T=some i:=by
    unfold agT Program.underlying at h
    cases hi:P.info? T with
    |none=>rw [hi] at h;simp at h
    |some i=>exact⟨i,rfl⟩
  obtain⟨i,hi⟩:=this
  simp [sizeOf,typeInfo,hi,szT,Program.cellsOf,go_sem]

theorem addr_add(b o j:Nat):(⟨b,o,none⟩:Addr).add j=⟨b,o+j,none⟩:=by
  unfold Addr.add;split
  · subst j;rfl
  · rfl

theorem partV_load {P:Program} {w:World} {ρ:List Re} {B:Nat→Prop} {T:TypeId} {cs:List V} {o b off:Nat} {Y:Nat→Value} {v:V}
    (hY:∀ (j:Nat) c,cs[j]?=some c→w.cell? ⟨b,off+j,none⟩=some (Y j)) (hV:∀ (j:Nat) c,cs[j]?=some c→RelV w ρ B c (Y j)) (h:partV P T cs o=some v):
    ∃ x,(loadVar T ⟨b,off+o,none⟩).run P w= .ok x w∧RelV w ρ B v x:=by
  unfold partV at h
  cases ha:agT P T with
  |none=>rw [ha] at h;cases h
  | some q=>
    rw [ha] at h
    cases q with
    | true=>
      simp only at h
      split at h
      · rename_i hle
        cases h
        have hc:∀ j,j<szT P T→w.cell? ((⟨b,off+o,none⟩:Addr).add j)=some (Y (o+j)):=by
          intro j hj
          rw [addr_add,Nat.add_assoc]
          exact hY (o+j) _ (List.getElem?_eq_getElem (by omega))
        refine⟨.agg ((List.range (szT P T)).map fun j=>Y (o+j)).toArray,?_,?_⟩
        · simp only [loadVar,Sem.run_bind,run_isAgg ha,Result.andThen_ok,if_true,run_sizeOf_ag ha,run_loadCells w _ _ (fun j=>Y (o+j)) hc,Sem.run_pure]
        · refine .agg _ _ ?_ ?_
          · simp;omega
          · intro i c x h1 h2
            have hi:i<szT P T:=by
              rcases Nat.lt_or_ge i (szT P T) with h|h
              · exact h
              · simp [List.getElem?_take] at h1;omega
            rw [List.getElem?_take_of_lt hi,List.getElem?_drop] at h1
            simp [hi] at h2
            subst h2
            exact hV _ _ h1
      · cases h
    | false=>
      simp only at h
      exact⟨Y o,by simp only [loadVar,Sem.run_bind,run_isAgg ha,Result.andThen_ok,Bool.false_eq_true,if_false];simp [run_load,hY o v h],hV o v h⟩

theorem partV_part {P:Program} {w:World} {ρ:List Re} {B:Nat→Prop} {T:TypeId} {cs:List V} {xs:Array Value} {o:Nat} {v:V}
    (hl:cs.length=xs.size) (hV:∀ (j:Nat) c x,cs[j]?=some c→xs[j]?=some x→RelV w ρ B c x) (h:partV P T cs o=some v):
    ∃ x,(part T xs o).run P w= .ok x w∧RelV w ρ B v x:=by
  unfold partV at h
  cases ha:agT P T with
  |none=>rw [ha] at h;cases h
  | some q=>
    rw [ha] at h
    cases q with
    | true=>
      simp only at h
      split at h
      · rename_i hle
        cases h
        refine⟨.agg (xs.extract o (o+szT P T)),?_,?_⟩
        · simp only [part,Sem.run_bind,run_isAgg ha,Result.andThen_ok,if_true,run_sizeOf_ag ha,Sem.run_pure]
        · refine .agg _ _ ?_ ?_
          · simp;omega
          · intro i c x h1 h2
            have hi:i<szT P T:=by
              rcases Nat.lt_or_ge i (szT P T) with h|h
              · exact h
              · simp [List.getElem?_take] at h1;omega
            rw [List.getElem?_take_of_lt hi,List.getElem?_drop] at h1
            rw [Array.getElem?_extract] at h2
            split at h2
            · exact hV _ _ _ h1 h2
            · cases h2
      · cases h
    | false=>
      simp only at h
      have hlt:o<cs.length:=(List.getElem?_eq_some_iff.1 h).1
      have hx:xs[o]?=some (xs[o]'(by omega)):=Array.getElem?_eq_getElem (by omega)
      exact⟨_,by simp only [part,Sem.run_bind,run_isAgg ha,Result.andThen_ok,Bool.false_eq_true,if_false,hx,Sem.run_pure],hV o v _ h hx⟩

/-- the cells of a value that is stored -/
theorem cellsV_rel{w:World}{ρ:List Re}{B:Nat→Prop}{v:V}{x:Value}{cs:List V}(h:RelV w ρ B v x)(hc:cellsV v=some cs):
    cs.length=x.cells.size∧(∀ (j:Nat) c y,cs[j]?=some c→x.cells[j]?=some y→c.one=true∧y.oneCell'=true∧RelV w ρ B c y):=by
  have one:v.one=true→cellsV v=some [v]→cs.length=x.cells.size∧(∀ (j:Nat) c y,cs[j]?=some c→x.cells[j]?=some y→c.one=true∧y.oneCell'=true∧RelV w ρ B c y):=by
    intro ho hc'
    rw [hc'] at hc
    cases hc
    obtain⟨h1,h2⟩:=h.one ho
    rw [h2]
    refine⟨rfl,fun j c y a1 a2=>?_⟩
    rcases j with _|j
    · simp at a1 a2
      subst a1;subst a2
      exact⟨ho,h1,h⟩
    · simp at a1
  cases h with
  | agg cs' xs hl hh=>
    unfold cellsV at hc
    simp only at hc
    split at hc
    · rename_i hall
      cases hc
      refine⟨hl,fun j c y a1 a2=>?_⟩
      have ho:c.one=true:=List.all_eq_true.1 hall c (List.mem_of_getElem? a1)
      exact⟨ho,((hh j c y a1 a2).one ho).1,hh j c y a1 a2⟩
    · cases hc
  |any=>simp [cellsV,V.one] at hc
  |tup=>simp [cellsV,V.one] at hc
  |_=>exact one rfl rfl

theorem splice_get{α:Type}(l v:List α)(p k:Nat)(h:p+v.length≤l.length):
    (l.take p++v++l.drop (p+v.length))[k]?=if k<p then l[k]? else if k<p+v.length then v[k - p]? else l[k]?:=by
  have h1:(l.take p).length=p:=by simp;omega
  by_cases hk:k<p
  · rw [if_pos hk,List.append_assoc,List.getElem?_append_left (by omega),List.getElem?_take_of_lt hk]
  · rw [if_neg hk]
    by_cases hk2:k<p+v.length
    · rw [if_pos hk2,List.append_assoc,List.getElem?_append_right (by omega),h1,List.getElem?_append_left (by omega)]
    · rw [if_neg hk2,List.getElem?_append_right (by simp;omega),List.getElem?_drop]
      congr 1
      simp;omega

theorem After.of_push{w w':World}{ρ:List Re}{m:Mem}(h:RelM w ρ m)(hb:Below w.heap.size w w'){g cap sz:Nat}{blk:Blk}(hg:w.heap.size≤g)(hM:RelM w' (ρ++[⟨g,cap,sz⟩]) (m++[blk])):
    After w ρ m w' (ρ++[⟨g,cap,sz⟩]) (m++[blk]):=
  ⟨Keep.of_below hb,fun _ _ h=>prefix_get h,hM,fun k hk ho=>(owned_snoc h.len ho).resolve_right (fun e=>by subst e;exact absurd hg (Nat.not_le.2 hk)),fun k hk ho=>(owned_snoc h.len ho).resolve_right (fun e=>by subst e;exact absurd hg (Nat.not_le.2 hk))⟩

/-- a new block for one element -/
theorem new_sound{w:World}{ρ:List Re}{m:Mem}(h:RelM w ρ m)(T:TypeId){x:Value}{cs:List V}(hl:cs.length=x.cells.size)(hp:0<cs.length)
    (hv:∀ (j:Nat) c y,cs[j]?=some c→x.cells[j]?=some y→c.one=true∧y.oneCell'=true∧RelV w ρ (bad m ρ) c y):
    After w ρ m (w.alloc (.cells x.cells T)) (ρ++[⟨w.heap.size,1,cs.length⟩]) (m++[.cells .own T cs.length [cs]])∧
    RelV (w.alloc (.cells x.cells T)) (ρ++[⟨w.heap.size,1,cs.length⟩]) (bad (m++[.cells .own T cs.length [cs]]) (ρ++[⟨w.heap.size,1,cs.length⟩])) (.ptr m.length 0 0) (.pointer (some ⟨w.heap.size,0,none⟩)):=by
  have hb:Below w.heap.size w (w.alloc (.cells x.cells T)):=(Below.refl _ _).alloc (Nat.le_refl _) _
  refine⟨After.of_push h hb (Nat.le_refl _) (h.push hb w.heap.size 1 T cs.length [cs] x.cells (Nat.le_refl _) hp (heap_alloc_new w _) (by omega) (by simp) (by unfold maxLen;omega) (by simp) ?_),?_⟩
  · intro i j e v h1 h2
    rcases i with _|i
    · simp at h1
      subst h1
      have hj:j<x.cells.size:=by rw [←hl];exact(List.getElem?_eq_some_iff.1 h2).1
      have hy:x.cells[j]?=some (x.cells[j]):=Array.getElem?_eq_getElem hj
      obtain⟨a1,_,a3⟩:=hv j v _ h2 hy
      exact⟨a1,_,by rw [Nat.zero_mul,Nat.zero_add];exact hy,a3⟩
    · simp at h1
  · have:=RelV.ptr (w:=w.alloc (.cells x.cells T)) (B:=bad (m++[.cells .own T cs.length [cs]]) (ρ++[⟨w.heap.size,1,cs.length⟩])) m.length 0 0 ⟨w.heap.size,1,cs.length⟩ (ρ:=ρ++[⟨w.heap.size,1,cs.length⟩]) (by rw [←h.len];simp)
    rw [Nat.zero_mul] at this
    exact this

theorem store_sound {P:Program} {w:World} {ρ:List Re} {m:Mem} (hM:RelM w ρ m) {b ty sz:Nat} {es:List (List V)} (hb:m[b]?=some (.cells .own ty sz es)) {r:Re} (hr:ρ[b]?=some r)
    {i o T:Nat} {e:List V} (he:es[i]?=some e) {v:V} {x:Value} {xs:List V} (hx:RelV w ρ (bad m ρ) v x) (hc:cellsV v=some xs) (hl:xs.length=szT P T) (hp:0<xs.length) (ho:o+xs.length≤sz):
    ∃ w',(storeVar T ⟨r.blk,i * r.sz+o,none⟩ x).run P w= .ok () w'∧After w ρ m w' ρ (m.set b (.cells .own ty sz (es.set i (setAt e o xs))))∧w'.heap.size=w.heap.size∧∀ k,k≠r.blk→w'.heap[k]?=w.heap[k]?:=by
  obtain⟨r0,cur,k1,k2,k3,k4,k5,k6,k7,k8,k9⟩:=hM.cells b .own ty sz es hb
  rw [hr] at k1
  cases k1
  obtain⟨c1,c2⟩:=cellsV_rel hx hc
  have hi:i<es.length:=(List.getElem?_eq_some_iff.1 he).1
  have hesz:e.length=sz:=k8 e (List.mem_of_getElem? he)
  have hmul:i * sz+sz≤r.cap * sz:=by
    have:(i+1) * sz≤r.cap * sz:=Nat.mul_le_mul_right _ (by omega)
    rw [Nat.succ_mul] at this;exact this
  have hlen:x.cells.toList.length=xs.length:=by simp [c1]
  have hfit:i * sz+o+x.cells.toList.length≤cur.toList.length:=by simp [k5];simp at hlen;omega
  have h1c:∀ y∈x.cells.toList,y.oneCell'=true:=by
    intro y hy
    obtain⟨j,hj⟩:=List.getElem?_of_mem hy
    have hj':x.cells[j]?=some y:=by simpa using hj
    have hjl:j<xs.length:=by rw [c1];exact(Array.getElem?_eq_some_iff.1 hj').1
    exact(c2 j _ y (List.getElem?_eq_getElem hjl) hj').2.1
  have hrun:=run_storeCells_at (P:=P) r.blk (i * r.sz+o) ty x.cells.toList 0 cur w k4 (by rw [k2];simpa using hfit) h1c
  rw [k2] at hrun
  simp only [Nat.add_zero] at hrun
  refine⟨w.setRow r.blk (cur.toList.take (i * sz+o)++x.cells.toList++cur.toList.drop (i * sz+o+x.cells.toList.length)).toArray,?_,?_,by simp,fun k hne=>setRow_other _ _ _ _ hne⟩
  · simp only [storeVar,Sem.run_bind,run_sizeOf (by omega:0<szT P T),Result.andThen_ok,k2]
    rw [if_neg (by simp;omega)]
    exact hrun
  · refine ⟨⟨rfl,rfl,rfl,by simp,fun k hk hn=>setRow_other _ _ _ _ (fun e=>hn ⟨b,_,r,hb,rfl,hr,e.symm⟩)⟩,fun _ _ h=>h,?_,fun k hk h=>owned_set_cells (es':=es.set i (setAt e o xs)) hb rfl h,fun k hk h=>owned_set_cells (p:=Blk.bad) (es':=es.set i (setAt e o xs)) hb rfl h⟩
    refine hM.turn hb hr (cur.toList.take (i * sz+o)++x.cells.toList++cur.toList.drop (i * sz+o+x.cells.toList.length)).toArray (by simp) (fun k hk hne=>setRow_other _ _ _ _ hne) (setRow_heap _ _ _ _ _ _ k4) ?_ (by simpa using k6) ?_ ?_
    · simp at hfit hlen ⊢;omega
    · intro e' he'
      rcases List.mem_or_eq_of_mem_set he' with h|h
      · exact k8 e' h
      · subst h
        simp [setAt];omega
    · intro i' j e' v' a1 a2
      have hget:∀ q,(cur.toList.take (i * sz+o)++x.cells.toList++cur.toList.drop (i * sz+o+x.cells.toList.length)).toArray[q]?=if q<i * sz+o then cur[q]? else if q<i * sz+o+xs.length then x.cells[q - (i * sz+o)]? else cur[q]?:=by
        intro q
        have:=splice_get cur.toList x.cells.toList (i * sz+o) q hfit
        rw [hlen] at this
        simpa [hlen] using this
      rw [List.getElem?_set] at a1
      by_cases hii:i=i'
      · subst hii
        rw [if_pos rfl,if_pos hi] at a1
        cases a1
        unfold setAt at a2
        rw [splice_get e xs o j (by omega)] at a2
        by_cases q1:j<o
        · rw [if_pos q1] at a2
          obtain⟨b1,y,b2,b3⟩:=k9 i j e v' he a2
          exact⟨b1,y,by rw [hget,if_pos (by omega)];exact b2,b3⟩
        · rw [if_neg q1] at a2
          by_cases q2:j<o+xs.length
          · rw [if_pos q2] at a2
            have hjs:j - o<x.cells.size:=by omega
            have hy:x.cells[j - o]?=some (x.cells[j - o]):=Array.getElem?_eq_getElem hjs
            obtain⟨b1,b2,b3⟩:=c2 (j - o) v' _ a2 hy
            refine⟨b1,x.cells[j - o],?_,b3⟩
            rw [hget,if_neg (by omega),if_pos (by omega),←hy]
            congr 1;omega
          · rw [if_neg q2] at a2
            obtain⟨b1,y,b2,b3⟩:=k9 i j e v' he a2
            exact⟨b1,y,by rw [hget,if_neg (by omega),if_neg (by omega)];exact b2,b3⟩
      · rw [if_neg hii] at a1
        obtain⟨b1,y,b2,b3⟩:=k9 i' j e' v' a1 a2
        have hj:j<sz:=by
          have:=(List.getElem?_eq_some_iff.1 a2).1
          rw [k8 e' (List.mem_of_getElem? a1)] at this;exact this
        refine⟨b1,y,?_,b3⟩
        rw [hget]
        rcases Nat.lt_or_ge i' i with h|h
        · have:(i'+1) * sz≤i * sz:=Nat.mul_le_mul_right _ h
          rw [Nat.succ_mul] at this
          rw [if_pos (by omega)];exact b2
        · have:(i+1) * sz≤i' * sz:=Nat.mul_le_mul_right _ (by omega)
          rw [Nat.succ_mul] at this
          rw [if_neg (by omega),if_neg (by omega)];exact b2

theorem bytes_toList(b:ByteArray):b.toList=b.data.toList:=ByteArray.toList_eq b
theorem i64max:IntKind.i64.max=9223372036854775807:=by decide
theorem evBin_sound{P:Program}{w:World}{ρ:List Re}{B:Nat→Prop}{op:BinOp}{T:TypeId}{o1 o2:Operand}{v1 v2 v:V}{x1 x2:Value}{p:Prop}
    (h:evBin op v1 v2=some (p,v)) (hp:p) (r1:RelV w ρ B v1 x1) (r2:RelV w ρ B v2 x2):
    ∃ x,(do eqGuard op T o1 o2 x1 x2;binOp op T x1 x2:Sem Value).run P w= .ok x w∧RelV w ρ B v x:=by
  unfold evBin at h
  split at h
  all_goals first
    | (cases r1;cases r2
       simp only [Option.some.injEq,Prod.mk.injEq] at h
       obtain⟨rfl,rfl⟩:=h
       have hn:¬ _<(0:Int):=Int.not_lt.2 hp
       refine⟨_,?_,.int _ _⟩
       simp [eqGuard,binOp,Op.shift,go_sem,hn]
       done)
    | (cases r1;cases r2
       split at h
       · rename_i hk;subst hk
         simp only [Option.some.injEq,Prod.mk.injEq] at h
         obtain⟨rfl,rfl⟩:=h
         refine⟨?_,?_,?_⟩
         rotate_left 2
         · first|exact .int _ _|exact .bool _
         · simp [eqGuard,binOp,Op.intArith,Op.intDiv,Op.intCmp,go_sem,hp]<;>first|done|(simp_all;done)|(rw [Bool.eq_iff_iff];simp;done)
       · cases h)
    | (cases r1 with|str _ b1 e1=>cases r2 with|str _ b2 e2=>
       simp only [Option.some.injEq,Prod.mk.injEq] at h
       obtain⟨rfl,rfl⟩:=h
       have l1:=bytes_toList b1
       have l2:=bytes_toList b2
       rw [e1] at l1
       rw [e2] at l2
       have z1:b1.size=_:=congrArg List.length e1
       have z2:b2.size=_:=congrArg List.length e2
       refine⟨?_,?_,?_⟩
       rotate_left 2
       · first|exact .bool _|(refine .str _ (b1++b2) ?_;simp [e1,e2])
       · first
           |(simp [eqGuard,binOp,Op.stringOp,go_sem,l1,l2];first|done|(rw [Bool.eq_iff_iff];simp;done))
           | (have hlt:¬ (((b1.size+b2.size:Nat):Int)>IntKind.i64.max):=by rw [i64max];omega
              simp only [eqGuard,binOp,Op.stringOp,if_neg hlt]
              simp [go_sem]))
    |(cases h;done)

theorem evUn_sound{P:Program}{w:World}{ρ:List Re}{B:Nat→Prop}{op:UnOp}{v1 v:V}{x1:Value}
    (h:evUn op v1=some v) (r1:RelV w ρ B v1 x1):∃ x,(Op.unary op x1).run P w= .ok x w∧RelV w ρ B v x:=by
  unfold evUn at h
  split at h
  · cases r1;cases h
    exact⟨_,by simp [Op.unary,go_sem],.bool _⟩
  · cases r1;cases h
    exact⟨_,by simp [Op.unary,go_sem],.int _ _⟩
  · cases h

/-- the parts of a composite value -/
theorem fillV_sound {w:World} {ρ:List Re} {B:Nat→Prop} {place:Nat→Option (Nat×Nat)}:∀ (vs:List (Nat×V)) (xs:List (Nat×Value)) (cs:List V) (ys:Array Value) (cs':List V),
    cs.length=ys.size→(∀ (j:Nat) c y,cs[j]?=some c→ys[j]?=some y→RelV w ρ B c y)→
    vs.length=xs.length→(∀ (j:Nat) v x,vs[j]?=some v→xs[j]?=some x→v.1=x.1∧RelV w ρ B v.2 x.2)→fillV place cs vs=some cs'→
    ∃ ys',Instr.fill place ys xs=some ys'∧cs'.length=ys'.size∧(∀ (j:Nat) c y,cs'[j]?=some c→ys'[j]?=some y→RelV w ρ B c y)
  | [],[],cs,ys,cs',hl,hr,_,_,h=>by
    cases h
    exact⟨ys,rfl,hl,hr⟩
  |[],_::_,_,_,_,_,_,h,_,_=>by cases h
  |_::_,[],_,_,_,_,_,h,_,_=>by cases h
  | (i, v) :: vs, (i',x)::xs,cs,ys,cs',hl,hr,hlen,hp,h=>by
    obtain⟨hi,hv⟩:=hp 0 _ _ rfl rfl
    simp only at hi hv
    subst hi
    simp only [fillV] at h
    split at h
    · rename_i off size zs hpl hzs
      split at h
      · rename_i hsz
        obtain⟨c1,c2⟩:=cellsV_rel hv hzs
        have hfold:∀ (n:Nat) (l:List Value) (k:Nat) (a:Array Value),l.length=n→off+k+n≤a.size→
            (l.zipIdx k).foldl (fun cs (c,j)=>cs.setIfInBounds (off+j) c) a=(a.toList.take (off+k)++l++a.toList.drop (off+k+n)).toArray:=by
          intro n
          induction n with
          |zero=>intro l k a h1 h2;cases l<;>simp at h1 ⊢
          | succ n ih=>
            intro l k a h1 h2
            cases l with
            |nil=>simp at h1
            | cons c l=>
              simp only [List.zipIdx_cons,List.foldl_cons]
              rw [ih l (k+1) _ (by simpa using h1) (by simp;omega)]
              congr 1
              apply List.ext_getElem?
              intro q
              have hlt:off+k<a.toList.length:=by simp;omega
              simp only [Array.toList_setIfInBounds]
              have e1:=splice_get (a.toList.set (off+k) c) l (off+(k+1)) q (by simp at h1 ⊢;omega)
              have e2:=splice_get a.toList (c::l) (off+k) q (by simp at h1 ⊢;omega)
              have hn:l.length=n:=by simpa using h1
              rw [hn] at e1
              rw [show(c::l).length=n+1 by simp [hn]] at e2
              rw [e1,e2]
              by_cases q1:q<off+k
              · rw [if_pos (by omega),if_pos q1,List.getElem?_set_ne (by omega)]
              · rw [if_neg q1]
                by_cases q2:q=off+k
                · subst q2
                  rw [if_pos (by omega),if_pos (by omega),List.getElem?_set_self hlt]
                  simp
                · rw [if_neg (by omega)]
                  by_cases q3:q<off+k+(n+1)
                  · rw [if_pos (by omega),if_pos q3,show q - (off+k)=(q - (off+(k+1)))+1 by omega,List.getElem?_cons_succ]
                  · rw [if_neg (by omega),if_neg q3,List.getElem?_set_ne (by omega)]
        have hf:=hfold zs.length x.cells.toList 0 ys (by simp;omega) (by omega)
        simp only [Nat.add_zero] at hf
        have e1:¬ (x.cells.size≠size∨off+x.cells.size>ys.size):=by omega
        simp only [Instr.fill,hpl]
        rw [if_neg (by simp only [Bool.or_eq_true,decide_eq_true_eq];exact e1)]
        have hzip:x.cells.zipIdx.foldl (fun cs (c,j)=>cs.setIfInBounds (off+j) c) ys=(ys.toList.take off++x.cells.toList++ys.toList.drop (off+zs.length)).toArray:=by
          rw [←hf,←Array.foldl_toList];simp
        rw [hzip]
        refine fillV_sound vs xs _ _ cs' ?_ ?_ (by simpa using hlen) (fun j v x h1 h2=>hp (j+1) v x h1 h2) h
        · simp [setAt];omega
        · intro j c y a1 a2
          unfold setAt at a1
          rw [splice_get cs zs off j (by omega)] at a1
          have a2':(ys.toList.take off++x.cells.toList++ys.toList.drop (off+x.cells.toList.length))[j]?=some y:=by
            have:x.cells.toList.length=zs.length:=by simp;omega
            rw [this];simpa using a2
          rw [splice_get ys.toList x.cells.toList off j (by simp;omega)] at a2'
          have hxl:x.cells.toList.length=zs.length:=by simp;omega
          rw [hxl] at a2'
          by_cases q1:j<off
          · rw [if_pos q1] at a1 a2'
            exact hr j c y a1 (by simpa using a2')
          · rw [if_neg q1] at a1 a2'
            by_cases q2:j<off+zs.length
            · rw [if_pos q2] at a1 a2'
              exact(c2 _ c y a1 (by simpa using a2')).2.2
            · rw [if_neg q2] at a1 a2'
              exact hr j c y a1 (by simpa using a2')
      · cases h
    · cases h

/-- reads alone -/
def isPure:Op→Bool
  | .move _| .assign _| .pick .. | .load .. | .binOp .. | .unOp .. | .extract .. | .fieldAddr .. | .field .. | .indexAddr .. | .index .. | .makeFunc .. | .build .. | .convert .. | .slice .. | .nilCheck _=>true
  | .call ⟨.builtin .len,_,_⟩| .call ⟨.builtin .max,_,_⟩| .call ⟨.builtin .min,_,_⟩=>true
  |_=>false
/-- makes a new block, and that is all -/
def isFresh:Op→Bool
  | .alloc _| .box .. | .makeSlice .. | .buildSlice .. =>true
  |_=>false
def Gentle(o:Op)(w:World)(ρ:List Re)(w':World)(ρ':List Re):Prop:=(isPure o=true→w'=w∧ρ'=ρ)∧(isFresh o=true→Below w.heap.size w w')
def OpOk(P:Program)(w:World)(ρ:List Re)(m:Mem)(a:Act)(o:Oper)(v:V)(m':Mem):Prop:=
  ∃ n w' ρ',(execOp a.eval o).run P w= .ok n w'∧After w ρ m w' ρ' m'∧((∃ x,n= .value x∧RelV w' ρ' (bad m' ρ') v x)∨(n= .skip∧v= .any))∧Gentle o.op w ρ w' ρ'

theorem run_v{P:Program}{w w':World}{s:Sem Value}{x:Value}(h:s.run P w= .ok x w'):(do pure (Next.value (←s)):Sem Next).run P w= .ok (.value x) w':=by
  simp [h]

section
variable {P:Program} {w:World} {ρ:List Re} {m:Mem} {a:Act} {t:List (Nat×V)} {o:Oper} {v:V} {m':Mem} {p:Prop}

theorem opok_pure(hM:RelM w ρ m){x:Value}(h:(execOp a.eval o).run P w= .ok (.value x) w)(hv:RelV w ρ (bad m ρ) v x):OpOk P w ρ m a o v m:=
  ⟨_,w,ρ,h,After.refl hM,.inl ⟨x,rfl,hv⟩,fun _=>⟨rfl,rfl⟩,fun _=>Below.refl _ _⟩

theorem sound_move(hM:RelM w ρ m)(hT:RelT w ρ m t a){x:Operand}(ho:o.op= .move x∨o.op= .assign x):OpOk P w ρ m a o (evO t x) m:=by
  refine opok_pure hM (x:=a.eval x) ?_ (evO_rel hT x)
  rcases ho with ho|ho<;>simp [execOp,ho]

theorem sound_pick(hM:RelM w ρ m)(hT:RelT w ρ m t a){c x y:Operand}(ho:o.op= .pick c x y){b:Bool}(hc:evO t c= .bool b):OpOk P w ρ m a o (if b=true then evO t x else evO t y) m:=by
  have h:=evO_rel hT c
  rw [hc] at h
  generalize he:a.eval c=ec at h
  cases h
  refine opok_pure hM (x:=if b=true then a.eval x else a.eval y) ?_ ?_
  · simp only [execOp,ho,he,asBool,Sem.run_bind,Sem.run_pure,Result.andThen_ok]
  · cases b
    · exact evO_rel hT y
    · exact evO_rel hT x

theorem sound_load (hM:RelM w ρ m) (hT:RelT w ρ m t a) {T:TypeId} {x:Operand} (ho:o.op= .load T x) (h:evOp P t m (.load T x)=some (p,v,m')):OpOk P w ρ m a o v m':=by
  have hx:=evO_rel hT x
  simp only [evOp] at h
  generalize he:a.eval x=ex at hx
  cases hv:evO t x<;>rw [hv] at h hx<;>try(simp at h;done)
  case bp cs q=>
    cases hx with
    | bp _ _ b off Y h1 h2 h3 h4 h5=>
      simp only [okO] at h
      split at h
      · rename_i u hu
        simp only [Option.some.injEq,Prod.mk.injEq] at h
        obtain⟨_,rfl,rfl⟩:=h
        obtain⟨y,hr,hv'⟩:=partV_load h3 h4 hu
        refine opok_pure hM (x:=y) ?_ hv'
        simp only [execOp,ho,he]
        exact run_v (by simpa [Instr.loadAt,Instr.sureAddr,go_sem] using hr)
      · cases h
  case ptr b i q=>
    cases hx with
    | ptr _ _ _ r hr=>
      simp only at h
      split at h
      · rename_i wr ty sz es hb
        split at h
        · rename_i e hes
          simp only [okO] at h
          split at h
          · rename_i u hu
            simp only [Option.some.injEq,Prod.mk.injEq] at h
            obtain⟨_,rfl,rfl⟩:=h
            obtain⟨r0,cur,k1,k2,k3,k4,k5,k6,k7,k8,k9⟩:=hM.cells b wr ty sz es hb
            rw [hr] at k1
            cases k1
            have hcell:∀ j,w.cell? ⟨r.blk,i * r.sz+j,none⟩=cur[i * r.sz+j]?:=fun j=>by simp [World.cell?,k4]
            obtain⟨y,hrun,hv'⟩:=partV_load (w:=w) (ρ:=ρ) (B:=bad m ρ) (b:=r.blk) (off:=i * r.sz) (Y:=fun j=>(cur[i * r.sz+j]?).getD undef)
              (fun j c hc=>by
                obtain⟨_,y,hy,_⟩:=k9 i j e c hes hc
                rw [hcell,k2,hy];rfl)
              (fun j c hc=>by
                obtain⟨_,y,hy,hr'⟩:=k9 i j e c hes hc
                rw [k2,hy];exact hr') hu
            refine opok_pure hM (x:=y) ?_ hv'
            simp only [execOp,ho,he]
            exact run_v (by simpa [Instr.loadAt,Instr.sureAddr,go_sem] using hrun)
          · cases h
        · cases h
      · cases h

theorem sound_store (hM:RelM w ρ m) (hT:RelT w ρ m t a) {T:TypeId} {x y:Operand} (ho:o.op= .store T x y) (h:evOp P t m (.store T x y)=some (p,v,m')):OpOk P w ρ m a o v m':=by
  have hx:=evO_rel hT x
  have hy:=evO_rel hT y
  simp only [evOp] at h
  generalize he:a.eval x=ex at hx
  split at h
  · rename_i b i q xs hvx hcy
    rw [hvx] at hx
    cases hx with
    | ptr _ _ _ r hr=>
      split at h
      · rename_i ty sz es hb
        split at h
        · rename_i e hes
          split at h
          · rename_i hc
            simp only [Option.some.injEq,Prod.mk.injEq] at h
            obtain⟨_,rfl,rfl⟩:=h
            obtain⟨w',hrun,haf,_⟩:=store_sound (P:=P) hM hb hr hes hy hcy hc.1 hc.2.1 hc.2.2
            refine⟨.skip,w',ρ,?_,haf,.inr ⟨rfl,rfl⟩,by simp [isPure,ho],by simp [isFresh,ho]⟩
            simp only [execOp,ho,he,Instr.storeAt,Instr.sureAddr,Sem.run_bind,Sem.run_pure,Result.andThen_ok,hrun]
          · cases h
        · cases h
      · cases h
  · cases h

theorem store_frame (hM:RelM w ρ m) (hT:RelT w ρ m t a) {T:TypeId} {x y:Operand} (ho:o.op= .store T x y) (h:evOp P t m (.store T x y)=some (p,v,m')) {b i q:Nat} (hb:evO t x= .ptr b i q):
    ∃ w' r,(execOp a.eval o).run P w= .ok .skip w'∧ρ[b]?=some r∧w'.heap.size=w.heap.size∧∀ k,k≠r.blk→w'.heap[k]?=w.heap[k]?:=by
  have hx:=evO_rel hT x
  have hy:=evO_rel hT y
  simp only [evOp,hb] at h
  generalize he:a.eval x=ex at hx
  split at h
  · rename_i b' i' q' xs hvx hcy
    cases hvx
    rw [hb] at hx
    cases hx with
    | ptr _ _ _ r hr=>
      split at h
      · rename_i ty sz es hb
        split at h
        · rename_i e hes
          split at h
          · rename_i hc
            obtain⟨w',hrun,haf,h1,h2⟩:=store_sound (P:=P) hM hb hr hes hy hcy hc.1 hc.2.1 hc.2.2
            refine⟨w',r,?_,hr,h1,h2⟩
            simp only [execOp,ho,he,Instr.storeAt,Instr.sureAddr,Sem.run_bind,Sem.run_pure,Result.andThen_ok,hrun]
          · cases h
        · cases h
      · cases h
  · cases h

theorem sound_box(hM:RelM w ρ m)(hT:RelT w ρ m t a){T:TypeId}{x:Operand}(ho:o.op= .box T x)(h:evOp P t m (.box T x)=some (p,v,m')):OpOk P w ρ m a o v m':=by
  have hx:=evO_rel hT x
  simp only [evOp] at h
  split at h
  · rename_i xs hc
    split at h
    · rename_i hp
      simp only [Option.some.injEq,Prod.mk.injEq] at h
      obtain⟨_,rfl,rfl⟩:=h
      obtain⟨c1,c2⟩:=cellsV_rel hx hc
      obtain⟨s1,s2⟩:=new_sound hM T c1 hp.1 c2
      refine⟨_,_,_,?_,s1,.inl ⟨_,rfl,s2⟩,by simp [isPure,ho],fun _=>(Below.refl _ _).alloc (Nat.le_refl _) _⟩
      simp only [execOp,ho]
      simp [Instr.box,newVar,newRow,go_sem]
    · cases h
  · cases h

theorem sound_alloc (hM:RelM w ρ m) {T:TypeId} (ho:o.op= .alloc T) (h:evOp P t m (.alloc T)=some (p,v,m')):OpOk P w ρ m a o v m':=by
  simp only [evOp] at h
  split at h
  · rename_i zs hz
    split at h
    · rename_i hp
      simp only [Option.some.injEq,Prod.mk.injEq] at h
      obtain⟨_,rfl,rfl⟩:=h
      unfold zeT at hz
      cases hi:P.info? T with
      |none=>rw [hi] at hz;cases hz
      | some i=>
        rw [hi] at hz
        simp only [Option.bind_some] at hz
        cases hzz:i.zero with
        |none=>rw [hzz] at hz;cases hz
        | some z=>
          rw [hzz] at hz
          simp only [Option.bind_some,oneC] at hz
          split at hz
          · rename_i hall
            cases hz
            obtain⟨s1,s2⟩:=new_sound (x:=z) hM T (cs:=z.cells.toList.map ofC) (by simp) hp.1 (fun j c y h1 h2=>by
              have h2':z.cells.toList[j]?=some y:=by simpa using h2
              rw [List.getElem?_map,h2'] at h1
              simp at h1
              subst h1
              have ho1:(ofC y).one=true:=List.all_eq_true.1 hall _ (List.mem_map.2 ⟨y,List.mem_of_getElem? h2',rfl⟩)
              exact⟨ho1,((ofC_rel w ρ (owned m ρ) y).one ho1).1,ofC_rel _ _ _ y⟩)
            refine⟨_,_,_,?_,s1,.inl ⟨_,rfl,s2⟩,by simp [isPure,ho],fun _=>(Below.refl _ _).alloc (Nat.le_refl _) _⟩
            simp only [execOp,ho]
            simp [Instr.alloc,newVar,newRow,zeroValue,typeInfo,hi,hzz,go_sem]
          · cases hz
    · cases h
  · cases h
end
end Go.Proofs.YtomkbpoicjabfaaGreatDoor
namespace Go.Proofs.YtomkbpoicjabfaaGreatDoor
open Go.RowKit
section
variable {P:Program} {w:World} {ρ:List Re} {m:Mem} {a:Act} {t:List (Nat×V)} {o:Oper} {v:V} {m':Mem} {p:Prop}

theorem sound_bin(hM:RelM w ρ m)(hT:RelT w ρ m t a){op:BinOp}{T T':TypeId}{x y:Operand}(ho:o.op= .binOp op T x y T')(h:evOp P t m (.binOp op T x y T')=some (p,v,m'))(hp:p):OpOk P w ρ m a o v m':=by
  simp only [evOp] at h
  split at h
  · rename_i q u hb
    simp only [Option.some.injEq,Prod.mk.injEq] at h
    obtain⟨rfl,rfl,rfl⟩:=h
    obtain⟨z,hr,hv⟩:=evBin_sound (P:=P) (T:=T) (o1:=x) (o2:=y) hb hp (evO_rel hT x) (evO_rel hT y)
    refine opok_pure hM (x:=z) ?_ hv
    simp only [execOp,ho]
    exact run_v hr
  · cases h

theorem sound_un(hM:RelM w ρ m)(hT:RelT w ρ m t a){op:UnOp}{T:TypeId}{x:Operand}(ho:o.op= .unOp op T x)(h:evOp P t m (.unOp op T x)=some (p,v,m')):OpOk P w ρ m a o v m':=by
  simp only [evOp,okO] at h
  split at h
  · rename_i u hu
    simp only [Option.some.injEq,Prod.mk.injEq] at h
    obtain⟨_,rfl,rfl⟩:=h
    obtain⟨z,hr,hv⟩:=evUn_sound (P:=P) hu (evO_rel hT x)
    refine opok_pure hM (x:=z) ?_ hv
    simp only [execOp,ho]
    exact run_v hr
  · cases h

theorem sound_extract (hM:RelM w ρ m) (hT:RelT w ρ m t a) {x:Operand} {i:Nat} (ho:o.op= .extract x i) (h:evOp P t m (.extract x i)=some (p,v,m')):OpOk P w ρ m a o v m':=by
  have hx:=evO_rel hT x
  simp only [evOp] at h
  generalize he:a.eval x=ex at hx
  split at h
  · rename_i vs hv
    rw [hv] at hx
    cases hx with
    | tup _ xs hl hh=>
      simp only [okO] at h
      split at h
      · rename_i u hu
        simp only [Option.some.injEq,Prod.mk.injEq] at h
        obtain⟨_,rfl,rfl⟩:=h
        have hlt:i<xs.size:=by rw [←hl];exact(List.getElem?_eq_some_iff.1 hu).1
        have hx':xs[i]?=some xs[i]:=Array.getElem?_eq_getElem hlt
        refine opok_pure hM (x:=xs[i]) ?_ (hh i _ _ hu hx')
        simp only [execOp,ho,he]
        exact run_v (by simp [Instr.extract,hlt])
      · cases h
  · cases h

theorem fdT_spec {T:TypeId} {j off ft:Nat} (h:fdT P T j=some (off,ft)):∃ fs f,P.underlying T=some (.struct fs)∧fs[j]?=some f∧f.offset=off∧f.type=ft∧0<szT P ft:=by
  unfold fdT at h
  split at h
  · rename_i fs hu
    cases hf:fs[j]? with
    |none=>rw [hf] at h;cases h
    | some f=>
      rw [hf] at h
      simp only [Option.bind_some] at h
      split at h
      · cases h
      · rename_i hn
        simp only [Option.some.injEq,Prod.mk.injEq] at h
        obtain⟨rfl,rfl⟩:=h
        exact⟨fs,f,hu,hf,rfl,rfl,by unfold szT;omega⟩
  · cases h

theorem run_fieldAt{T:TypeId}{j off ft b q:Nat}(h:fdT P T j=some (off,ft)):(Instr.fieldAt T (.pointer (some ⟨b,q,none⟩)) j).run P w= .ok (.pointer (some ⟨b,q+off,none⟩)) w:=by
  obtain⟨fs,f,h1,h2,h3,h4,h5⟩:=fdT_spec h
  subst h3;subst h4
  have hne:¬ szT P f.type=0:=by omega
  simp only [Instr.fieldAt,Sem.run_bind,run_underlying h1,Result.andThen_ok,h2,Instr.sureAddr,Sem.run_pure,fieldPlace,run_sizeOf h5,if_neg hne,addr_add]

theorem sound_fieldAddr(hM:RelM w ρ m)(hT:RelT w ρ m t a){T:TypeId}{x:Operand}{j:Nat}(ho:o.op= .fieldAddr T x j)(h:evOp P t m (.fieldAddr T x j)=some (p,v,m')):OpOk P w ρ m a o v m':=by
  have hx:=evO_rel hT x
  simp only [evOp] at h
  generalize he:a.eval x=ex at hx
  split at h
  · rename_i off ft cs q hfd hv
    rw [hv] at hx
    cases hx with
    | bp _ _ b off' Y h1 h2 h3 h4 h5=>
      simp only [okR,Option.some.injEq,Prod.mk.injEq] at h
      obtain⟨_,rfl,rfl⟩:=h
      refine opok_pure hM (x:= .pointer (some ⟨b,off'+(q+off),none⟩)) ?_ (.bp _ _ b off' Y h1 h2 h3 h4 h5)
      simp only [execOp,ho,he]
      rw [←Nat.add_assoc]
      exact run_v (run_fieldAt hfd)
  · rename_i off ft b i q hfd hv
    rw [hv] at hx
    cases hx with
    | ptr _ _ _ r hr=>
      simp only [okR,Option.some.injEq,Prod.mk.injEq] at h
      obtain⟨_,rfl,rfl⟩:=h
      refine opok_pure hM (x:= .pointer (some ⟨r.blk,i * r.sz+(q+off),none⟩)) ?_ (.ptr _ _ _ r hr)
      simp only [execOp,ho,he]
      rw [←Nat.add_assoc]
      exact run_v (run_fieldAt hfd)
  · cases h

theorem sound_field (hM:RelM w ρ m) (hT:RelT w ρ m t a) {T:TypeId} {x:Operand} {j:Nat} (ho:o.op= .field T x j) (h:evOp P t m (.field T x j)=some (p,v,m')):OpOk P w ρ m a o v m':=by
  have hx:=evO_rel hT x
  simp only [evOp] at h
  generalize he:a.eval x=ex at hx
  split at h
  · rename_i off ft cs hfd hv
    rw [hv] at hx
    cases hx with
    | agg _ xs hl hh=>
      simp only [okO] at h
      split at h
      · rename_i u hu
        simp only [Option.some.injEq,Prod.mk.injEq] at h
        obtain⟨_,rfl,rfl⟩:=h
        obtain⟨fs,f,h1,h2,h3,h4,h5⟩:=fdT_spec hfd
        subst h3;subst h4
        obtain⟨y,hr,hv'⟩:=partV_part (P:=P) hl hh hu
        refine opok_pure hM (x:=y) ?_ hv'
        simp only [execOp,ho,he]
        exact run_v (by simp only [Instr.field,Sem.run_bind,run_underlying h1,Result.andThen_ok,h2,asAgg,Sem.run_pure,hr])
      · cases h
  · cases h

theorem slT_spec{T E:TypeId}(h:slT P T=some E):P.underlying T=some (.slice E):=by
  unfold slT at h
  split at h
  · rename_i e hu;cases h;exact hu
  · cases h
theorem arT_spec{T E:TypeId}{n:Nat}(h:arT P T=some (n,E)):P.underlying T=some (.array n E):=by
  unfold arT at h
  split at h
  · rename_i k e hu;cases h;exact hu
  · cases h

theorem run_indexAt_sl{T E:TypeId}{k:IntKind}{n:Int}{b off len c:Nat}(hE:slT P T=some E)(hp:0<szT P E)(h0:0≤n)(h1:n<(len:Int)):
    (Instr.indexAt T (.slice (some ⟨b,off,none⟩) len c) (.int k n)).run P w= .ok (.pointer (some ⟨b,off+n.toNat * szT P E,none⟩)) w:=by
  simp only [Instr.indexAt,asIntOf,Sem.run_bind,Sem.run_pure,Result.andThen_ok,run_underlying (slT_spec hE),if_pos (And.intro h0 h1),run_sizeOf hp,addr_add]
theorem run_indexAt_ar{T E:TypeId}{k:IntKind}{n:Int}{b off len:Nat}(hE:arT P T=some (len,E))(hp:0<szT P E)(h0:0≤n)(h1:n<(len:Int)):
    (Instr.indexAt T (.pointer (some ⟨b,off,none⟩)) (.int k n)).run P w= .ok (.pointer (some ⟨b,off+n.toNat * szT P E,none⟩)) w:=by
  simp only [Instr.indexAt,asIntOf,Sem.run_bind,Sem.run_pure,Result.andThen_ok,run_underlying (arT_spec hE),Instr.sureAddr,if_pos (And.intro h0 h1),run_sizeOf hp,addr_add]

theorem sound_indexAddr (hM:RelM w ρ m) (hT:RelT w ρ m t a) {T:TypeId} {x ix:Operand} (ho:o.op= .indexAddr T x ix) (h:evOp P t m (.indexAddr T x ix)=some (p,v,m')) (hp:p):OpOk P w ρ m a o v m':=by
  have hx:=evO_rel hT x
  have hix:=evO_rel hT ix
  simp only [evOp] at h
  generalize he:a.eval x=ex at hx
  generalize hei:a.eval ix=ei at hix
  split at h
  · rename_i k n hvi
    rw [hvi] at hix
    cases hix
    split at h
    · rename_i E es hE hv
      rw [hv] at hx
      cases hx with
      | lst _ b off c s Y h1 h2 h3 h4 h5 h6 h7 h8=>
        split at h
        · rename_i e hes
          split at h
          · rename_i hsz
            simp only [Option.some.injEq,Prod.mk.injEq] at h
            obtain⟨rfl,rfl,rfl⟩:=h
            have hlt:n.toNat<es.length:=(List.getElem?_eq_some_iff.1 hes).1
            have hs:s=szT P E:=(h5 e (List.mem_of_getElem? hes)).symm.trans hsz.1
            have hrv:=RelV.bp (w:=w) (ρ:=ρ) (B:=bad m ρ) e 0 b (off+n.toNat * s) (fun j=>Y n.toNat j) h1 h2 (fun j u hu=>h6 n.toNat j e u hes hu) (fun j u hu=>h7 n.toNat j e u hes hu) (fun j u hu=>h8 n.toNat j e u hes hu)
            refine opok_pure hM (x:= .pointer (some ⟨b,off+n.toNat * s+0,none⟩)) ?_ hrv
            simp only [execOp,ho,he,hei,Nat.add_zero]
            rw [hs]
            exact run_v (run_indexAt_sl hE hsz.2 hp (by omega))
          · cases h
        · cases h
      |lnil=>simp at h
    · rename_i E b k' hE hv
      rw [hv] at hx
      cases hx with
      | sl _ _ r hr hn hm=>
        split at h
        · rename_i wr ty sz es hb
          split at h
          · rename_i hsz
            simp only [Option.some.injEq,Prod.mk.injEq] at h
            obtain⟨rfl,rfl,rfl⟩:=h
            obtain⟨r0,cur,k1,k2,_⟩:=hM.cells b wr ty sz es hb
            rw [hr] at k1
            cases k1
            have hrv:=RelV.ptr (w:=w) (ρ:=ρ) (B:=bad m ρ) b n.toNat 0 r hr
            refine opok_pure hM (x:= .pointer (some ⟨r.blk,n.toNat * r.sz+0,none⟩)) ?_ hrv
            simp only [execOp,ho,he,hei,Nat.add_zero]
            rw [k2,hsz.1]
            have:=run_indexAt_sl (P:=P) (w:=w) (k:=k) (b:=r.blk) (off:=0) (c:=r.cap) hE hsz.2 hp.1 hp.2
            rw [Nat.zero_add] at this
            exact run_v this
          · cases h
        · cases h
    · rename_i cs q hv
      rw [hv] at hx
      cases hx with
      | bp _ _ b off Y h1 h2 h3 h4 h5=>
        split at h
        · rename_i k' E hE
          split at h
          · rename_i hsz
            simp only [Option.some.injEq,Prod.mk.injEq] at h
            obtain⟨rfl,rfl,rfl⟩:=h
            refine opok_pure hM (x:= .pointer (some ⟨b,off+(q+n.toNat * szT P E),none⟩)) ?_ (.bp _ _ b off Y h1 h2 h3 h4 h5)
            simp only [execOp,ho,he,hei]
            rw [←Nat.add_assoc]
            exact run_v (run_indexAt_ar hE hsz hp.1 hp.2)
          · cases h
        · cases h
    · rename_i b i q hv
      rw [hv] at hx
      cases hx with
      | ptr _ _ _ r hr=>
        split at h
        · rename_i k' E hE
          split at h
          · rename_i hsz
            simp only [Option.some.injEq,Prod.mk.injEq] at h
            obtain⟨rfl,rfl,rfl⟩:=h
            refine opok_pure hM (x:= .pointer (some ⟨r.blk,i * r.sz+(q+n.toNat * szT P E),none⟩)) ?_ (.ptr _ _ _ r hr)
            simp only [execOp,ho,he,hei]
            rw [←Nat.add_assoc]
            exact run_v (run_indexAt_ar hE hsz hp.1 hp.2)
          · cases h
        · cases h
    · cases h
  · cases h

theorem sound_index (hM:RelM w ρ m) (hT:RelT w ρ m t a) {T:TypeId} {x ix:Operand} (ho:o.op= .index T x ix) (h:evOp P t m (.index T x ix)=some (p,v,m')) (hp:p):OpOk P w ρ m a o v m':=by
  have hx:=evO_rel hT x
  have hix:=evO_rel hT ix
  simp only [evOp] at h
  generalize he:a.eval x=ex at hx
  generalize hei:a.eval ix=ei at hix
  split at h
  · rename_i k n k' E cs hvi hE hv
    rw [hvi] at hix
    cases hix
    rw [hv] at hx
    cases hx with
    | agg _ xs hl hh=>
      split at h
      · rename_i u hu
        split at h
        · rename_i hsz
          simp only [Option.some.injEq,Prod.mk.injEq] at h
          obtain⟨rfl,rfl,rfl⟩:=h
          obtain⟨y,hr,hv'⟩:=partV_part (P:=P) hl hh hu
          refine opok_pure hM (x:=y) ?_ hv'
          simp only [execOp,ho,he,hei]
          exact run_v (by simp only [Instr.index,asIntOf,Sem.run_bind,Sem.run_pure,Result.andThen_ok,run_underlying (arT_spec hE),if_pos hp,run_sizeOf hsz,hr])
        · cases h
      · cases h
  · cases h

theorem sound_nilCheck(hM:RelM w ρ m)(hT:RelT w ρ m t a){x:Operand}(ho:o.op= .nilCheck x)(h:evOp P t m (.nilCheck x)=some (p,v,m')):OpOk P w ρ m a o v m':=by
  have hx:=evO_rel hT x
  simp only [evOp] at h
  generalize he:a.eval x=ex at hx
  split at h
  · rename_i b i q hv
    cases h
    rw [hv] at hx
    refine opok_pure hM (x:=ex) ?_ hx
    cases hx
    simp only [execOp,ho,he,Sem.run_pure]
  · rename_i cs q hv
    cases h
    rw [hv] at hx
    refine opok_pure hM (x:=ex) ?_ hx
    cases hx
    simp only [execOp,ho,he,Sem.run_pure]
  · cases h
theorem sound_makeFunc(hM:RelM w ρ m)(hT:RelT w ρ m t a){fn:Fn}{f c:Array Operand}(ho:o.op= .makeFunc fn f c):OpOk P w ρ m a o (.clo fn (f.toList.map (evO t)) (c.toList.map (evO t))) m:=by
  refine opok_pure hM (x:= .func fn (f.map a.eval) (c.map a.eval)) ?_ (.clo _ _ _ _ _ (by simp) (by simp) ?_ ?_)
  · simp only [execOp,ho]
    exact run_v (by simp [Instr.makeFunc])
  · intro i u y h1 h2
    simp only [List.getElem?_map,Option.map_eq_some_iff] at h1
    simp only [Array.getElem?_map,Option.map_eq_some_iff] at h2
    obtain⟨o1,g1,rfl⟩:=h1
    obtain⟨o2,g2,rfl⟩:=h2
    rw [Array.getElem?_toList,g2] at g1
    cases g1
    exact evO_rel hT _
  · intro i u y h1 h2
    simp only [List.getElem?_map,Option.map_eq_some_iff] at h1
    simp only [Array.getElem?_map,Option.map_eq_some_iff] at h2
    obtain⟨o1,g1,rfl⟩:=h1
    obtain⟨o2,g2,rfl⟩:=h2
    rw [Array.getElem?_toList,g2] at g1
    cases g1
    exact evO_rel hT _
end
end Go.Proofs.YtomkbpoicjabfaaGreatDoor
namespace Go.Proofs.YtomkbpoicjabfaaGreatDoor
open Go.RowKit

theorem RelM.fresh{w:World}{ρ:List Re}{m:Mem}(h:RelM w ρ m)(c:Nat)(blk:Blk)(r:Re)(h1:m[c]?=some blk)(h2:blk≠ .dead)(h3:ρ[c]?=some r):r.blk≠w.heap.size:=by
  cases blk with
  | cells wr0 ty0 sz0 es0=>
    obtain⟨r',cur',g1,_,_,g4,_⟩:=h.cells c wr0 ty0 sz0 es0 h1
    rw [h3] at g1
    cases g1
    have:=heap_lt g4
    omega
  | obj st0 vs0 φ0=>
    obtain⟨r',g1,g2⟩:=h.objs c st0 vs0 φ0 h1
    rw [h3] at g1
    cases g1
    have:=g2.lt
    omega
  |dead=>exact(h2 rfl).elim

/-- the call's memory when one block has been given up or not, and a new one has come, which may lie where the old one lay -/
theorem RelM.move {w w':World} {ρ:List Re} {m m1:Mem} (h:RelM w ρ m) (hl:m1.length=m.length) (hm1:∀ (c:Nat) (blk:Blk),m1[c]?=some blk→blk≠ .dead→m[c]?=some blk)
    (g:Nat) (hs:w.heap.size≤w'.heap.size) (hk:∀ k,k<w.heap.size→k≠g→(¬ owned m ρ k∨∃ (c:Nat) (blk:Blk) (r:Re),m1[c]?=some blk∧blk≠ .dead∧ρ[c]?=some r∧r.blk=k)→w'.heap[k]?=w.heap[k]?) (hos:w'.os=w.os) (htp:w'.tape=w.tape) (hou:w'.output=w.output)
    (cap ty sz:Nat) (es:List (List V)) (cur:Array Value) (hg3:∀ (c:Nat) (blk:Blk) (r:Re),m1[c]?=some blk→blk≠ .dead→ρ[c]?=some r→r.blk≠g) (hg2:owned m ρ g∨w.heap.size≤g) (hsz:0<sz) (hh:w'.heap[g]?=some (.cells cur ty (0,0))) (hc:cur.size=cap * sz)
    (he:es.length≤cap) (hcm:cap≤maxLen) (hes:∀ e∈es,e.length=sz)
    (hv:∀ (i j:Nat) e v,es[i]?=some e→e[j]?=some v→v.one=true∧∃ y,cur[i * sz+j]?=some y∧RelV w ρ (bad m ρ) v y):
    After w ρ m w' (ρ++[⟨g,cap,sz⟩]) (m1++[.cells .own ty sz es])∧
    RelV w' (ρ++[⟨g,cap,sz⟩]) (bad (m1++[.cells .own ty sz es]) (ρ++[⟨g,cap,sz⟩])) (.sl m.length es.length) (.slice (some ⟨g,0,none⟩) es.length cap):=by
  have hlen1:ρ.length=m1.length:=h.len.trans hl.symm
  have hoN:∀ k,k<w.heap.size→owned (m1++[.cells .own ty sz es]) (ρ++[⟨g,cap,sz⟩]) k→owned m ρ k:=by
    intro k hk' ho
    rcases owned_snoc hlen1 ho with ⟨c,blk,r,a1,a2,a3,a4⟩|h1
    · exact⟨c,blk,r,hm1 c blk a1 (Blk.live_of_bad (Blk.bad_of_own a2)),a2,a3,a4⟩
    · simp at h1
      subst h1
      rcases hg2 with h2|h2
      · exact h2
      · omega
  have hoB:∀ k,k<w.heap.size→bad (m1++[.cells .own ty sz es]) (ρ++[⟨g,cap,sz⟩]) k→bad m ρ k:=by
    intro k hk' ho
    rcases owned_snoc hlen1 ho with ⟨c,blk,r,a1,a2,a3,a4⟩|h1
    · exact⟨c,blk,r,hm1 c blk a1 (Blk.live_of_bad a2),a2,a3,a4⟩
    · simp at h1
      subst h1
      rcases hg2 with h2|h2
      · exact bad_of_owned h2
      · omega
  have hkb:∀ k,k<w.heap.size→¬ owned m ρ k→w'.heap[k]?=w.heap[k]?:=fun k hk' hn=>hk k hk' (fun e=>by
    subst e
    rcases hg2 with h2|h2
    · exact hn h2
    · omega) (.inl hn)
  have hOld:∀ {v:V} {x:Value},RelV w ρ (bad m ρ) v x→RelV w' (ρ++[⟨g,cap,sz⟩]) (bad (m1++[.cells .own ty sz es]) (ρ++[⟨g,cap,sz⟩])) v x:=fun hr=>
    hr.mono hs (fun k hk' hn=>hkb k hk' (fun ho=>hn (bad_of_owned ho))) hoB (fun b r hr=>prefix_get hr)
  have hglast:(ρ++[(⟨g,cap,sz⟩:Re)])[m.length]?=some ⟨g,cap,sz⟩:=by rw [←h.len];simp
  refine⟨⟨⟨hos,htp,hou,hs,hkb⟩,fun b r hr=>prefix_get hr,⟨by simp [hlen1],?_,?_,?_,h.glob.mono fun v x h3=>hOld h3⟩,hoN,hoB⟩,.sl m.length es.length ⟨g,cap,sz⟩ hglast he hcm⟩
  · intro b st' ty' sz' es' hm
    rcases Nat.lt_or_ge b m1.length with hlt|hge
    · rw [List.getElem?_append_left hlt] at hm
      obtain⟨r,cur',g1,g2,g3,g4,g5,g6,g7,g8,g9⟩:=h.cells b st' ty' sz' es' (hm1 b _ hm (by simp))
      refine⟨r,cur',prefix_get g1,g2,g3,(hk r.blk (heap_lt g4) (hg3 b _ r hm (by simp) g1) (.inr ⟨b,_,r,hm,by simp,g1,rfl⟩)).trans g4,g5,g6,g7,g8,fun i j e v a1 a2=>?_⟩
      obtain⟨b1,y,b2,b3⟩:=g9 i j e v a1 a2
      exact⟨b1,y,b2,hOld b3⟩
    · rw [List.getElem?_append_right hge] at hm
      rcases hbm:b - m1.length with _|q
      · rw [hbm] at hm
        simp at hm
        obtain⟨rfl,rfl,rfl,rfl⟩:=hm
        have hb:b=m.length:=by omega
        subst hb
        refine⟨⟨g,cap,sz⟩,cur,hglast,rfl,hsz,hh,hc,he,hcm,hes,fun i j e v a1 a2=>?_⟩
        obtain⟨b1,y,b2,b3⟩:=hv i j e v a1 a2
        exact⟨b1,y,b2,hOld b3⟩
      · rw [hbm] at hm
        simp at hm
  · intro b b' blk blk' r r' h1 h2 h3 h4 h5 h6 h7
    have key:∀ (c:Nat) (blk:Blk) (r:Re),(m1++[Blk.cells .own ty sz es])[c]?=some blk→blk≠Blk.dead→(ρ++[⟨g,cap,sz⟩])[c]?=some r→(c<m.length∧m[c]?=some blk∧ρ[c]?=some r∧m1[c]?=some blk)∨(c=m.length∧r.blk=g):=by
      intro c blk r k1 k2 k3
      rcases Nat.lt_or_ge c m1.length with hlt'|hge
      · rw [List.getElem?_append_left hlt'] at k1
        rw [List.getElem?_append_left (by rw [hlen1];exact hlt')] at k3
        exact .inl ⟨by omega,hm1 c blk k1 k2,k3,k1⟩
      · rw [List.getElem?_append_right hge] at k1
        rw [List.getElem?_append_right (by rw [hlen1];exact hge),hlen1] at k3
        rcases hbm:c - m1.length with _|q
        · rw [hbm] at k3
          simp at k3
          subst k3
          exact .inr ⟨by omega,rfl⟩
        · rw [hbm] at k1
          simp at k1
    have hd4:blk'≠Blk.dead:=Blk.live_of_bad h4
    rcases key b blk r h1 h2 h5 with ⟨a1,a2,a3,a4⟩|⟨a1,a2⟩<;>rcases key b' blk' r' h3 hd4 h6 with ⟨c1,c2,c3,c4⟩|⟨c1,c2⟩
    · exact h.inj b b' blk blk' r r' a2 h2 c2 h4 a3 c3 h7
    · exact(hg3 b blk r a4 h2 a3 (h7.trans c2)).elim
    · exact(hg3 b' blk' r' c4 hd4 c3 (h7.symm.trans a2)).elim
    · omega
  · intro b st' vs' φ' hm
    rcases Nat.lt_or_ge b m1.length with hlt|hge
    · rw [List.getElem?_append_left hlt] at hm
      obtain⟨r,g1,g2⟩:=h.objs b st' vs' φ' (hm1 b _ hm (by simp))
      exact⟨r,prefix_get g1,g2.mono (fun hl'=>hk r.blk hl' (hg3 b _ r hm (by simp) g1) (.inr ⟨b,_,r,hm,by simp,g1,rfl⟩)) fun v x b3=>hOld b3⟩
    · rw [List.getElem?_append_right hge] at hm
      rcases hbm:b - m1.length with _|q<;>rw [hbm] at hm<;>simp at hm

/-- what a slice value's elements read as, in the world -/
theorem els_read {w:World} {ρ:List Re} {m:Mem} (hM:RelM w ρ m) {v:V} {x:Value} {es:List (List V)} (hx:RelV w ρ (bad m ρ) v x) (h:elsV m v=some es):
    ∃ A c,x= .slice A es.length c∧((A=none∧es=[]∧c=0)∨∃ (b off s:Nat) (Y:Nat→Nat→Value),(es=[]∨A=some ⟨b,off,none⟩)∧A≠none∧es.length≤c∧c≤maxLen∧(∀ e∈es,e.length=s)∧
      (∀ (i j:Nat) e u,es[i]?=some e→e[j]?=some u→w.cell? ⟨b,off+i * s+j,none⟩=some (Y i j)∧RelV w ρ (bad m ρ) u (Y i j)∧u.one=true∧(Y i j).oneCell'=true)):=by
  cases hx with
  | nilsl=>
    simp only [elsV,Option.some.injEq] at h
    subst h
    exact⟨none,0,rfl,.inl ⟨rfl,rfl,rfl⟩⟩
  | lnil a c hc ha=>
    simp only [elsV,Option.some.injEq] at h
    subst h
    cases a with
    |none=>exact⟨none,c,rfl,.inl ⟨rfl,rfl,ha rfl⟩⟩
    |some a=>exact⟨some a,c,rfl,.inr ⟨0,0,0,fun _ _=>undef,.inl rfl,by simp,Nat.zero_le _,hc,by simp,fun i j e u h=>by simp at h⟩⟩
  | lst es' b off c s Y h1 h2 h3 h4 h5 h6 h7 h8=>
    simp only [elsV,Option.some.injEq] at h
    subst h
    exact⟨_,c,rfl,.inr ⟨b,off,s,Y,.inr rfl,by simp,h3,h4,h5,fun i j e u a1 a2=>⟨h6 i j e u a1 a2,h7 i j e u a1 a2,h8 i j e u a1 a2,((h7 i j e u a1 a2).one (h8 i j e u a1 a2)).1⟩⟩⟩
  | sl b n r hr hn hm=>
    simp only [elsV] at h
    split at h
    · rename_i wr ty sz es' hb
      split at h
      · rename_i hle
        simp only [Option.some.injEq] at h
        subst h
        obtain⟨r0,cur,k1,k2,k3,k4,k5,k6,k7,k8,k9⟩:=hM.cells b wr ty sz es' hb
        rw [hr] at k1
        cases k1
        have hl:(es'.take n).length=n:=by simp;omega
        refine⟨some ⟨r.blk,0,none⟩,r.cap,by rw [hl],.inr ⟨r.blk,0,sz,fun i j=>(cur[i * sz+j]?).getD undef,.inr rfl,by simp,by omega,hm,fun e he=>k8 e (List.mem_of_mem_take he),fun i j e u a1 a2=>?_⟩⟩
        have hi:i<n:=by
          rcases Nat.lt_or_ge i n with q|q
          · exact q
          · simp [List.getElem?_take] at a1;omega
        rw [List.getElem?_take_of_lt hi] at a1
        obtain⟨b1,y,b2,b3⟩:=k9 i j e u a1 a2
        have hy:((cur[i * sz+j]?).getD undef)=y:=by rw [b2];rfl
        simp only [hy]
        refine⟨?_,b3,b1,(b3.one b1).1⟩
        simp [World.cell?,k4,b2]
      · cases h
    · cases h
  |_=>simp [elsV] at h

/-- the cells of elements, one behind the other -/
def flatY(n s:Nat)(Y:Nat→Nat→Value):List Value:=(List.range (n * s)).map fun q=>Y (q / s) (q % s)
theorem flatY_length(n s:Nat)(Y:Nat→Nat→Value):(flatY n s Y).length=n * s:=by simp [flatY]
theorem flatY_get{n s:Nat}{Y:Nat→Nat→Value}{i j:Nat}(hi:i<n)(hj:j<s):(flatY n s Y)[i * s+j]?=some (Y i j):=by
  have hlt:i * s+j<n * s:=by
    have:(i+1) * s≤n * s:=Nat.mul_le_mul_right _ hi
    rw [Nat.succ_mul] at this;omega
  unfold flatY
  rw [List.getElem?_map,List.getElem?_range hlt]
  have h1:(i * s+j) / s=i:=by rw [Nat.mul_comm,Nat.mul_add_div (by omega)];simp [Nat.div_eq_of_lt hj]
  have h2:(i * s+j) % s=j:=by rw [Nat.mul_comm,Nat.mul_add_mod];exact Nat.mod_eq_of_lt hj
  simp [h1,h2]
theorem flatY_cells{w:World}{b off n s:Nat}{Y:Nat→Nat→Value}{es:List (List V)}(hn:es.length=n)(hs:∀ e∈es,e.length=s)
    (h:∀ (i j:Nat) e u,es[i]?=some e→e[j]?=some u→w.cell? ⟨b,off+i * s+j,none⟩=some (Y i j)∧(Y i j).oneCell'=true):
    (∀ q u,(flatY n s Y)[q]?=some u→w.cell? ((⟨b,off,none⟩:Addr).add q)=some u)∧(∀ u∈flatY n s Y,u.oneCell'=true):=by
  have key:∀ q,q<n * s→w.cell? ⟨b,off+(q / s) * s+q % s,none⟩=some (Y (q / s) (q % s))∧(Y (q / s) (q % s)).oneCell'=true:=by
    intro q hq
    have hs0:0<s:=by
      rcases Nat.eq_zero_or_pos s with h|h
      · subst h;simp at hq
      · exact h
    have h1:q / s<es.length:=by rw [hn];exact Nat.div_lt_of_lt_mul (by rw [Nat.mul_comm];exact hq)
    have h2:q % s<s:=Nat.mod_lt _ hs0
    have he:(es[q / s]).length=s:=hs _ (List.getElem_mem h1)
    exact h (q / s) (q % s) _ _ (List.getElem?_eq_getElem h1) (List.getElem?_eq_getElem (by rw [he];exact h2))
  constructor
  · intro q u hu
    unfold flatY at hu
    rw [List.getElem?_map] at hu
    rcases Nat.lt_or_ge q (n * s) with hq|hq
    · rw [List.getElem?_range hq] at hu
      simp at hu
      subst hu
      have:=(key q hq).1
      rw [addr_add,←this]
      congr 2
      have:=Nat.div_add_mod q s
      rw [Nat.mul_comm] at this
      omega
    · rw [List.getElem?_eq_none (by simpa using hq)] at hu;cases hu
  · intro u hu
    unfold flatY at hu
    obtain⟨q,hq,rfl⟩:=List.mem_map.1 hu
    exact(key q (List.mem_range.1 hq)).2

/-- append -/
def evAppend (P:Program) (t:List (Nat×V)) (m:Mem) (T:TypeId) (s x:Operand):Res:=
  match slT P T,elsV m (evO t x) with
  | some E,some news=>
    if smT P E=true∧news.all (fun e=>e.length==szT P E)=true then
      match evO t s with
      | .nilsl=>if news.length=0 then okR m .nilsl else some (news.length≤1000000,.sl m.length news.length,m++[.cells .own E (szT P E) news])
      | .sl b n=>match m[b]? with
        |some (.cells .own ty sz es)=>if ty=E∧sz=szT P E∧n≤es.length then some (n+news.length≤1000000,.sl m.length (n+news.length),m.set b .dead++[.cells .own E sz (es.take n++news)]) else none
        |_=>none
      |_=>none
    else none
  |_,_=>none

theorem smT_spec{P:Program}{E:TypeId}(h:smT P E=true):∃ i z,P.info? E=some i∧i.zero=some z∧i.size=szT P E∧z.cells.size=i.size∧0<szT P E∧i.bytes≤100000000∧(∀ c∈z.cells,c.oneCell'=true):=by
  unfold smT at h
  cases hi:P.info? E with
  |none=>rw [hi] at h;cases h
  | some i=>
    rw [hi] at h
    simp only at h
    cases hz:i.zero with
    |none=>rw [hz] at h;cases h
    | some z=>
      rw [hz] at h
      simp only [Bool.and_eq_true,decide_eq_true_eq,beq_iff_eq,Array.all_eq_true'] at h
      obtain⟨⟨⟨h1,h2⟩,h3⟩,h4⟩:=h
      have hs:i.size=szT P E:=by unfold szT Program.cellsOf;rw [hi];rfl
      exact⟨i,z,rfl,hz,hs,h3,by omega,h1,h4⟩

/-- an append to an own slice changes no block that there was, but that slice's -/
def AppFr(w:World)(ρ:List Re)(m:Mem)(w':World)(ρ':List Re)(u:V):Prop:=∀ b n,u= .sl b n→∃ r,ρ[b]?=some r∧(∀ r',ρ'[m.length]?=some r'→r'.blk=r.blk∨w.heap.size≤r'.blk)∧∀ k,k<w.heap.size→k≠r.blk→w'.heap[k]?=w.heap[k]?
/-- .. to a nil slice none -/
def AppFn(w:World)(m:Mem)(w':World)(ρ':List Re)(u:V):Prop:=u= .nilsl→(∀ r',ρ'[m.length]?=some r'→w.heap.size≤r'.blk)∧∀ k,k<w.heap.size→w'.heap[k]?=w.heap[k]?
theorem append_sound {P:Program} {w:World} {ρ:List Re} {m:Mem} {t:List (Nat×V)} {a:Act} (hM:RelM w ρ m) (hT:RelT w ρ m t a) {T ty:TypeId} {s x:Operand} {p:Prop} {v:V} {m':Mem}
    (h:evAppend P t m T s x=some (p,v,m')) (hp:p):
    ∃ y w' ρ',(Builtin.append_ #[T,T] ty #[a.eval s,a.eval x]).run P w= .ok y w'∧After w ρ m w' ρ' m'∧RelV w' ρ' (bad m' ρ') v y∧AppFr w ρ m w' ρ' (evO t s)∧AppFn w m w' ρ' (evO t s):=by
  unfold evAppend at h
  split at h
  · rename_i E news hE hnews
    split at h
    · rename_i hc
      obtain⟨hsm,hall⟩:=hc
      obtain⟨i,z,hi,hz,his,hzs,hs0,hby,hz1⟩:=smT_spec hsm
      have hTu:=slT_spec hE
      have hsx:=evO_rel hT s
      obtain⟨A,c,hxe,hA⟩:=els_read hM (evO_rel hT x) hnews
      have hlenE:∀ e∈news,e.length=szT P E:=fun e he=>by
        have:=List.all_eq_true.1 hall e he
        simpa using this
      have hby':∀ k,k≤1000000→k * i.bytes≤140737488355328:=fun k hk=>by
        calc k * i.bytes≤1000000 * 100000000:=Nat.mul_le_mul hk hby
          _≤_:=by decide
      -- the row, as the kit tells it
      have hrow : ∀ (sv:Value) (n:Nat) (xs:List Value),w.ownsRow 0 E (szT P E) sv n xs→n+news.length≤1000000→(∃ g cap cur,sv= .slice (some ⟨g,0,none⟩) n cap∧w.heap[g]?=some (.cells cur E (0,0)))∨news.length≠0→
          ∃ y w' g cap cur,(Builtin.append_ #[T,T] ty #[sv,a.eval x]).run P w= .ok y w'∧w.grownBy w' sv.ownBlock∧y= .slice (some ⟨g,0,none⟩) (n+news.length) cap∧(some g=sv.ownBlock∨g=w.heap.size)∧
            w'.heap[g]?=some (.cells cur E (0,0))∧n+news.length≤cap∧cap≤maxLen∧cur.size=cap * szT P E∧(∃ ys:List Value,cur.toList.take ((n+news.length) * szT P E)=xs++ys∧
              (∀ (i j:Nat) e u,news[i]?=some e→e[j]?=some u→u.one=true∧∃ y0,ys[i * szT P E+j]?=some y0∧RelV w ρ (bad m ρ) u y0)):=by
        intro sv n xs hown hle hne
        rcases hA with ⟨rfl,rfl,rfl⟩|⟨b,off,s',Y,hab,hAn,hcl,hcm,hs',hYY⟩
        · rcases hne with ⟨g,cap,cur,rfl,hg⟩|hne
          · have hr:=run_append_owned_none (P:=P) w 0 T ty E i (szT P E) hTu hi _ n xs hown
            rcases hown.2 with ⟨h1,h2⟩|⟨g',cap',cur',e1,_,e3,e4,e5,e6,e7⟩
            · cases h1
            · injection e1 with e1 e1' e1''
              simp at e1
              subst e1;subst e1''
              rw [hxe]
              refine⟨_,w,g,cap,cur',hr,World.grownBy.refl w _,rfl,.inl rfl,e3,e4,e5,e6,[],by simpa using e7,fun i j e u a1=>by simp at a1⟩
          · simp at hne
        · by_cases hnil:news.length=0
          · have hn0:news=[]:=List.eq_nil_of_length_eq_zero hnil
            subst hn0
            obtain⟨ad,rfl⟩:=Option.ne_none_iff_exists'.1 hAn
            obtain⟨y,w',hr,ho,hg,_,hblk⟩:=run_append_own_at (P:=P) w 0 T ty E i z (szT P E) i.bytes hTu hi hz his rfl (by omega) hs0 sv n xs hown ad 0 c [] (by simp) (by simp) (by simp) (by unfold maxLen;omega) (by simpa using hby' n (by simpa using hle)) (Nat.zero_le _)
            rcases hne with ⟨g,cap,cur,rfl,hgg⟩|hne
            · rcases ho.2 with ⟨h1,h2⟩|⟨g',cap',cur',e1,_,e3,e4,e5,e6,e7⟩
              · exfalso
                subst h1
                rcases hblk with q|q<;>simp [Value.ownBlock] at q
              · subst e1
                rw [hxe]
                refine⟨_,w',g',cap',cur',hr,hg,rfl,?_,e3,e4,e5,e6,[],by simpa using e7,fun i j e u a1=>by simp at a1⟩
                rcases hblk with q|q
                · exact .inl q
                · exact .inr (by simpa [Value.ownBlock] using q)
            · exact(hne rfl).elim
          · obtain rfl:=hab.resolve_left (fun e=>hnil (by rw [e];rfl))
            have hss:s'=szT P E:=by
              cases news with
              |nil=>simp at hnil
              |cons e0 _=>exact(hs' e0 List.mem_cons_self).symm.trans (hlenE e0 List.mem_cons_self)
            subst hss
            obtain⟨f1,f2⟩:=flatY_cells (w:=w) (b:=b) (off:=off) (Y:=Y) (es:=news) rfl hs' (fun i j e u a1 a2=>⟨(hYY i j e u a1 a2).1,(hYY i j e u a1 a2).2.2.2⟩)
            obtain⟨y,w',hr,ho,hg,hiff,hblk⟩:=run_append_own_at (P:=P) w 0 T ty E i z (szT P E) i.bytes hTu hi hz his rfl (by omega) hs0 sv n xs hown ⟨b,off,none⟩ news.length c (flatY news.length (szT P E) Y) (flatY_length _ _ _) f1 f2 (by unfold maxLen;omega) (hby' _ hle) (Nat.zero_le _)
            rcases ho.2 with ⟨h1,h2⟩|⟨g',cap',cur',e1,_,e3,e4,e5,e6,e7⟩
            · exact absurd (hiff.1 h1).2 hnil
            · subst e1
              rw [hxe]
              refine⟨_,w',g',cap',cur',hr,hg,rfl,?_,e3,e4,e5,e6,_,e7,fun i j e u a1 a2=>?_⟩
              · rcases hblk with q|q
                · exact .inl q
                · exact .inr (by simpa [Value.ownBlock] using q)
              · have hi':i<news.length:=(List.getElem?_eq_some_iff.1 a1).1
                have hj':j<szT P E:=by
                  have:=(List.getElem?_eq_some_iff.1 a2).1
                  rw [hs' e (List.mem_of_getElem? a1)] at this;exact this
                exact⟨(hYY i j e u a1 a2).2.2.1,_,flatY_get hi' hj',(hYY i j e u a1 a2).2.1⟩
      generalize hes:a.eval s=sv at hsx
      split at h
      · rename_i hv
        rw [hv] at hsx
        cases hsx
        split at h
        · rename_i hn0
          simp only [okR,Option.some.injEq,Prod.mk.injEq] at h
          obtain⟨_,rfl,rfl⟩:=h
          have hnn:news=[]:=List.eq_nil_of_length_eq_zero hn0
          subst hnn
          have fin:∀ {y:Value} {w':World},(Builtin.append_ #[T,T] ty #[.slice none 0 0,a.eval x]).run P w= .ok y w'→y= .slice none 0 0→w.grownBy w' none→
              ∃ y w' ρ',(Builtin.append_ #[T,T] ty #[.slice none 0 0,a.eval x]).run P w= .ok y w'∧After w ρ m w' ρ' m∧RelV w' ρ' (bad m ρ') .nilsl y∧AppFr w ρ m w' ρ' (evO t s)∧AppFn w m w' ρ' (evO t s):=by
            intro y w' hr hy hg
            have hb:Below w.heap.size w w':=⟨hg.os,hg.tape,hg.output,hg.size,fun k hk=>hg.block k hk (by simp)⟩
            refine⟨y,w',ρ,hr,⟨Keep.of_below hb,fun _ _ h=>h,hM.mono hb,fun _ _ h=>h,fun _ _ h=>h⟩,?_⟩
            exact⟨by rw [hy];exact .nilsl,(fun b n e=>by rw [hv] at e;cases e),fun _=>⟨fun r' h=>(by rw [List.getElem?_eq_none (by rw [hM.len];exact Nat.le_refl _)] at h;cases h),fun k hk=>hg.block k hk (by simp)⟩⟩
          rcases hA with ⟨rfl,_,rfl⟩|⟨b,off,s',Y,hab,hAn,hcl,hcm,hs',hYY⟩
          · rw [hxe] at fin ⊢
            exact fin (run_append_owned_none (P:=P) w 0 T ty E i (szT P E) hTu hi _ 0 [] ⟨by simp,.inl ⟨rfl,rfl⟩⟩) rfl (World.grownBy.refl w _)
          · obtain⟨ad,rfl⟩:=Option.ne_none_iff_exists'.1 hAn
            obtain⟨y,w',hr,ho,hg,hiff,hblk⟩:=run_append_own_at (P:=P) w 0 T ty E i z (szT P E) i.bytes hTu hi hz his rfl (by omega) hs0 (.slice none 0 0) 0 [] ⟨by simp,.inl ⟨rfl,rfl⟩⟩ ad 0 c [] (by simp) (by simp) (by simp) (by unfold maxLen;omega) (by omega) (Nat.zero_le _)
            rw [hxe] at fin ⊢
            exact fin hr (hiff.2 ⟨rfl,rfl⟩) hg
        · rename_i hn0
          simp only [Option.some.injEq,Prod.mk.injEq] at h
          obtain⟨rfl,rfl,rfl⟩:=h
          obtain⟨y,w',g,cap,cur,hr,hg,rfl,hgo,q1,q2,q3,q4,ys,q5,q6⟩:=hrow (.slice none 0 0) 0 [] ⟨by simp,.inl ⟨rfl,rfl⟩⟩ (by omega) (.inr hn0)
          simp only [Nat.zero_add,List.nil_append] at hr q2 q5
          have hgs:g=w.heap.size:=by
            rcases hgo with q|q
            · simp [Value.ownBlock] at q
            · exact q
          subst hgs
          obtain⟨af,rv⟩:=hM.move (w':=w') (m1:=m) rfl (fun _ _ h _=>h) w.heap.size hg.size (fun k hk _ _=>hg.block k hk (by simp [Value.ownBlock])) hg.os hg.tape hg.output cap E (szT P E) news cur
            hM.fresh (.inr (Nat.le_refl _)) hs0 q1 q4 q2 q3 hlenE (fun i j e u a1 a2=>by
              obtain⟨b1,y0,b2,b3⟩:=q6 i j e u a1 a2
              refine⟨b1,y0,?_,b3⟩
              have hi':i<news.length:=(List.getElem?_eq_some_iff.1 a1).1
              have hj':j<szT P E:=by
                have:=(List.getElem?_eq_some_iff.1 a2).1
                rw [hlenE e (List.mem_of_getElem? a1)] at this;exact this
              have hlt:i * szT P E+j<news.length * szT P E:=by
                have:(i+1) * szT P E≤news.length * szT P E:=Nat.mul_le_mul_right _ hi'
                rw [Nat.succ_mul] at this;omega
              have:(cur.toList.take (news.length * szT P E))[i * szT P E+j]?=some y0:=by rw [q5];exact b2
              rw [List.getElem?_take_of_lt hlt] at this
              simpa using this)
          exact⟨_,w',_,hr,af,rv,(fun b n e=>by rw [hv] at e;cases e),fun _=>⟨fun r' h=>(by rw [List.getElem?_append_right (by rw [hM.len];exact Nat.le_refl _),hM.len,Nat.sub_self] at h;cases h;exact Nat.le_refl _),fun k hk=>hg.block k hk (by simp [Value.ownBlock])⟩⟩
      · rename_i b n hv
        rw [hv] at hsx
        cases hsx with
        | sl _ _ r hr0 hn hm=>
          split at h
          · rename_i ty' sz es hb
            split at h
            · rename_i hcc
              obtain⟨rfl,rfl,hnl⟩:=hcc
              simp only [Option.some.injEq,Prod.mk.injEq] at h
              obtain⟨rfl,rfl,rfl⟩:=h
              obtain⟨r0,cur0,k1,k2,k3,k4,k5,k6,k7,k8,k9⟩:=hM.cells b .own ty' (szT P ty') es hb
              rw [hr0] at k1
              cases k1
              have hown:w.ownsRow 0 ty' (szT P ty') (.slice (some ⟨r.blk,0,none⟩) n r.cap) n (cur0.toList.take (n * szT P ty')):=by
                refine⟨?_,.inr ⟨r.blk,r.cap,cur0,rfl,Nat.zero_le _,k4,hn,hm,k5,rfl⟩⟩
                have:n * szT P ty'≤r.cap * szT P ty':=Nat.mul_le_mul_right _ hn
                simp;omega
              obtain⟨y,w',g,cap,cur,hr,hg,rfl,hgo,q1,q2,q3,q4,ys,q5,q6⟩:=hrow _ n _ hown hp (.inl ⟨r.blk,r.cap,cur0,rfl,k4⟩)
              have hbl:b<m.length:=(List.getElem?_eq_some_iff.1 hb).1
              have hob:owned m ρ r.blk:=⟨b,_,r,hb,rfl,hr0,rfl⟩
              have hget:∀ (c:Nat) (blk:Blk),(m.set b .dead)[c]?=some blk→blk≠ .dead→m[c]?=some blk∧c≠b:=by
                intro c blk h1 h2
                rw [List.getElem?_set] at h1
                by_cases hne:b=c
                · rw [if_pos hne] at h1
                  rw [if_pos hbl] at h1
                  cases h1
                  exact(h2 rfl).elim
                · rw [if_neg hne] at h1;exact⟨h1,fun e=>hne e.symm⟩
              have hgc:g=r.blk∨g=w.heap.size:=by
                rcases hgo with q|q
                · exact .inl (by simpa [Value.ownBlock] using q)
                · exact .inr q
              have hlenEs:(es.take n++news).length=n+news.length:=by simp;omega
              obtain ⟨af,rv⟩:=hM.move (w':=w') (m1:=m.set b .dead) (by simp) (fun c blk h1 h2=>(hget c blk h1 h2).1) g hg.size (fun k hk hne hh=>hg.block k hk (fun e=>by
                  have hkr:k=r.blk:=by simpa [Value.ownBlock] using e
                  subst hkr
                  rcases hh with q|⟨c,blk,r',q1,q2,q3,q4⟩
                  · exact q hob
                  · obtain⟨h1',hcb⟩:=hget c blk q1 q2
                    exact hcb (hM.inj c b blk _ r' r h1' q2 hb rfl q3 hr0 q4))) hg.os hg.tape hg.output cap ty' (szT P ty') (es.take n++news) cur
                (by
                  intro c blk r' h1 h2 h3 e
                  obtain⟨h1',hcb⟩:=hget c blk h1 h2
                  rcases hgc with q|q
                  · exact hcb (hM.inj c b blk _ r' r h1' h2 hb rfl h3 hr0 (e.trans q))
                  · exact hM.fresh c blk r' h1' h2 h3 (e.trans q))
                (by
                  rcases hgc with q|q
                  · subst q;exact .inl hob
                  · exact .inr (by omega)) hs0 q1 q4 (by omega) q3
                (fun e he=>by
                  rcases List.mem_append.1 he with q|q
                  · exact k8 e (List.mem_of_mem_take q)
                  · exact hlenE e q)
                (fun i j e u a1 a2=>by
                  have hel:e.length=szT P ty':=by
                    rcases List.mem_append.1 (List.mem_of_getElem? a1) with q|q
                    · exact k8 e (List.mem_of_mem_take q)
                    · exact hlenE e q
                  have hj':j<szT P ty':=by
                    have:=(List.getElem?_eq_some_iff.1 a2).1
                    rw [hel] at this;exact this
                  have htk:(es.take n).length=n:=by simp;omega
                  have hcur:∀ k,k<(n+news.length) * szT P ty'→cur[k]?=(cur0.toList.take (n * szT P ty')++ys)[k]?:=by
                    intro k hk
                    rw [←q5,List.getElem?_take_of_lt hk];simp
                  have hl0:(cur0.toList.take (n * szT P ty')).length=n * szT P ty':=by
                    have:n * szT P ty'≤r.cap * szT P ty':=Nat.mul_le_mul_right _ hn
                    simp;omega
                  rcases Nat.lt_or_ge i n with hin|hin
                  · rw [List.getElem?_append_left (by omega),List.getElem?_take_of_lt hin] at a1
                    obtain⟨b1,y0,b2,b3⟩:=k9 i j e u a1 a2
                    refine⟨b1,y0,?_,b3⟩
                    have hlt:i * szT P ty'+j<n * szT P ty':=by
                      have:(i+1) * szT P ty'≤n * szT P ty':=Nat.mul_le_mul_right _ hin
                      rw [Nat.succ_mul] at this;omega
                    rw [hcur _ (by rw [Nat.add_mul];omega),List.getElem?_append_left (by omega),List.getElem?_take_of_lt hlt]
                    simpa using b2
                  · rw [List.getElem?_append_right (by omega),htk] at a1
                    obtain⟨b1,y0,b2,b3⟩:=q6 (i - n) j e u a1 a2
                    refine⟨b1,y0,?_,b3⟩
                    have hi':i - n<news.length:=(List.getElem?_eq_some_iff.1 a1).1
                    have hmul:i * szT P ty'=n * szT P ty'+(i - n) * szT P ty':=by rw [←Nat.add_mul];congr 1;omega
                    have hlt:(i - n) * szT P ty'+j<news.length * szT P ty':=by
                      have:(i - n+1) * szT P ty'≤news.length * szT P ty':=Nat.mul_le_mul_right _ hi'
                      rw [Nat.succ_mul] at this;omega
                    rw [hcur _ (by rw [Nat.add_mul];omega),List.getElem?_append_right (by omega),hl0,←b2]
                    congr 1;omega)
              rw [hlenEs] at rv
              refine⟨_,w',_,hr,af,rv,fun b' n' e=>?_,fun e=>(by rw [hv] at e;cases e)⟩
              rw [hv] at e
              cases e
              refine⟨r,hr0,fun r' hr'=>?_,fun k hk hne=>hg.block k hk (fun e=>hne (by simpa [Value.ownBlock] using e))⟩
              generalize hq:(Value.slice (some ⟨g,0,none⟩) (n+news.length) cap)=q at rv
              cases rv with
              | sl _ _ r2 h1 h2 h3=>
                rw [h1] at hr'
                cases hr'
                injection hq with e1 e2 e3
                simp only [Option.some.injEq,Addr.mk.injEq,and_true] at e1
                rw [←e1]
                rcases hgc with q|q
                · exact .inl q
                · exact .inr (by omega)
            · cases h
          · cases h
      · cases h
    · cases h
  · cases h

theorem bytesBeq(a b:ByteArray):(a==b)=true↔a=b:=by
  obtain⟨x⟩:=a
  obtain⟨y⟩:=b
  exact⟨fun h=>by rw [show x=y by simpa using (show(x==y)=true from h)],fun h=>by cases h;show(x==x)=true;simp⟩
/-- a type's leaves: where they lie, and of which kind (0: number, 1: bool, 2: text) -/
def planT (P:Program):Nat→TypeId→Option (List (Nat×Nat))
  |0,_=>none
  | d + 1,T=>match P.underlying T with
    |some (.int _)=>if szT P T=1 then some [(0,0)] else none
    |some .bool=>if szT P T=1 then some [(0,1)] else none
    |some .string=>if szT P T=1 then some [(0,2)] else none
    | some (.array n e)=>if (P.info? e).isSome∧n * szT P e≤szT P T then match planT P d e with
        |some l=>if l.all (fun p=>decide (p.1<szT P e)) then some ((List.range n).map fun i=>l.map fun p=>(i * szT P e+p.1,p.2)).flatten else none
        |none=>none
      else none
    |some (.struct fs)=>if P.stoodInHeld T=true then none else
        (fs.toList.mapM fun f=>if f.name≠ "_" ∧f.offset+szT P f.type≤szT P T then match planT P d f.type with
          |some l=>if l.all (fun p=>decide (p.1<szT P f.type)) then some (l.map fun p=>(f.offset+p.1,p.2)) else none
          |none=>none else none).map List.flatten
    |_=>none
def leafEq:Nat→V→V→Option Bool
  |0,.int k a,.int k' b=>if k=k' then some (decide (a=b)) else none
  |1,.bool a,.bool b=>some (a==b)
  |2,.str a,.str b=>some (decide (a=b))
  |_,_,_=>none
def planEq (c1 c2:List V):List (Nat×Nat)→Option Bool
  |[]=>some true
  | (o,k)::l=>match c1[o]?,c2[o]? with
    | some x,some y=>match leafEq k x y,planEq c1 c2 l with
      |some a,some b=>some (a && b)
      |_,_=>none
    |_,_=>none
def V.cellsOf:V→List V
  | .agg cs=>cs
  |v=>[v]

theorem planEq_append {c1 c2:List V}:∀ (l1 l2:List (Nat×Nat)) {r:Bool},planEq c1 c2 (l1++l2)=some r→∃ r1 r2,planEq c1 c2 l1=some r1∧planEq c1 c2 l2=some r2∧r=(r1 && r2)
  |[],l2,r,h=>⟨true,r,rfl,h,by simp⟩
  | (o, k)::l1,l2,r,h=>by
    simp only [List.cons_append,planEq] at h ⊢
    split at h
    · split at h
      · rename_i a b h1 h2
        cases h
        obtain⟨r1,r2,g1,g2,rfl⟩:=planEq_append l1 l2 h2
        exact⟨a && r1,r2,by simp [h1,g1],g2,by simp [Bool.and_assoc]⟩
      · cases h
    · cases h
theorem planEq_shift{c1 c2:List V}{off n:Nat}:∀ (l:List (Nat×Nat)),(∀ p∈l,p.1<n)→planEq c1 c2 (l.map fun p=>(off+p.1,p.2))=planEq ((c1.drop off).take n) ((c2.drop off).take n) l
  |[],_=>rfl
  | (o,k)::l,h=>by
    have ho:o<n:=h (o,k) List.mem_cons_self
    simp only [List.map_cons,planEq,List.getElem?_take_of_lt ho,List.getElem?_drop,planEq_shift l (fun p hp=>h p (List.mem_cons_of_mem _ hp))]

section
variable {P:Program} {w:World} {ρ:List Re} {B:Nat→Prop}

/-- a value as a type's -/
def Fits(P:Program)(T:TypeId)(c:List V)(w:World)(ρ:List Re)(B:Nat→Prop)(x:Value):Prop:=
  c.length=szT P T∧∃ v,RelV w ρ B v x∧v.cellsOf=c∧((∃ cs,v= .agg cs)↔agT P T=some true)

theorem fits_part{T:TypeId}{o:Nat}{xs:Array Value}{cs:List V}(hl:cs.length=xs.size)(hV:∀ (j:Nat) c x,cs[j]?=some c→xs[j]?=some x→RelV w ρ B c x)(hle:o+szT P T≤cs.length){b:Bool}(ha:agT P T=some b)
    (hone:b=false→szT P T=1∧∀ c,cs[o]?=some c→∀ ds,c≠ .agg ds):∃ x,(part T xs o).run P w= .ok x w∧Fits P T ((cs.drop o).take (szT P T)) w ρ B x:=by
  cases b with
  | true=>
    obtain⟨x,h1,h2⟩:=partV_part (P:=P) (w:=w) (B:=B) (T:=T) (o:=o) (v:= .agg ((cs.drop o).take (szT P T))) hl hV (by simp [partV,ha,hle])
    exact⟨x,h1,by simp;omega,_,h2,rfl,by simp [ha]⟩
  | false=>
    obtain⟨h1,hn⟩:=hone rfl
    have hlt:o<cs.length:=by omega
    have hg:cs[o]?=some cs[o]:=List.getElem?_eq_getElem hlt
    obtain⟨x,h2,h3⟩:=partV_part (P:=P) (w:=w) (B:=B) (T:=T) (o:=o) (v:=cs[o]) hl hV (by simp [partV,ha,hg])
    have hna:=hn _ hg
    refine⟨x,h2,by simp;omega,_,h3,?_,?_⟩
    · rw [h1,List.take_one,List.head?_drop,hg]
      cases hc:cs[o]<;>simp [V.cellsOf]<;>exact absurd hc (hna _)
    · simp [ha]
      intro ds hd
      exact absurd hd (hna _)

/-- a leaf's type holds no array and no struct -/
theorem leaf_of_plan{d:Nat}{T:TypeId}{l:List (Nat×Nat)}(h:planT P d T=some l)(ha:agT P T=some false):(∃ k,l=[(0,k)])∧szT P T=1:=by
  cases d with
  |zero=>cases h
  | succ d=>
    unfold planT at h
    unfold agT at ha
    split at h
    · split at h
      · cases h;exact⟨⟨_,rfl⟩,by assumption⟩
      · cases h
    · split at h
      · cases h;exact⟨⟨_,rfl⟩,by assumption⟩
      · cases h
    · split at h
      · cases h;exact⟨⟨_,rfl⟩,by assumption⟩
      · cases h
    all_goals simp_all

theorem leafEq_ne{k:Nat}{x y:V}{r:Bool}(h:leafEq k x y=some r):(∀ ds,x≠ .agg ds)∧(∀ ds,y≠ .agg ds):=by
  constructor<;>(intro ds e;subst e;unfold leafEq at h;split at h<;>simp_all)

theorem ag_of_plan{d:Nat}{T:TypeId}{l:List (Nat×Nat)}(h:planT P d T=some l):∃ b,agT P T=some b:=by
  cases d with
  |zero=>cases h
  | succ d=>
    unfold planT at h
    unfold agT
    split at h<;>simp_all

theorem eq_step {d:Nat} {e:TypeId} {l:List (Nat×Nat)} (hp:planT P d e=some l) (hlt:∀ p∈l,p.1<szT P e) {q:Nat}
    (IH:∀ {x y:Value} {c1 c2:List V} {r:Bool},Fits P e c1 w ρ B x→Fits P e c2 w ρ B y→planEq c1 c2 l=some r→(Op.equalIn q e x y).run P w= .ok r w)
    {o:Nat} {xs ys:Array Value} {c1 c2:List V} (hl1:c1.length=xs.size) (hl2:c2.length=ys.size) (h1:∀ (j:Nat) c x,c1[j]?=some c→xs[j]?=some x→RelV w ρ B c x) (h2:∀ (j:Nat) c x,c2[j]?=some c→ys[j]?=some x→RelV w ρ B c x)
    (o1:o+szT P e≤c1.length) (o2:o+szT P e≤c2.length) {r:Bool} (h:planEq c1 c2 (l.map fun p=>(o+p.1,p.2))=some r):
    ∃ x y,(part e xs o).run P w= .ok x w∧(part e ys o).run P w= .ok y w∧(Op.equalIn q e x y).run P w= .ok r w:=by
  obtain⟨b,hb⟩:=ag_of_plan hp
  have hone:b=false→szT P e=1∧(∀ c,c1[o]?=some c→∀ ds,c≠ .agg ds)∧(∀ c,c2[o]?=some c→∀ ds,c≠ .agg ds):=by
    rintro rfl
    obtain⟨⟨k,rfl⟩,hs⟩:=leaf_of_plan hp hb
    simp only [List.map_cons,List.map_nil,planEq,Nat.add_zero] at h
    split at h
    · rename_i a1 a2 g1 g2
      split at h
      · rename_i s1 _
        obtain⟨n1,n2⟩:=leafEq_ne s1
        exact⟨hs,fun c hc=>by rw [g1] at hc;cases hc;exact n1,fun c hc=>by rw [g2] at hc;cases hc;exact n2⟩
      · cases h
    · cases h
  obtain⟨x,p1,f1⟩:=fits_part hl1 h1 o1 hb (fun e=>⟨(hone e).1,(hone e).2.1⟩)
  obtain⟨y,p2,f2⟩:=fits_part hl2 h2 o2 hb (fun e=>⟨(hone e).1,(hone e).2.2⟩)
  rw [planEq_shift l hlt] at h
  exact⟨x,y,p1,p2,IH f1 f2 h⟩

theorem fits_agg{T:TypeId}{c:List V}{x:Value}(h:Fits P T c w ρ B x)(ha:agT P T=some true):∃ xs,x= .agg xs∧c.length=xs.size∧c.length=szT P T∧∀ (j:Nat) v y,c[j]?=some v→xs[j]?=some y→RelV w ρ B v y:=by
  obtain⟨h1,v,h2,h3,h4⟩:=h
  obtain⟨cs,rfl⟩:=h4.2 ha
  simp only [V.cellsOf] at h3
  subst h3
  cases h2 with
  |agg _ xs hl hh=>exact⟨xs,rfl,hl,h1,hh⟩

theorem equal_sound (k:Nat):∀ (d:Nat) {T:TypeId} {l:List (Nat×Nat)} {x y:Value} {c1 c2:List V} {r:Bool},planT P d T=some l→Fits P T c1 w ρ B x→Fits P T c2 w ρ B y→planEq c1 c2 l=some r→(Op.equalIn (k+d) T x y).run P w= .ok r w
  |0,_,_,_,_,_,_,_,hp,_,_,_=>by cases hp
  | d + 1, T, l,x,y,c1,c2,r,hp,f1,f2,h=>by
    have leaf:∀ {kk:Nat} {dd:TypeDesc},P.underlying T=some dd→agT P T=some false→l=[(0,kk)]→∃ u v,RelV w ρ B u x∧RelV w ρ B v y∧leafEq kk u v=some r:=by
      rintro kk dd hu ha rfl
      obtain⟨g1,u,g2,g3,g4⟩:=f1
      obtain⟨k1,v,k2,k3,k4⟩:=f2
      rw [ha] at g4 k4
      have hu1:c1=[u]:=by
        rw [←g3];cases u<;>simp [V.cellsOf] at g4 ⊢
      have hv1:c2=[v]:=by
        rw [←k3];cases v<;>simp [V.cellsOf] at k4 ⊢
      subst hu1;subst hv1
      simp only [planEq,List.getElem?_cons_zero] at h
      split at h
      · rename_i a b s1 s2
        cases s2
        simp at h
        subst h
        exact⟨u,v,g2,k2,s1⟩
      · cases h
    unfold planT at hp
    split at hp
    · rename_i hu
      split at hp
      case isFalse=>cases hp
      cases hp
      obtain⟨u,v,r1,r2,he⟩:=leaf hu (by simp [agT,hu]) rfl
      unfold leafEq at he
      split at he<;>simp_all
      obtain⟨rfl,rfl⟩:=he
      cases r1;cases r2
      show(Op.equalIn ((k+d)+1) T _ _).run P w=_
      simp [Op.equalIn,run_underlying hu]
      rw [Bool.eq_iff_iff];simp
    · rename_i hu
      split at hp
      case isFalse=>cases hp
      cases hp
      obtain⟨u,v,r1,r2,he⟩:=leaf hu (by simp [agT,hu]) rfl
      unfold leafEq at he
      split at he<;>simp_all
      cases r1;cases r2
      show(Op.equalIn ((k+d)+1) T _ _).run P w=_
      simp [Op.equalIn,run_underlying hu,he]
    · rename_i hu
      split at hp
      case isFalse=>cases hp
      cases hp
      obtain⟨u,v,r1,r2,he⟩:=leaf hu (by simp [agT,hu]) rfl
      unfold leafEq at he
      split at he<;>simp_all
      cases r1 with
      | str s b hb=>
        cases r2 with
        | str s' b' hb'=>
          show(Op.equalIn ((k+d)+1) T _ _).run P w=_
          simp [Op.equalIn,run_underlying hu]
          subst hb;subst hb'
          have hx:(b.data.toList=b'.data.toList)↔b=b':=⟨fun e=>ByteArray.ext (Array.toList_inj.1 e),fun e=>by rw [e]⟩
          rw [←he,Bool.eq_iff_iff]
          rw [bytesBeq];simp [hx]
    · rename_i n e hu
      clear leaf
      have ha:agT P T=some true:=by simp [agT,hu]
      obtain⟨xs,rfl,l1,s1,v1⟩:=fits_agg f1 ha
      obtain⟨ys,rfl,l2,s2,v2⟩:=fits_agg f2 ha
      split at hp
      · rename_i hc
        obtain⟨hi,hn⟩:=hc
        split at hp
        · rename_i le hle
          split at hp
          · rename_i hall
            cases hp
            have hlt:∀ p∈le,p.1<szT P e:=fun p hp=>by simpa using List.all_eq_true.1 hall p hp
            obtain⟨i,hi⟩:=Option.isSome_iff_exists.1 hi
            show(Op.equalIn ((k+d)+1) T _ _).run P w=_
            rw [run_equalIn_array w (k+d) xs ys hu hi]
            have hr:∀ j∈List.range n,j<n:=fun j hj=>by simpa using hj
            generalize List.range n=is at h hr
            induction is generalizing r with
            |nil=>simp [planEq] at h;simp [Op.eqItems,h]
            | cons j is ih=>
              simp only [List.map_cons,List.flatten_cons] at h
              obtain⟨r1,r2,q1,q2,rfl⟩:=planEq_append _ _ h
              have hj:=hr j List.mem_cons_self
              have hjn:j * szT P e+szT P e≤szT P T:=by
                calc j * szT P e+szT P e=(j+1) * szT P e:=by rw [Nat.succ_mul]
                  _≤n * szT P e:=Nat.mul_le_mul_right _ hj
                  _≤_:=hn
              obtain⟨x',y',p1,p2,p3⟩:=eq_step hle hlt (q:=k+d) (fun a b c=>equal_sound k d hle a b c) l1 l2 v1 v2 (by omega) (by omega) q1
              have ih:=ih (r:=r2) q2 (fun j' hj'=>hr j' (List.mem_cons_of_mem _ hj'))
              simp only [Op.eqItems,Sem.run_bind]
              rw [show P.cellsOf e=szT P e from rfl] at *
              simp only [p1,p2,p3,Result.andThen_ok]
              cases r1
              · simp
              · simpa using ih
          · cases hp
        · cases hp
      · cases hp
    · rename_i fs hu
      clear leaf
      have ha:agT P T=some true:=by simp [agT,hu]
      obtain⟨xs,rfl,l1,s1,v1⟩:=fits_agg f1 ha
      obtain⟨ys,rfl,l2,s2,v2⟩:=fits_agg f2 ha
      split at hp
      · cases hp
      · rename_i hst
        have hfs:P.fieldsOf T=fs:=by simp [Program.fieldsOf,hu]
        show(Op.equalIn ((k+d)+1) T _ _).run P w=_
        rw [run_equalIn_struct w (k+d) T xs ys (by rw [hfs];exact hu) (by simpa using hst),hfs]
        rw [Option.map_eq_some_iff] at hp
        obtain⟨ll,hm,rfl⟩:=hp
        generalize fs.toList=fl at hm
        induction fl generalizing ll r with
        |nil=>simp at hm;subst hm;simp [planEq] at h;simp [Op.eqFields,h]
        | cons f fl ih=>
          rw [List.mapM_cons] at hm
          simp only [bind,Option.bind_eq_some_iff,pure,Option.some.injEq] at hm
          obtain⟨la,ha1,ll',ha2,rfl⟩:=hm
          simp only [List.flatten_cons] at h
          obtain⟨r1,r2,q1,q2,rfl⟩:=planEq_append _ _ h
          have ih:=ih (r:=r2) ll' q2 ha2
          split at ha1
          · rename_i hc
            split at ha1
            · rename_i le hle
              split at ha1
              · rename_i hall
                cases ha1
                have hlt:∀ p∈le,p.1<szT P f.type:=fun p hp=>by simpa using List.all_eq_true.1 hall p hp
                obtain⟨x',y',p1,p2,p3⟩:=eq_step hle hlt (q:=k+d) (fun a b c=>equal_sound k d hle a b c) l1 l2 v1 v2 (by omega) (by omega) q1
                simp only [Op.eqFields,hc.1,ne_eq,not_false_eq_true,if_true,Sem.run_bind,p1,p2,p3,Result.andThen_ok]
                cases r1
                · simp
                · simpa using ih
              · cases ha1
            · cases ha1
          · cases ha1
    · cases hp

def kdT(P:Program)(T:TypeId):Nat:=match P.underlying T with
  |some (.pointer _)=>1
  |some (.slice _)=>2
  |some (.map _ _)=>3
  |some (.func _ _ _)=>4
  |some .bool=>5
  |some (.interface _)=>6
  |_=>0
/-- an array's or a struct's leaves, if it may be compared -/
def eqT(P:Program)(T:TypeId):Option (List (Nat×Nat)):=if P.eqGuardType P.depth T=false∧agT P T=some true then planT P 12 T else none
def eqV (P:Program) (T:TypeId):V→V→Option Bool
  | .agg c1,.agg c2=>match eqT P T with
    |some l=>if c1.length=szT P T∧c2.length=szT P T then planEq c1 c2 l else none
    |none=>none
  | .bool a,.bool b=>if kdT P T=5 then some (a==b) else none
  | .nilptr,.nilptr=>if kdT P T=1 then some true else none
  | .nilptr,.ptr _ _ _| .nilptr,.bp _ _| .ptr _ _ _,.nilptr| .bp _ _,.nilptr=>if kdT P T=1 then some false else none
  | .nilsl,.nilsl=>if kdT P T=2 then some true else none
  | .nilsl,.lst (_::_)| .nilsl,.sl _ _| .lst (_::_),.nilsl| .sl _ _,.nilsl=>if kdT P T=2 then some false else none
  | .nilmap,.nilmap=>if kdT P T=3 then some true else none
  | .nilmap,.mp _| .mp _,.nilmap=>if kdT P T=3 then some false else none
  | .nilfn,.nilfn=>if kdT P T=4 then some true else none
  | .nilfn,.clo _ _ _| .clo _ _ _,.nilfn=>if kdT P T=4 then some false else none
  | .nilif,.ifv| .ifv,.nilif=>if kdT P T=6 then some false else none
  |_,_=>none
def resEq(op:BinOp)(r:Bool):Option V:=match op with
  | .eql=>some (.bool r)
  | .neq=>some (.bool (!r))
  |_=>none
def evEq(P:Program)(op:BinOp)(T:TypeId)(x y:V):Option V:=match op with
  | .eql=>(eqV P T x y).map .bool
  | .neq=>(eqV P T x y).map fun b=> .bool (!b)
  |_=>none

theorem kdT_1{T:TypeId}(h:kdT P T=1):∃ e,P.underlying T=some (.pointer e):=by
  unfold kdT at h;split at h<;>simp_all
theorem kdT_2{T:TypeId}(h:kdT P T=2):∃ e,P.underlying T=some (.slice e):=by
  unfold kdT at h;split at h<;>simp_all
theorem kdT_3{T:TypeId}(h:kdT P T=3):∃ k e,P.underlying T=some (.map k e):=by
  unfold kdT at h;split at h<;>simp_all
theorem kdT_5{T:TypeId}(h:kdT P T=5):P.underlying T=some .bool:=by
  unfold kdT at h;split at h<;>simp_all
theorem kdT_6{T:TypeId}(h:kdT P T=6):∃ a,P.underlying T=some (.interface a):=by
  unfold kdT at h;split at h<;>simp_all
theorem kdT_4{T:TypeId}(h:kdT P T=4):∃ a b c,P.underlying T=some (.func a b c):=by
  unfold kdT at h;split at h<;>simp_all

theorem run_equal_of{T:TypeId}{x y:Value}{r:Bool}(h:∀ d,(Op.equalIn (d+1) T x y).run P w= .ok r w):(Op.equal T x y).run P w= .ok r w:=h 9999
/-- what the operation does, once the comparison is known -/
theorem eq_fin{T:TypeId}{x y:Value}{r:Bool}{X Y:Operand}{op:BinOp}{u:V}(hu:resEq op r=some u)
    (he:(Op.equal T x y).run P w= .ok r w) (hg:(eqGuard op T X Y x y).run P w= .ok () w) (hb:∀ op,op= .eql∨op= .neq→binOp op T x y=if op= .eql then (do pure (.bool (←Op.equal T x y)):Sem Value) else (do pure (.bool (!(←Op.equal T x y))):Sem Value)):
    ∃ z,(do eqGuard op T X Y x y;binOp op T x y:Sem Value).run P w= .ok z w∧RelV w ρ B u z:=by
  cases op<;>simp [resEq] at hu
  · subst hu
    exact⟨.bool r,by simp only [Sem.run_bind,hg,Result.andThen_ok,hb .eql (.inl rfl),if_pos];simp [he],.bool _⟩
  · subst hu
    exact⟨.bool (!r),by simp only [Sem.run_bind,hg,Result.andThen_ok,hb .neq (.inr rfl)];simp [he],.bool _⟩

theorem evEq_sound {T:TypeId} {u v z:V} {x y:Value} {op:BinOp} {X Y:Operand} (h:evEq P op T u v=some z) (h1:RelV w ρ B u x) (h2:RelV w ρ B v y):
    ∃ q,(do eqGuard op T X Y x y;binOp op T x y:Sem Value).run P w= .ok q w∧RelV w ρ B z q:=by
  have hr:∃ r,eqV P T u v=some r∧resEq op r=some z:=by
    unfold evEq at h
    split at h
    · rw [Option.map_eq_some_iff] at h;obtain⟨r,h1,rfl⟩:=h;exact⟨r,h1,rfl⟩
    · rw [Option.map_eq_some_iff] at h;obtain⟨r,h1,rfl⟩:=h;exact⟨r,h1,rfl⟩
    · cases h
  obtain⟨r,hv,hz⟩:=hr
  have hop:op= .eql∨op= .neq:=by cases op<;>simp_all [resEq]
  unfold eqV at hv
  split at hv
  · rename_i c1 c2
    split at hv
    · rename_i l hl
      split at hv
      · rename_i hlen
        cases h1 with|agg _ xs l1 r1=>cases h2 with|agg _ ys l2 r2=>
        unfold eqT at hl
        split at hl
        · rename_i hc
          have f1:Fits P T c1 w ρ B (.agg xs):=⟨hlen.1,_,.agg _ _ l1 r1,rfl,by simp [hc.2]⟩
          have f2:Fits P T c2 w ρ B (.agg ys):=⟨hlen.2,_,.agg _ _ l2 r2,rfl,by simp [hc.2]⟩
          refine eq_fin hz (equal_sound 9988 12 hl f1 f2 hv) ?_ ?_
          · rcases hop with rfl|rfl<;>simp [eqGuard,go_sem,hc.1]
          · rintro op (rfl|rfl)<;>simp [binOp]
        · cases hl
      · cases hv
    · cases hv
  · split at hv
    · rename_i hc
      cases h1;cases h2
      cases hv
      have hu:=kdT_5 hc
      refine eq_fin hz ?_ ?_ ?_
      · exact run_equal_of fun d=>by simp only [Op.equalIn,Sem.run_bind,run_underlying hu,Result.andThen_ok,Sem.run_pure]
      · rcases hop with rfl|rfl<;>simp [eqGuard,go_sem]
      · rintro op (rfl|rfl)<;>simp [binOp]
    · cases hv
  all_goals first
    |(cases hv;done)
    | (split at hv
       · rename_i hc
         cases hv
         cases h1<;>cases h2<;>(first
           |(obtain⟨_,hu⟩:=kdT_1 hc)
           |(obtain⟨_,hu⟩:=kdT_2 hc)
           |(obtain⟨_,_,hu⟩:=kdT_3 hc)
           |(obtain⟨_,_,_,hu⟩:=kdT_4 hc)
           |(obtain⟨_,hu⟩:=kdT_6 hc))<;>
         (refine eq_fin hz ?_ ?_ ?_
          · exact run_equal_of fun d=>by simp only [Op.equalIn,Sem.run_bind,run_underlying hu,Result.andThen_ok,Sem.run_pure]<;>rfl
          · rcases hop with rfl|rfl<;>simp [eqGuard,go_sem]
          · rintro op (rfl|rfl)<;>simp [binOp])
       · cases hv)
end
end Go.Proofs.YtomkbpoicjabfaaGreatDoor
namespace Go.Proofs.YtomkbpoicjabfaaGreatDoor
open Go.RowKit

def strT(P:Program)(T:TypeId):Bool:=match P.underlying T with
  |some .string=>true
  |_=>false
def evMake (P:Program) (t:List (Nat×V)) (m:Mem) (T:TypeId) (l c:Operand):Res:=
  match slT P T,evO t l,evO t c with
  | some E,.int _ n,.int _ n'=>match zeT P E with
    |some zs=>if smT P E=true then some (n≤n'∧0≤n∧n'≤1000000,.sl m.length n.toNat,m++[.cells .own E (szT P E) (List.replicate n.toNat zs)]) else none
    |none=>none
  |_,_,_=>none
def chunks(n s:Nat)(cs:List V):List (List V):=(List.range n).map fun i=>(cs.drop (i * s)).take s
def repL(n:Nat)(zs:List V):List V:=(List.replicate n zs).flatten
def evBuildSl (P:Program) (t:List (Nat×V)) (m:Mem) (T:TypeId) (n:Nat) (parts:Array (Nat×Operand)):Res:=
  match slT P T with
  | some E=>match zeT P E with
    | some zs=>if smT P E=true∧n * szT P E≤16777216∧n≤1000000 then
        match fillV (fun i=>some (i * szT P E,szT P E)) (repL n zs) (parts.toList.map fun(i,x)=>(i,evO t x)) with
        |some cs=>some (True,.sl m.length n,m++[.cells .own E (szT P E) (chunks n (szT P E) cs)])
        |none=>none
      else none
    |none=>none
  |none=>none
def evLen(P:Program)(T:TypeId)(x:V):Option V:=
  match slT P T,x with
  |some _,.sl _ n=>some (.int .i64 n)
  |some _,.lst es=>some (.int .i64 es.length)
  |some _,.nilsl=>some (.int .i64 0)
  |_,.str s=>if strT P T=true then some (.int .i64 s.length) else none
  |_,_=>none
def evMax(x y:V):Option V:=
  match x,y with
  | .int k a,.int _ b=>some (.int k (if b>a then b else a))
  |_,_=>none
def evMin(x y:V):Option V:=
  match x,y with
  | .int k a,.int _ b=>some (.int k (if b<a then b else a))
  |_,_=>none
def bound (t:List (Nat×V)) (d:Nat):Option Operand→Option (Int)
  |none=>some d
  | some x=>match evO t x with
    | .int _ n=>some n
    |_=>none
def evSlice (P:Program) (t:List (Nat×V)) (m:Mem) (T:TypeId) (x:Operand) (lo hi:Option Operand):Res:=
  match evO t x with
  | .lst es=>match slT P T,bound t 0 lo,bound t es.length hi with
    |some E,some l,some h=>if es.all (fun e=>e.length==szT P E)=true∧0<szT P E then some (0≤l∧l≤h∧h≤es.length,.lst ((es.drop l.toNat).take (h - l).toNat),m) else none
    |_,_,_=>none
  | .sl b n=>match slT P T,bound t 0 lo,bound t n hi,m[b]? with
    |some E,some l,some h,some (.cells _ ty sz es)=>if sz=szT P E then some (0≤l∧l≤h∧h≤n∧n≤es.length,.lst ((es.drop l.toNat).take (h - l).toNat),m.set b (.cells .ro ty sz es)) else none
    |_,_,_,_=>none
  | .ptr b i o=>match arT P T,lo,hi,m[b]? with
    | some (k,E),none,none,some (.cells _ ty sz es)=>match es[i]? with
      |some e=>if 0<szT P E∧k≤maxLen∧o+k * szT P E≤sz then some (True,.lst (chunks k (szT P E) (e.drop o)),m.set b (.cells .ro ty sz es)) else none
      |none=>none
    |_,_,_,_=>none
  |_=>none
def evStrSlice (P:Program) (t:List (Nat×V)) (T:TypeId) (x:Operand) (lo hi:Option Operand):Option (Prop×V):=
  match evO t x with
  | .str s=>match strT P T,bound t 0 lo,bound t s.length hi with
    |true,some l,some h=>some (0≤l∧l≤h∧h≤s.length,.str ((s.drop l.toNat).take (h - l).toNat))
    |_,_,_=>none
  |_=>none

/-- a text's byte -/
def evStrIdx (P:Program) (T:TypeId) (x ix:V):Option (Prop×V):=
  match ix,x with
  | .int _ n,.str s=>if strT P T=true then match s[n.toNat]? with
    |some b=>some (0≤n,.int .u8 b.toNat)
    |none=>none
    else none
  |_,_=>none
/-- every operation that is no call of a function -/
def evA (P:Program) (t:List (Nat×V)) (m:Mem):Op→Res
  | .makeSlice T l c=>evMake P t m T l c
  | .buildSlice T n parts=>evBuildSl P t m T n parts
  | .slice T x lo hi none=>match evStrSlice P t T x lo hi with
    |some (p,v)=>some (p,v,m)
    |none=>evSlice P t m T x lo hi
  | .index T x ix=>match evStrIdx P T (evO t x) (evO t ix) with
    |some (p,v)=>some (p,v,m)
    |none=>evOp P t m (.index T x ix)
  | .convert S D x=>match intT P S,intT P D,evO t x with
    |some _,some k,.int _ n=>okR m (.int k (k.wrap n))
    |_,_,_=>none
  | .call ⟨.builtin .len,⟨[x]⟩,⟨[T]⟩⟩=>okO m (evLen P T (evO t x))
  | .call ⟨.builtin .max,⟨[x,y]⟩,_⟩=>okO m (evMax (evO t x) (evO t y))
  | .call ⟨.builtin .min,⟨[x,y]⟩,_⟩=>okO m (evMin (evO t x) (evO t y))
  | .call ⟨.builtin .append,⟨[s,x]⟩,⟨[T,T']⟩⟩=>if T'=T then evAppend P t m T s x else none
  | .binOp op T x y T'=>match evEq P op T (evO t x) (evO t y) with
    |some v=>okR m v
    |none=>evOp P t m (.binOp op T x y T')
  |op=>evOp P t m op
section
variable {P:Program} {w:World} {ρ:List Re} {m:Mem} {a:Act} {t:List (Nat×V)} {o:Oper} {v:V} {m':Mem} {p:Prop}

theorem zeT_spec {E:TypeId} {zs:List V} (h:zeT P E=some zs):∃ i z,P.info? E=some i∧i.zero=some z∧zs=z.cells.toList.map ofC∧(∀ c∈z.cells.toList,(ofC c).one=true):=by
  unfold zeT at h
  cases hi:P.info? E with
  |none=>rw [hi] at h;cases h
  | some i=>
    rw [hi] at h
    simp only [Option.bind_some] at h
    cases hzz:i.zero with
    |none=>rw [hzz] at h;cases h
    | some z=>
      rw [hzz] at h
      simp only [Option.bind_some,oneC] at h
      split at h
      · rename_i hall
        cases h
        exact⟨i,z,rfl,hzz,rfl,fun c hc=>List.all_eq_true.1 hall _ (List.mem_map.2 ⟨c,hc,rfl⟩)⟩
      · cases h

theorem madeCells_get{z:Array Value}{n i j:Nat}(hi:i<n)(hj:j<z.size):(madeCells z (n * z.size))[i * z.size+j]?=some z[j]:=by
  have hlt:i * z.size+j<n * z.size:=by
    have:(i+1) * z.size≤n * z.size:=Nat.mul_le_mul_right _ hi
    rw [Nat.succ_mul] at this;omega
  have h2:(i * z.size+j) % z.size=j:=by rw [Nat.mul_comm,Nat.mul_add_mod];exact Nat.mod_eq_of_lt hj
  simp [madeCells,hlt,h2,hj]

theorem sound_makeSlice (hM:RelM w ρ m) (hT:RelT w ρ m t a) {T:TypeId} {l c:Operand} (ho:o.op= .makeSlice T l c) (h:evMake P t m T l c=some (p,v,m')) (hp:p):OpOk P w ρ m a o v m':=by
  have hl:=evO_rel hT l
  have hc:=evO_rel hT c
  unfold evMake at h
  generalize hel:a.eval l=el at hl
  generalize hec:a.eval c=ec at hc
  split at h
  · rename_i E k n k' n' hE hvl hvc
    rw [hvl] at hl
    rw [hvc] at hc
    cases hl
    cases hc
    split at h
    · rename_i zs hz
      split at h
      · rename_i hsm
        simp only [Option.some.injEq,Prod.mk.injEq] at h
        obtain⟨rfl,rfl,rfl⟩:=h
        obtain⟨hnn,h0,h1⟩:=hp
        obtain⟨q,rfl⟩:=Int.eq_ofNat_of_zero_le h0
        obtain⟨q',rfl⟩:=Int.eq_ofNat_of_zero_le (Int.le_trans h0 hnn)
        obtain⟨i,z,hi,hz',his,hzs,hs0,hby,hz1⟩:=smT_spec hsm
        obtain⟨i',z',hi',hz'',hzz,hone⟩:=zeT_spec hz
        rw [hi] at hi'
        cases hi'
        rw [hz'] at hz''
        cases hz''
        have hbytes:(i.bytes:Int) * (q':Int)≤281474976710656:=by
          have:i.bytes * q'≤281474976710656:=by
            calc i.bytes * q'≤100000000 * 1000000:=Nat.mul_le_mul hby (by omega)
              _≤_:=by decide
          have h2:((i.bytes * q':Nat):Int)≤281474976710656:=by omega
          rwa [Int.natCast_mul] at h2
        have hr:=run_make (P:=P) w T E i z (slT_spec hE) hi hz' k k' (q:Int) (q':Int) h0 hnn hbytes (by omega)
        simp only [Int.toNat_natCast,his] at hr
        have hqq:q≤q':=by omega
        generalize hw':w.alloc (.cells (madeCells z.cells (q' * szT P E)) E)=w' at hr
        have hb:Below w.heap.size w w':=by rw [←hw'];exact(Below.refl _ w).alloc (Nat.le_refl _) _
        have hnew:w'.heap[w.heap.size]?=some (.cells (madeCells z.cells (q' * szT P E)) E (0,0)):=by
          rw [←hw']
          show(w.heap.push _)[w.heap.size]?=_
          simp
        have hzl:zs.length=szT P E:=by rw [hzz];simp;omega
        have hreplen:(List.replicate q zs).length=q:=by simp
        obtain⟨af,rv⟩:=hM.move (w':=w') (m1:=m) rfl (fun _ _ h _=>h) w.heap.size hb.size (fun k hk _ _=>hb.block k hk) hb.os hb.tape hb.output q' E (szT P E) (List.replicate q zs) (madeCells z.cells (q' * szT P E))
          hM.fresh (.inr (Nat.le_refl _)) hs0 hnew (size_madeCells _ _) (by simpa using hqq) (by unfold maxLen;omega) (fun e he=>by rw [(List.mem_replicate.1 he).2];exact hzl) (fun i' j e u a1 a2=>by
            have hi':i'<q:=by have:=(List.getElem?_eq_some_iff.1 a1).1;simpa using this
            rw [List.getElem?_replicate,if_pos hi'] at a1
            cases a1
            have hj:j<z.cells.size:=by have:=(List.getElem?_eq_some_iff.1 a2).1;omega
            have hu:u=ofC z.cells[j]:=by
              rw [hzz,List.getElem?_map] at a2
              have:z.cells.toList[j]?=some z.cells[j]:=by simp [hj]
              rw [this] at a2
              simpa using a2.symm
            subst hu
            refine⟨hone _ (by simp),z.cells[j],?_,ofC_rel _ _ _ _⟩
            have hsz:z.cells.size=szT P E:=by omega
            rw [←hsz]
            exact madeCells_get (by omega) hj)
        rw [hreplen] at rv
        refine⟨_,w',_,?_,af,.inl ⟨_,rfl,rv⟩,by simp [isPure,ho],fun _=>hb⟩
        simp only [execOp,ho,hel,hec]
        exact run_v hr
      · cases h
    · cases h
  · cases h

theorem intT_spec{D:TypeId}{k:IntKind}(hk:intT P D=some k):P.underlying D=some (.int k):=by
  unfold intT at hk
  split at hk
  · rename_i q hu;cases hk;exact hu
  · cases hk
theorem sound_convert(hM:RelM w ρ m)(hT:RelT w ρ m t a){S D:TypeId}{x:Operand}(ho:o.op= .convert S D x){k:IntKind}(hk:intT P D=some k){k':IntKind}{n:Int}(hx:evO t x= .int k' n){ks:IntKind}(hS:intT P S=some ks):
    OpOk P w ρ m a o (.int k (k.wrap n)) m:=by
  have hr:=evO_rel hT x
  rw [hx] at hr
  generalize he:a.eval x=ex at hr
  cases hr
  refine opok_pure hM (x:= .int k (k.wrap n)) ?_ (.int _ _)
  simp only [execOp,ho,he]
  refine run_v ?_
  simp only [convert,Sem.run_bind,run_underlying (intT_spec hS),run_underlying (intT_spec hk),Result.andThen_ok]
  simp [Conv.intToInt]

theorem sound_len (hM:RelM w ρ m) (hT:RelT w ρ m t a) {T:TypeId} {x:Operand} (ho:o.op= .call ⟨.builtin .len,⟨[x]⟩,⟨[T]⟩⟩) {u:V} (h:evLen P T (evO t x)=some u):OpOk P w ρ m a o u m:=by
  have hr:=evO_rel hT x
  generalize he:a.eval x=ex at hr
  generalize evO t x=vx at h hr
  have fin:∀ y:Value,(Builtin.len_ #[T] o.type #[ex]).run P w= .ok y w→RelV w ρ (bad m ρ) u y→OpOk P w ρ m a o u m:=by
    intro y h1 h2
    refine opok_pure hM (x:=y) ?_ h2
    simp only [execOp,ho,resolve,invoke,builtin,Sem.run_bind,Sem.run_pure,Result.andThen_ok,List.map_toArray,List.map_cons,List.map_nil,he,h1]
  unfold evLen at h
  split at h
  · rename_i E b n hE
    cases h
    cases hr with
    |sl _ _ r hr0 hn hm=>exact fin _ (by simp [Builtin.len_,run_underlying (slT_spec hE),goInt]) (.int _ _)
  · rename_i E es hE
    cases h
    cases hr with
    |lst _ b off c s Y h1 h2 h3 h4 h5 h6 h7 h8=>exact fin _ (by simp [Builtin.len_,run_underlying (slT_spec hE),goInt]) (.int _ _)
    |lnil=>exact fin _ (by simp [Builtin.len_,run_underlying (slT_spec hE),goInt]) (.int _ _)
  · rename_i E hE
    cases h
    cases hr
    exact fin _ (by simp [Builtin.len_,run_underlying (slT_spec hE),goInt]) (.int _ _)
  · rename_i s
    split at h
    · rename_i hs
      cases h
      cases hr with
      | str _ b hb=>
        have hu:P.underlying T=some .string:=by
          unfold strT at hs
          split at hs
          · assumption
          · cases hs
        have hz:b.size=s.length:=congrArg List.length hb
        exact fin (.int .i64 s.length) (by simp [Builtin.len_,run_underlying hu,goInt,hz]) (.int _ _)
    · cases h
  · cases h

theorem sound_max(hM:RelM w ρ m)(hT:RelT w ρ m t a){ts:Array TypeId}{x y:Operand}(ho:o.op= .call ⟨.builtin .max,⟨[x,y]⟩,ts⟩){u:V}(h:evMax (evO t x) (evO t y)=some u):OpOk P w ρ m a o u m:=by
  have hx:=evO_rel hT x
  have hy:=evO_rel hT y
  generalize he:a.eval x=ex at hx
  generalize he':a.eval y=ey at hy
  unfold evMax at h
  split at h
  · rename_i k n k' n' h1 h2
    cases h
    rw [h1] at hx
    rw [h2] at hy
    cases hx
    cases hy
    refine opok_pure hM (x:= .int k (if n'>n then n' else n)) ?_ (.int _ _)
    simp [execOp,ho,resolve,invoke,builtin,he,he',Builtin.max_,Builtin.max2]
  · cases h

theorem sound_min(hM:RelM w ρ m)(hT:RelT w ρ m t a){ts:Array TypeId}{x y:Operand}(ho:o.op= .call ⟨.builtin .min,⟨[x,y]⟩,ts⟩){u:V}(h:evMin (evO t x) (evO t y)=some u):OpOk P w ρ m a o u m:=by
  have hx:=evO_rel hT x
  have hy:=evO_rel hT y
  generalize he:a.eval x=ex at hx
  generalize he':a.eval y=ey at hy
  unfold evMin at h
  split at h
  · rename_i k n k' n' h1 h2
    cases h
    rw [h1] at hx
    rw [h2] at hy
    cases hx
    cases hy
    refine opok_pure hM (x:= .int k (if n'<n then n' else n)) ?_ (.int _ _)
    simp [execOp,ho,resolve,invoke,builtin,he,he',Builtin.min_,Builtin.min2]
  · cases h

theorem sound_append(hM:RelM w ρ m)(hT:RelT w ρ m t a){T:TypeId}{s x:Operand}(ho:o.op= .call ⟨.builtin .append,⟨[s,x]⟩,⟨[T,T]⟩⟩)(h:evAppend P t m T s x=some (p,v,m'))(hp:p):OpOk P w ρ m a o v m':=by
  obtain⟨y,w',ρ',h1,h2,h3,_⟩:=append_sound (ty:=o.type) hM hT h hp
  refine⟨_,w',ρ',?_,h2,.inl ⟨y,rfl,h3⟩,by simp [isPure,ho],by simp [isFresh,ho]⟩
  simp only [execOp,ho,resolve,invoke,builtin,Sem.run_bind,Sem.run_pure,Result.andThen_ok,List.map_toArray,List.map_cons,List.map_nil,h1]
theorem append_frame(hM:RelM w ρ m)(hT:RelT w ρ m t a){T:TypeId}{s x:Operand}(ho:o.op= .call ⟨.builtin .append,⟨[s,x]⟩,⟨[T,T]⟩⟩)(h:evAppend P t m T s x=some (p,v,m'))(hp:p):
    ∃ y w' ρ',(execOp a.eval o).run P w= .ok (.value y) w'∧After w ρ m w' ρ' m'∧RelV w' ρ' (bad m' ρ') v y∧AppFr w ρ m w' ρ' (evO t s)∧AppFn w m w' ρ' (evO t s):=by
  obtain⟨y,w',ρ',h1,h2⟩:=append_sound (ty:=o.type) hM hT h hp
  refine⟨y,w',ρ',?_,h2⟩
  simp only [execOp,ho,resolve,invoke,builtin,Sem.run_bind,Sem.run_pure,Result.andThen_ok,List.map_toArray,List.map_cons,List.map_nil,h1]
end
end Go.Proofs.YtomkbpoicjabfaaGreatDoor
namespace Go.Proofs.YtomkbpoicjabfaaGreatDoor
open Go.RowKit
section
variable {P:Program} {w:World} {ρ:List Re} {m:Mem} {a:Act} {t:List (Nat×V)} {o:Oper} {v:V} {m':Mem} {p:Prop}

theorem run_sliceBound{k:IntKind}{n:Int}{y:Nat}{code:BoundsCode}(h0:0≤n)(h1:n≤y):(Instr.sliceBound (.int k n) y code).run P w= .ok n.toNat w:=by
  simp only [Instr.sliceBound,asIntOf,Sem.run_bind,Sem.run_pure,Result.andThen_ok,if_pos (And.intro h0 h1)]

theorem run_sliceBounds(hM:RelM w ρ m)(hT:RelT w ρ m t a){b:Bool}{len cap:Nat}{lo hi:Option Operand}{l h:Int}(hl:bound t 0 lo=some l)(hh:bound t len hi=some h)(h0:0≤l)(h1:l≤h)(h2:h≤len)(h3:len≤cap):
    (Instr.sliceBounds b len cap (lo.map a.eval) (hi.map a.eval) none).run P w= .ok (l.toNat,h.toNat,cap) w:=by
  have key:∀ {x:Operand} {d:Nat} {n:Int},bound t d (some x)=some n→∃ k,a.eval x= .int k n:=by
    intro x d n hb
    unfold bound at hb
    have hr:=evO_rel hT x
    simp only at hb
    split at hb
    · rename_i k q he
      cases hb
      rw [he] at hr
      generalize a.eval x=ex at hr
      cases hr
      exact⟨_,rfl⟩
    · cases hb
  cases hi with
  | none=>
    simp only [bound,Option.some.injEq] at hh
    subst hh
    cases lo with
    | none=>
      simp only [bound,Option.some.injEq] at hl
      subst hl
      simp [Instr.sliceBounds]
    | some x=>
      obtain⟨k,he⟩:=key hl
      simp only [Instr.sliceBounds,Option.map_some,Option.map_none,he,Sem.run_bind,Sem.run_pure,Result.andThen_ok,run_sliceBound h0 h1,Int.toNat_natCast]
  | some y=>
    obtain⟨k',he'⟩:=key hh
    have hhn:((h.toNat:Nat):Int)=h:=by omega
    cases lo with
    | none=>
      simp only [bound,Option.some.injEq] at hl
      subst hl
      simp only [Instr.sliceBounds,Option.map_some,Option.map_none,he',Sem.run_bind,Sem.run_pure,Result.andThen_ok,run_sliceBound (y:=cap) (by omega:0≤h) (by omega)]
      simp
    | some x=>
      obtain⟨k,he⟩:=key hl
      simp only [Instr.sliceBounds,Option.map_some,Option.map_none,he,he',Sem.run_bind,Sem.run_pure,Result.andThen_ok,run_sliceBound (y:=cap) (by omega:0≤h) (by omega),run_sliceBound (y:=h.toNat) h0 (by omega)]

theorem sub_get{α:Type}{es:List α}{l k i:Nat}{e:α}(h:((es.drop l).take k)[i]?=some e):i<k∧es[l+i]?=some e:=by
  have hi:i<k:=by
    rcases Nat.lt_or_ge i k with q|q
    · exact q
    · simp [List.getElem?_take] at h;omega
  rw [List.getElem?_take_of_lt hi,List.getElem?_drop] at h
  exact⟨hi,h⟩

theorem run_slice_sl{T E:TypeId}{b off len c:Nat}(hE:slT P T=some E)(hp:0<szT P E)(hM:RelM w ρ m)(hT:RelT w ρ m t a){lo hi:Option Operand}{l h:Int}(hl:bound t 0 lo=some l)(hh:bound t len hi=some h)(h0:0≤l)(h1:l≤h)(h2:h≤len)(h3:len≤c):
    (Instr.sliceAt T (.slice (some ⟨b,off,none⟩) len c) (lo.map a.eval) (hi.map a.eval) none).run P w= .ok (.slice (some (if c=l.toNat then ⟨b,off,none⟩ else ⟨b,off+l.toNat * szT P E,none⟩)) (h.toNat - l.toNat) (c - l.toNat)) w:=by
  simp only [Instr.sliceAt,Sem.run_bind,run_underlying (slT_spec hE),Result.andThen_ok,Instr.slice,run_sliceBounds hM hT hl hh h0 h1 h2 h3,run_sizeOf hp,Sem.run_pure]
  split
  · simp
  · simp [addr_add]

/-- a piece of a slice that reads as a list -/
theorem rel_sub {B:Nat→Prop} {es:List (List V)} {b off c s:Nat} {Y:Nat→Nat→Value} (hb:b<w.heap.size) (hB:¬ B b) (hc:es.length≤c) (hm:c≤maxLen) (hs:∀ e∈es,e.length=s)
    (hY:∀ (i j:Nat) e u,es[i]?=some e→e[j]?=some u→w.cell? ⟨b,off+i * s+j,none⟩=some (Y i j)∧RelV w ρ B u (Y i j)∧u.one=true) {l h:Nat} (h1:l≤h) (h2:h≤es.length):
    RelV w ρ B (.lst ((es.drop l).take (h - l))) (.slice (some (if c=l then ⟨b,off,none⟩ else ⟨b,off+l * s,none⟩)) (h - l) (c - l)):=by
  have hlen:((es.drop l).take (h - l)).length=h - l:=by simp;omega
  have key:RelV w ρ B (.lst ((es.drop l).take (h - l))) (.slice (some ⟨b,if c=l then off else off+l * s,none⟩) ((es.drop l).take (h - l)).length (c - l)):=by
    refine .lst _ b _ (c - l) s (fun i j=>Y (l+i) j) hb hB (by omega) (by omega) (fun e he=>hs e (List.mem_of_mem_drop (List.mem_of_mem_take he))) ?_ ?_ ?_
    · intro i j e u a1 a2
      obtain⟨hi,a1⟩:=sub_get a1
      have hne:¬ c=l:=by
        have:=(List.getElem?_eq_some_iff.1 a1).1;omega
      rw [if_neg hne]
      have:=(hY (l+i) j e u a1 a2).1
      rw [Nat.add_mul] at this
      rw [←this]
      congr 2;omega
    · intro i j e u a1 a2
      exact(hY _ j e u (sub_get a1).2 a2).2.1
    · intro i j e u a1 a2
      exact(hY _ j e u (sub_get a1).2 a2).2.2
  rw [hlen] at key
  split
  · rename_i e;rw [if_pos e] at key;exact key
  · rename_i e;rw [if_neg e] at key;exact key

theorem After.of_ro(hM:RelM w ρ m){b:Nat}{wr:Sta}{ty sz:Nat}{es:List (List V)}(hb:m[b]?=some (.cells wr ty sz es)):After w ρ m w ρ (m.set b (.cells .ro ty sz es)):=
  ⟨Keep.refl _ _,fun _ _ h=>h,hM.demote b _ (.inr ⟨wr,ty,sz,es,hb,rfl⟩),fun _ _ ho=>owned_demote rfl ho,fun _ _ ho=>owned_demote rfl ho⟩

theorem sound_slice (hM:RelM w ρ m) (hT:RelT w ρ m t a) {T:TypeId} {x:Operand} {lo hi:Option Operand} (ho:o.op= .slice T x lo hi none) (h:evSlice P t m T x lo hi=some (p,v,m')) (hp:p):OpOk P w ρ m a o v m':=by
  have hx:=evO_rel hT x
  unfold evSlice at h
  generalize he:a.eval x=ex at hx
  split at h
  · rename_i es hv
    rw [hv] at hx
    split at h
    · rename_i E l hh' hE hl hh
      split at h
      · rename_i hc
        simp only [Option.some.injEq,Prod.mk.injEq] at h
        obtain⟨rfl,rfl,rfl⟩:=h
        obtain⟨p0,p1,p2⟩:=hp
        cases hx with
        | lst _ b off c s Y h1 h2 h3 h4 h5 h6 h7 h8=>
          have hs:∀ e∈es,e.length=szT P E:=fun e he'=>by simpa using List.all_eq_true.1 hc.1 e he'
          have rv:=rel_sub (w:=w) (ρ:=ρ) (B:=bad m ρ) (b:=b) (off:=off) (c:=c) (s:=szT P E) (Y:=Y) h1 h2 h3 h4 hs (fun i j e u a1 a2=>by
            have:s=szT P E:=(h5 e (List.mem_of_getElem? a1)).symm.trans (hs e (List.mem_of_getElem? a1))
            rw [←this]
            exact⟨h6 i j e u a1 a2,h7 i j e u a1 a2,h8 i j e u a1 a2⟩) (l:=l.toNat) (h:=hh'.toNat) (by omega) (by omega)
          have hsub:(hh' - l).toNat=hh'.toNat - l.toNat:=by omega
          rw [hsub]
          refine opok_pure hM ?_ rv
          simp only [execOp,ho,he,Option.map_none]
          exact run_v (run_slice_sl hE hc.2 hM hT hl hh p0 p1 p2 h3)
        | lnil a0 c hc0 ha0=>
          have hl0:l=0:=by simp at p2;omega
          have hh0:hh'=0:=by simp at p2;omega
          subst hl0;subst hh0
          have hsb:(Instr.sliceBounds true 0 c (lo.map a.eval) (hi.map a.eval) none).run P w= .ok (0,0,c) w:=run_sliceBounds (P:=P) (len:=0) (cap:=c) hM hT hl hh p0 p1 p2 (Nat.zero_le _)
          refine opok_pure hM (x:= .slice ((if c=0 then a0 else a0.map (·.add (0 * szT P E)))) (0 - 0) (c - 0)) ?_ (by
            have:=RelV.lnil (w:=w) (ρ:=ρ) (B:=bad m ρ) (if c=0 then a0 else a0.map (·.add (0 * szT P E))) c hc0 (fun e=>by
              split at e
              · assumption
              · cases a0 with
                |none=>exact ha0 rfl
                |some a0=>cases e)
            simpa using this)
          simp only [execOp,ho,he,Option.map_none]
          exact run_v (by simp only [Instr.sliceAt,Sem.run_bind,run_underlying (slT_spec hE),Result.andThen_ok,Instr.slice,hsb,run_sizeOf hc.2,Sem.run_pure])
      · cases h
    · cases h
  · rename_i b n hv
    rw [hv] at hx
    split at h
    · rename_i E l hh' wr ty sz es hE hl hh hb
      split at h
      · rename_i hc
        subst hc
        simp only [Option.some.injEq,Prod.mk.injEq] at h
        obtain⟨rfl,rfl,rfl⟩:=h
        obtain⟨p0,p1,p2,p3⟩:=hp
        cases hx with
        | sl _ _ r hr hn hm=>
          obtain⟨r0,cur,k1,k2,k3,k4,k5,k6,k7,k8,k9⟩:=hM.cells b wr ty _ es hb
          rw [hr] at k1
          cases k1
          have hnot:¬ bad (m.set b (.cells .ro ty (szT P E) es)) ρ r.blk:=not_owned hM hb (by simp) hr rfl
          have rv:=rel_sub (w:=w) (ρ:=ρ) (B:=bad (m.set b (.cells .ro ty (szT P E) es)) ρ) (b:=r.blk) (off:=0) (c:=r.cap) (s:=szT P E) (Y:=fun i j=>(cur[i * szT P E+j]?).getD undef) (es:=es) (heap_lt k4) hnot (by omega) hm k8 (fun i j e u a1 a2=>by
            obtain⟨b1,y,b2,b3⟩:=k9 i j e u a1 a2
            have hy:((cur[i * szT P E+j]?).getD undef)=y:=by rw [b2];rfl
            simp only [hy]
            refine⟨?_,b3.mono (Nat.le_refl _) (fun _ _ _=>rfl) (fun k _ ho=>owned_demote rfl ho) (fun _ _ h=>h),b1⟩
            simp [World.cell?,k4,b2]) (l:=l.toNat) (h:=hh'.toNat) (by omega) (by omega)
          have hsub:(hh' - l).toNat=hh'.toNat - l.toNat:=by omega
          rw [hsub]
          refine⟨_,w,ρ,?_,After.of_ro hM hb,.inl ⟨_,rfl,rv⟩,fun _=>⟨rfl,rfl⟩,fun _=>Below.refl _ _⟩
          simp only [execOp,ho,he,Option.map_none]
          exact run_v (run_slice_sl hE k3 hM hT hl hh p0 p1 p2 hn)
      · cases h
    · cases h
  · rename_i b i q hv
    rw [hv] at hx
    split at h
    · rename_i k E wr ty sz es hE hb
      split at h
      · rename_i e hes
        split at h
        · rename_i hc
          obtain⟨hs0,hkm,hfit⟩:=hc
          simp only [Option.some.injEq,Prod.mk.injEq] at h
          obtain⟨rfl,rfl,rfl⟩:=h
          cases hx with
          | ptr _ _ _ r hr=>
            obtain⟨r0,cur,k1,k2,k3,k4,k5,k6,k7,k8,k9⟩:=hM.cells b wr ty sz es hb
            rw [hr] at k1
            cases k1
            have hel:e.length=sz:=k8 e (List.mem_of_getElem? hes)
            have hnot:¬ bad (m.set b (.cells .ro ty sz es)) ρ r.blk:=not_owned hM hb (by simp) hr rfl
            have hchl:(chunks k (szT P E) (e.drop q)).length=k:=by simp [chunks]
            have hch:∀ i' e',(chunks k (szT P E) (e.drop q))[i']?=some e'→i'<k∧e'=((e.drop q).drop (i' * szT P E)).take (szT P E):=by
              intro i' e' h1
              have hi':i'<k:=by have:=(List.getElem?_eq_some_iff.1 h1).1;omega
              unfold chunks at h1
              rw [List.getElem?_map,List.getElem?_range hi'] at h1
              simp at h1
              exact⟨hi',by rw [←h1];simp⟩
            have hget:∀ i' j e' u,(chunks k (szT P E) (e.drop q))[i']?=some e'→e'[j]?=some u→j<szT P E∧i'<k∧e[q+(i' * szT P E+j)]?=some u:=by
              intro i' j e' u h1 h2
              obtain⟨hi',rfl⟩:=hch i' e' h1
              obtain⟨hj,h2⟩:=sub_get h2
              rw [List.getElem?_drop] at h2
              exact⟨hj,hi',h2⟩
            have rv:RelV w ρ (bad (m.set b (.cells .ro ty sz es)) ρ) (.lst (chunks k (szT P E) (e.drop q))) (.slice (some ⟨r.blk,i * sz+q,none⟩) (chunks k (szT P E) (e.drop q)).length k):=by
              refine .lst _ r.blk (i * sz+q) k (szT P E) (fun i' j=>(cur[i * sz+(q+(i' * szT P E+j))]?).getD undef) (heap_lt k4) hnot (by omega) hkm ?_ ?_ ?_ ?_
              · intro e' he'
                obtain⟨i',hi'⟩:=List.getElem?_of_mem he'
                obtain⟨hi'',rfl⟩:=hch i' e' hi'
                have:(i'+1) * szT P E≤k * szT P E:=Nat.mul_le_mul_right _ hi''
                rw [Nat.succ_mul] at this
                simp;omega
              · intro i' j e' u a1 a2
                obtain⟨_,_,a3⟩:=hget i' j e' u a1 a2
                obtain⟨b1,y,b2,b3⟩:=k9 i _ e u hes a3
                rw [b2]
                have:i * sz+q+i' * szT P E+j=i * sz+(q+(i' * szT P E+j)):=by omega
                rw [this]
                simp [World.cell?,k4,b2]
              · intro i' j e' u a1 a2
                obtain⟨_,_,a3⟩:=hget i' j e' u a1 a2
                obtain⟨b1,y,b2,b3⟩:=k9 i _ e u hes a3
                rw [b2]
                exact b3.mono (Nat.le_refl _) (fun _ _ _=>rfl) (fun k _ ho=>owned_demote rfl ho) (fun _ _ h=>h)
              · intro i' j e' u a1 a2
                obtain⟨_,_,a3⟩:=hget i' j e' u a1 a2
                exact(k9 i _ e u hes a3).1
            rw [hchl] at rv
            refine⟨_,w,ρ,?_,After.of_ro hM hb,.inl ⟨_,rfl,rv⟩,fun _=>⟨rfl,rfl⟩,fun _=>Below.refl _ _⟩
            simp only [execOp,ho,he,Option.map_none]
            refine run_v ?_
            have hr0:(Instr.sliceBounds false k k none none none).run P w= .ok (0,k,k) w:=by simp [Instr.sliceBounds]
            simp only [Instr.sliceAt,Sem.run_bind,run_underlying (arT_spec hE),Result.andThen_ok,Instr.sureAddr,Sem.run_pure,hr0,run_sizeOf hs0,k2]
            simp [addr_add]
        · cases h
      · cases h
    · cases h
  · cases h

theorem extract_toList'(s:ByteArray)(a b:Nat):(s.extract a b).data.toList=(s.data.toList.drop a).take (b - a):=by
  rw [ByteArray.data_extract,Array.toList_extract]
theorem sound_strIdx (hM:RelM w ρ m) (hT:RelT w ρ m t a) {T:TypeId} {x ix:Operand} (ho:o.op= .index T x ix) (h:evStrIdx P T (evO t x) (evO t ix)=some (p,v)) (hp:p):OpOk P w ρ m a o v m:=by
  have hx:=evO_rel hT x
  have hix:=evO_rel hT ix
  unfold evStrIdx at h
  generalize he:a.eval x=ex at hx
  generalize hei:a.eval ix=ei at hix
  split at h
  · rename_i k n s hvi hv
    rw [hvi] at hix
    rw [hv] at hx
    cases hix
    cases hx with
    | str _ b hb=>
      split at h
      · rename_i hs
        split at h
        · rename_i c hc
          simp only [Option.some.injEq,Prod.mk.injEq] at h
          obtain⟨rfl,rfl⟩:=h
          have hu:P.underlying T=some .string:=by
            unfold strT at hs
            split at hs
            · rename_i hu;exact hu
            · cases hs
          refine opok_pure hM (x:= .int .u8 c.toNat) ?_ (.int _ _)
          have hget:b[n.toNat]?=some c:=by
            rw [←hb] at hc
            have h1:n.toNat<b.data.toList.length:=(List.getElem?_eq_some_iff.1 hc).1
            have h2:n.toNat<b.size:=by simpa using h1
            have h3:b[n.toNat]?=some b[n.toNat]:=getElem?_pos b n.toNat h2
            rw [h3]
            rw [List.getElem?_eq_getElem h1] at hc
            have:=Option.some.inj hc
            rw [←this]
            rfl
          simp only [execOp,ho,he,hei]
          exact run_v (by simp only [Instr.index,asIntOf,Sem.run_bind,Sem.run_pure,Result.andThen_ok,run_underlying hu,if_pos hp,hget])
        · cases h
      · cases h
  · cases h
theorem sound_strSlice (hM:RelM w ρ m) (hT:RelT w ρ m t a) {T:TypeId} {x:Operand} {lo hi:Option Operand} (ho:o.op= .slice T x lo hi none) (h:evStrSlice P t T x lo hi=some (p,v)) (hp:p):OpOk P w ρ m a o v m:=by
  have hx:=evO_rel hT x
  unfold evStrSlice at h
  generalize he:a.eval x=ex at hx
  split at h
  · rename_i s hv
    rw [hv] at hx
    split at h
    · rename_i l hh' hs hl hh
      simp only [Option.some.injEq,Prod.mk.injEq] at h
      obtain⟨rfl,rfl⟩:=h
      obtain⟨p0,p1,p2⟩:=hp
      cases hx with
      | str _ b hb=>
        have hz:b.size=s.length:=congrArg List.length hb
        have hu:P.underlying T=some .string:=by
          unfold strT at hs
          split at hs
          · assumption
          · cases hs
        rw [←hz] at hh
        refine opok_pure hM (x:= .string (b.extract l.toNat hh'.toNat)) ?_ (.str _ _ ?_)
        · simp only [execOp,ho,he,Option.map_none]
          refine run_v ?_
          have hr:=run_sliceBounds (P:=P) (b:=false) (cap:=b.size) hM hT hl hh p0 p1 (by omega) (Nat.le_refl _)
          simp only [Instr.sliceAt,Sem.run_bind,run_underlying hu,Result.andThen_ok,Instr.slice]
          simp [hr]
        · rw [extract_toList',hb]
          congr 1;omega
    · cases h
  · cases h
end
end Go.Proofs.YtomkbpoicjabfaaGreatDoor
namespace Go.Proofs.YtomkbpoicjabfaaGreatDoor
open Go.RowKit
section
variable {P:Program} {w:World} {ρ:List Re} {m:Mem} {a:Act} {t:List (Nat×V)} {o:Oper} {v:V} {m':Mem} {p:Prop}

theorem parts_rel(hM:RelM w ρ m)(hT:RelT w ρ m t a)(parts:Array (Nat×Operand)):(parts.toList.map fun(i,x)=>(i,evO t x)).length=(parts.toList.map fun(i,x)=>(i,a.eval x)).length∧
    ∀ (j:Nat) v x,(parts.toList.map fun(i,x)=>(i,evO t x))[j]?=some v→(parts.toList.map fun(i,x)=>(i,a.eval x))[j]?=some x→v.1=x.1∧RelV w ρ (bad m ρ) v.2 x.2:=by
  refine⟨by simp,fun j v x h1 h2=>?_⟩
  simp only [List.getElem?_map,Option.map_eq_some_iff] at h1 h2
  obtain⟨q1,g1,rfl⟩:=h1
  obtain⟨q2,g2,rfl⟩:=h2
  rw [g1] at g2
  cases g2
  exact⟨rfl,evO_rel hT _⟩

theorem zero_rel{zs:List V}{E:TypeId}(hz:zeT P E=some zs):∃ i z,P.info? E=some i∧i.zero=some z∧zs.length=z.cells.size∧∀ (j:Nat) c y,zs[j]?=some c→z.cells[j]?=some y→RelV w ρ (bad m ρ) c y:=by
  obtain⟨i,z,hi,hz',rfl,hone⟩:=zeT_spec hz
  refine⟨i,z,hi,hz',by simp,fun j c y h1 h2=>?_⟩
  rw [List.getElem?_map] at h1
  have:z.cells.toList[j]?=some y:=by simpa using h2
  rw [this] at h1
  cases h1
  exact ofC_rel _ _ _ _

theorem fill_mono {place place':Nat→Option (Nat×Nat)} (hp:∀ i q,place i=some q→place' i=some q):∀ (xs:List (Nat×Value)) (ys ys':Array Value),Instr.fill place ys xs=some ys'→Instr.fill place' ys xs=some ys'
  |[],_,_,h=>h
  | (i, x)::xs,ys,ys',h=>by
    simp only [Instr.fill] at h ⊢
    split at h
    · cases h
    · rename_i off size hpl
      rw [hp i _ hpl]
      simp only
      split at h
      · cases h
      · rename_i hc
        rw [if_neg hc]
        exact fill_mono hp xs _ _ h

theorem run_places {fs:List Field} (h:∀ f∈fs,(P.info? f.type).isSome=true):(fs.mapM (fun f=>do pure (f.offset,←sizeOf f.type):Field→Sem (Nat×Nat))).run P w= .ok (fs.map fun f=>(f.offset,szT P f.type)) w:=by
  induction fs with
  |nil=>simp
  | cons f fs ih=>
    have hf:=h f List.mem_cons_self
    cases hi:P.info? f.type with
    |none=>rw [hi] at hf;cases hf
    | some i=>
      have hsz:(sizeOf f.type).run P w= .ok (szT P f.type) w:=by
        simp [sizeOf,typeInfo,hi,szT,Program.cellsOf,go_sem]
      simp only [List.mapM_cons,Sem.run_bind,Sem.run_pure,Result.andThen_ok,hsz,ih (fun g hg=>h g (List.mem_cons_of_mem _ hg)),List.map_cons]

theorem sound_build (hM:RelM w ρ m) (hT:RelT w ρ m t a) {T:TypeId} {parts:Array (Nat×Operand)} (ho:o.op= .build T parts) (h:evOp P t m (.build T parts)=some (p,v,m')):OpOk P w ρ m a o v m':=by
  simp only [evOp] at h
  split at h
  · rename_i zs hz
    obtain⟨i,z,hi,hz',hl,hr⟩:=zero_rel (w:=w) (ρ:=ρ) (m:=m) hz
    obtain⟨p1,p2⟩:=parts_rel hM hT parts
    have hzero:(zeroValue T).run P w= .ok z w:=by simp [zeroValue,typeInfo,hi,hz',go_sem]
    have hpl:(Array.map (fun x=>(x.fst,a.eval x.snd)) parts).toList=parts.toList.map fun(i,x)=>(i,a.eval x):=by simp
    split at h
    · rename_i n E hE
      split at h
      · rename_i hsz
        split at h
        · rename_i cs hf
          simp only [okR,Option.some.injEq,Prod.mk.injEq] at h
          obtain⟨_,rfl,rfl⟩:=h
          obtain⟨ys,h1,h2,h3⟩:=fillV_sound _ _ zs z.cells cs hl hr p1 p2 hf
          refine opok_pure hM (x:= .agg ys) ?_ (.agg _ _ h2 h3)
          simp only [execOp,ho]
          refine run_v ?_
          simp only [Instr.build,Sem.run_bind,hzero,Result.andThen_ok,run_underlying (arT_spec hE),run_sizeOf hsz,hpl,h1,Sem.run_pure]
        · cases h
      · cases h
    · rename_i hE
      split at h
      · rename_i hst
        split at h
        · rename_i cs hf
          simp only [okR,Option.some.injEq,Prod.mk.injEq] at h
          obtain⟨_,rfl,rfl⟩:=h
          obtain⟨ys,h1,h2,h3⟩:=fillV_sound _ _ zs z.cells cs hl hr p1 p2 hf
          refine opok_pure hM (x:= .agg ys) ?_ (.agg _ _ h2 h3)
          simp only [execOp,ho]
          refine run_v ?_
          unfold stT at hst
          split at hst
          · rename_i fs hu
            have hall:∀ f∈fs.toList,(P.info? f.type).isSome=true:=fun f hf=>List.all_eq_true.1 hst f hf
            have hpls:=run_places (P:=P) (w:=w) hall
            have hplA:(fs.mapM (fun f=>do pure (f.offset,←sizeOf f.type):Field→Sem (Nat×Nat))).run P w= .ok (fs.map fun f=>(f.offset,szT P f.type)) w:=by
              rw [Array.mapM_eq_mapM_toList]
              show Sem.run P ((fs.toList.mapM (fun f=>do pure (f.offset,←sizeOf f.type):Field→Sem (Nat×Nat))) >>= fun l=>pure l.toArray) w=_
              rw [Sem.run_bind,hpls]
              simp only [Result.andThen_ok,Sem.run_pure]
              congr 1
              apply Array.toList_inj.1
              simp
            have h1':Instr.fill (fun x=>(fs.map fun f=>(f.offset,szT P f.type))[x]?) z.cells (parts.toList.map fun(i,x)=>(i,a.eval x))=some ys:=by
              refine fill_mono (fun i q hq=>?_) _ _ _ h1
              simp only [Option.map_eq_some_iff] at hq
              obtain⟨⟨off,ft⟩,hq1,rfl⟩:=hq
              obtain⟨fs',f,g1,g2,g3,g4,g5⟩:=fdT_spec hq1
              rw [hu] at g1
              cases g1
              rw [Array.getElem?_map,g2]
              simp [g3,g4]
            simp only [Instr.build,Sem.run_bind,hzero,Result.andThen_ok,run_underlying hu,hplA,hpl,h1',Sem.run_pure]
          · cases hst
        · cases h
      · cases h
  · cases h

theorem repL_get{zs:List V}{n q:Nat}(hq:q<n * zs.length):(repL n zs)[q]?=zs[q % zs.length]?:=by
  unfold repL
  induction n generalizing q with
  |zero=>simp at hq
  | succ n ih=>
    rw [List.replicate_succ,List.flatten_cons]
    rcases Nat.lt_or_ge q zs.length with h|h
    · rw [List.getElem?_append_left h,Nat.mod_eq_of_lt h]
    · rw [List.getElem?_append_right h]
      rw [Nat.succ_mul] at hq
      rw [ih (by omega),Nat.mod_eq_sub_mod h]

theorem cellsV_one{v:V}{xs:List V}(h:cellsV v=some xs):∀ c∈xs,c.one=true:=by
  unfold cellsV at h
  split at h
  · split at h
    · rename_i hall;cases h;exact fun c hc=>List.all_eq_true.1 hall c hc
    · cases h
  · split at h
    · rename_i ho;cases h;intro c hc;simp at hc;subst hc;exact ho
    · cases h
theorem fillV_len {place:Nat→Option (Nat×Nat)}:∀ (vs:List (Nat×V)) (cs cs':List V),fillV place cs vs=some cs'→cs'.length=cs.length∧((∀ c∈cs,c.one=true)→∀ c∈cs',c.one=true)
  |[],cs,cs',h=>by cases h;exact⟨rfl,fun h=>h⟩
  | (i, v)::vs,cs,cs',h=>by
    simp only [fillV] at h
    split at h
    · rename_i off size xs hpl hxs
      split at h
      · rename_i hc
        obtain⟨h1,h2⟩:=fillV_len vs _ cs' h
        refine⟨by rw [h1];simp [setAt];omega,fun ha=>h2 (fun c hc'=>?_)⟩
        unfold setAt at hc'
        rcases List.mem_append.1 hc' with q|q
        · rcases List.mem_append.1 q with q|q
          · exact ha c (List.mem_of_mem_take q)
          · exact cellsV_one hxs c q
        · exact ha c (List.mem_of_mem_drop q)
      · cases h
    · cases h

theorem sound_buildSlice (hM:RelM w ρ m) (hT:RelT w ρ m t a) {T:TypeId} {n:Nat} {parts:Array (Nat×Operand)} (ho:o.op= .buildSlice T n parts) (h:evBuildSl P t m T n parts=some (p,v,m')):OpOk P w ρ m a o v m':=by
  unfold evBuildSl at h
  split at h
  · rename_i E hE
    split at h
    · rename_i zs hz
      split at h
      · rename_i hc
        obtain⟨hsm,hcap,hn⟩:=hc
        split at h
        · rename_i cs hf
          simp only [Option.some.injEq,Prod.mk.injEq] at h
          obtain⟨_,rfl,rfl⟩:=h
          obtain⟨i,z,hi,hz',his,hzs,hs0,hby,hz1⟩:=smT_spec hsm
          obtain⟨i',z',hi',hz'',hl,hr⟩:=zero_rel (w:=w) (ρ:=ρ) (m:=m) hz
          rw [hi] at hi'
          cases hi'
          rw [hz'] at hz''
          cases hz''
          obtain⟨_,_,_,_,hzz,hone⟩:=zeT_spec hz
          obtain⟨p1,p2⟩:=parts_rel hM hT parts
          have hzsz:z.cells.size=szT P E:=by omega
          have hzl:zs.length=szT P E:=by omega
          have hmade:madeCells z.cells (n * szT P E)=(Array.range (n * szT P E)).map (z.cells[· % z.cells.size]!):=rfl
          have hrl:(repL n zs).length=n * szT P E:=by simp [repL,hzl]
          obtain⟨ys,h1,h2,h3⟩:=fillV_sound _ _ (repL n zs) (madeCells z.cells (n * szT P E)) cs (by rw [hrl,size_madeCells]) (fun j c y a1 a2=>by
            have hj:j<n * szT P E:=by rw [←hrl];exact(List.getElem?_eq_some_iff.1 a1).1
            rw [repL_get (by rw [hzl];exact hj),hzl] at a1
            have hjm:j % szT P E<z.cells.size:=by rw [hzsz];exact Nat.mod_lt _ hs0
            have hy:y=z.cells[j % szT P E]:=by
              simp [madeCells,hj,hzsz,Nat.mod_lt _ hs0] at a2
              rw [←a2]
            exact hr (j % szT P E) c y a1 (by rw [hy];simp [hjm])) p1 p2 hf
          obtain⟨hcsl0,hone0⟩:=fillV_len _ _ _ hf
          have hone':∀ (j:Nat) c,cs[j]?=some c→c.one=true:=fun j c hj=>hone0 (fun c' hc'=>by
            unfold repL at hc'
            obtain⟨l,hl1,hl2⟩:=List.mem_flatten.1 hc'
            rw [(List.mem_replicate.1 hl1).2,hzz] at hl2
            obtain⟨c0,g1,rfl⟩:=List.mem_map.1 hl2
            exact hone c0 (by rw [hz'] at *;simp_all)) c (List.mem_of_getElem? hj)
          have hcsl:cs.length=n * szT P E:=hcsl0.trans hrl
          have hb:Below w.heap.size w (w.alloc (.cells ys E)):=(Below.refl _ _).alloc (Nat.le_refl _) _
          have hchl:(chunks n (szT P E) cs).length=n:=by simp [chunks]
          have hch:∀ i' e',(chunks n (szT P E) cs)[i']?=some e'→i'<n∧e'=(cs.drop (i' * szT P E)).take (szT P E):=by
            intro i' e' h1
            have hi':i'<n:=by have:=(List.getElem?_eq_some_iff.1 h1).1;omega
            unfold chunks at h1
            rw [List.getElem?_map,List.getElem?_range hi'] at h1
            simp at h1
            exact⟨hi',h1.symm⟩
          have hM':=hM.push hb w.heap.size n E (szT P E) (chunks n (szT P E) cs) ys (Nat.le_refl _) hs0 (heap_alloc_new w _) (by omega) (by omega) (by unfold maxLen;omega) (fun e' he'=>by
            obtain⟨i',hi'⟩:=List.getElem?_of_mem he'
            obtain⟨hi'',rfl⟩:=hch i' e' hi'
            have:(i'+1) * szT P E≤n * szT P E:=Nat.mul_le_mul_right _ hi''
            rw [Nat.succ_mul] at this
            simp;omega) (fun i' j e' u a1 a2=>by
            obtain⟨hi'',rfl⟩:=hch i' e' a1
            obtain⟨hj,a2⟩:=sub_get a2
            have hlt:i' * szT P E+j<ys.size:=by rw [←h2];exact(List.getElem?_eq_some_iff.1 a2).1
            have hy:ys[i' * szT P E+j]?=some ys[i' * szT P E+j]:=Array.getElem?_eq_getElem hlt
            exact⟨hone' _ _ a2,_,hy,h3 _ _ _ a2 hy⟩)
          have af:=After.of_push hM hb (Nat.le_refl _) hM'
          have rv:=RelV.sl (w:=w.alloc (.cells ys E)) (ρ:=ρ++[⟨w.heap.size,n,szT P E⟩]) (B:=bad (m++[.cells .own E (szT P E) (chunks n (szT P E) cs)]) (ρ++[⟨w.heap.size,n,szT P E⟩])) m.length n ⟨w.heap.size,n,szT P E⟩ (by rw [←hM.len];simp) (Nat.le_refl _) (by show n≤maxLen;unfold maxLen;omega)
          refine⟨_,_,_,?_,af,.inl ⟨_,rfl,rv⟩,by simp [isPure,ho],fun _=>hb⟩
          simp only [execOp,ho]
          refine run_v ?_
          have hpl:(Array.map (fun x=>(x.fst,a.eval x.snd)) parts).toList=parts.toList.map fun(i,x)=>(i,a.eval x):=by simp
          have hfill:Instr.fill (fun i=>some (i * szT P E,szT P E)) ((Array.range (n * szT P E)).map ((if n * szT P E=0 then #[] else z.cells)[· % (if n * szT P E=0 then #[] else z.cells).size]!)) (parts.toList.map fun(i,x)=>(i,a.eval x))=some ys:=by
            by_cases hn0:n * szT P E=0
            · have e1:madeCells z.cells (n * szT P E)= #[]:=by rw [hn0];simp [madeCells]
              have e2:((Array.range (n * szT P E)).map ((if n * szT P E=0 then #[] else z.cells)[· % (if n * szT P E=0 then #[] else z.cells).size]!))=(#[]:Array Value):=by
                apply Array.eq_empty_of_size_eq_zero
                simp [hn0]
              rw [e1] at h1
              rw [e2];exact h1
            · rw [if_neg hn0];exact h1
          have hlim:¬ (n * szT P E>2 ^ 24):=by omega
          have hzv:(zeroValue E).run P w= .ok z w:=by simp [zeroValue,typeInfo,hi,hz',go_sem]
          have hnew:∀ c:Array Value,(newRow E c).run P w= .ok ⟨w.heap.size,0,none⟩ (w.alloc (.cells c E)):=fun c=>by simp [newRow,go_sem]
          by_cases hn0:n * szT P E=0
          · simp only [if_pos hn0] at hfill
            simp only [Instr.buildSlice,Sem.run_bind,run_underlying (slT_spec hE),Result.andThen_ok,run_sizeOf hs0,if_neg hlim,if_pos hn0,Sem.run_pure,hpl,hfill,hnew]
          · simp only [if_neg hn0] at hfill
            simp only [Instr.buildSlice,Sem.run_bind,run_underlying (slT_spec hE),Result.andThen_ok,run_sizeOf hs0,if_neg hlim,if_neg hn0,hzv,Sem.run_pure,hpl,hfill,hnew]
        · cases h
      · cases h
    · cases h
  · cases h
end
end Go.Proofs.YtomkbpoicjabfaaGreatDoor
namespace Go.Proofs.YtomkbpoicjabfaaGreatDoor
open Go.RowKit

theorem evA_sound {P:Program} {w:World} {ρ:List Re} {m:Mem} {a:Act} {t:List (Nat×V)} {o:Oper} {v:V} {m':Mem} {p:Prop}
    (hM:RelM w ρ m) (hT:RelT w ρ m t a) (h:evA P t m o.op=some (p,v,m')) (hp:p):OpOk P w ρ m a o v m':=by
  have base:evOp P t m o.op=some (p,v,m')→OpOk P w ρ m a o v m':=by
    intro h
    cases ho:o.op<;>rw [ho] at h
    case move x=>cases h;exact sound_move hM hT (.inl ho)
    case assign x=>cases h;exact sound_move hM hT (.inr ho)
    case pick c x y=>
      simp only [evOp] at h
      split at h
      · rename_i b hb
        cases h
        exact sound_pick hM hT ho hb
      · cases h
    case alloc T=>exact sound_alloc hM ho h
    case box T x=>exact sound_box hM hT ho h
    case build T parts=>exact sound_build hM hT ho h
    case load T x=>exact sound_load hM hT ho h
    case store T x y=>exact sound_store hM hT ho h
    case binOp op T x y T'=>exact sound_bin hM hT ho h hp
    case unOp op T x=>exact sound_un hM hT ho h
    case extract x i=>exact sound_extract hM hT ho h
    case nilCheck x=>exact sound_nilCheck hM hT ho h
    case fieldAddr T x j=>exact sound_fieldAddr hM hT ho h
    case field T x j=>exact sound_field hM hT ho h
    case indexAddr T x ix=>exact sound_indexAddr hM hT ho h hp
    case index T x ix=>exact sound_index hM hT ho h hp
    case makeFunc fn f c=>cases h;exact sound_makeFunc hM hT ho
    all_goals cases h
  unfold evA at h
  split at h
  · rename_i T l c ho
    exact sound_makeSlice hM hT ho h hp
  · rename_i T n parts ho
    exact sound_buildSlice hM hT ho h
  · rename_i T x lo hi ho
    split at h
    · rename_i p' v' hs
      cases h
      exact sound_strSlice hM hT ho hs hp
    · exact sound_slice hM hT ho h hp
  · rename_i T x ix ho
    split at h
    · rename_i p' v' hs
      cases h
      exact sound_strIdx hM hT ho hs hp
    · exact base (by rw [ho];exact h)
  · rename_i S D x ho
    split at h
    · rename_i k0 k n h1 h2 h3
      cases h
      exact sound_convert hM hT ho h2 h3 h1
    · cases h
  · rename_i x T ho
    simp only [okO] at h
    split at h
    · rename_i u hu;cases h;exact sound_len hM hT ho hu
    · cases h
  · rename_i x y ts ho
    simp only [okO] at h
    split at h
    · rename_i u hu;cases h;exact sound_max hM hT ho hu
    · cases h
  · rename_i x y ts ho
    simp only [okO] at h
    split at h
    · rename_i u hu;cases h;exact sound_min hM hT ho hu
    · cases h
  · rename_i s x T T' ho
    split at h
    · rename_i e
      subst e
      exact sound_append hM hT ho h hp
    · cases h
  · rename_i op T x y T' ho
    split at h
    · rename_i u hu
      cases h
      obtain⟨z,hr,hv⟩:=evEq_sound (P:=P) (X:=x) (Y:=y) hu (evO_rel hT x) (evO_rel hT y)
      refine opok_pure hM (x:=z) ?_ hv
      simp only [execOp,ho]
      exact run_v hr
    · exact base (by rw [ho];exact h)
  · exact base h

/-- empty records of deferred calls, made since the heap had z blocks, are shut -/
structure Shut(z:Nat)(w w':World):Prop where
  os:w'.os=w.os
  tape:w'.tape=w.tape
  output:w'.output=w.output
  size:w'.heap.size=w.heap.size
  block:∀ k,w'.heap[k]?=w.heap[k]?∨(z≤k∧∃ x,w.heap[k]?=some (.deferred x))
theorem Shut.refl(z:Nat)(w:World):Shut z w w:=⟨rfl,rfl,rfl,rfl,fun _=> .inl rfl⟩
theorem Shut.same{z:Nat}{w w':World}(h:Shut z w w'){k:Nat}{o:Obj}(ho:w.heap[k]?=some o)(hd:∀ d,o≠ .deferred d):w'.heap[k]?=w.heap[k]?:=by
  rcases h.block k with q|⟨_,x,q⟩
  · exact q
  · rw [ho] at q;cases q;exact(hd x rfl).elim
theorem Shut.cell{z:Nat}{w w':World}(h:Shut z w w'){a:Addr}{v:Value}(hc:w.cell? a=some v):w'.cell? a=some v:=by
  rcases h.block a.block with q|⟨_,x,q⟩
  · rw [←hc];exact World.cell?_of_block (w:=w) q
  · simp [World.cell?,q] at hc
theorem RelV.shut{z:Nat}{w w':World}(hs:Shut z w w'){ρ:List Re}{B:Nat→Prop}{v:V}{x:Value}(h:RelV w ρ B v x):RelV w' ρ B v x:=by
  induction h with
  |any x=>exact .any x
  |int k n=>exact .int k n
  |bool b=>exact .bool b
  |str s b h=>exact .str s b h
  |nilptr=>exact .nilptr
  |nilsl=>exact .nilsl
  |lnil a c hc ha=>exact .lnil a c hc ha
  |nilmap=>exact .nilmap
  |nilfn=>exact .nilfn
  |nilif=>exact .nilif
  |ifv t x=>exact .ifv t x
  |anyi k n=>exact .anyi k n
  |tab xs b ty o hb hB' h=>exact .tab xs b ty o (by rw [hs.size];exact hb) hB' ((hs.same h (by simp)).trans h)
  |agg cs xs hl _ ih=>exact .agg cs xs hl ih
  |tup cs xs hl _ ih=>exact .tup cs xs hl ih
  |lst es b off c s Y hb hB' hc hm hs' hY _ hO ih=>exact .lst es b off c s Y (by rw [hs.size];exact hb) hB' hc hm hs' (fun i j e v h1 h2=>hs.cell (hY i j e v h1 h2)) ih hO
  |bp cs o b off Y hb hB' hY _ hO ih=>exact .bp cs o b off Y (by rw [hs.size];exact hb) hB' (fun j v h1=>hs.cell (hY j v h1)) ih hO
  |ptr b i o r hr=>exact .ptr b i o r hr
  |sl b n r hr hn hm=>exact .sl b n r hr hn hm
  |mp b r hr=>exact .mp b r hr
  |clo fn f1 c1 f2 c2 hf hc _ _ ih1 ih2=>exact .clo fn f1 c1 f2 c2 hf hc ih1 ih2
theorem RelM.shut{z:Nat}{w w':World}(hs:Shut z w w'){ρ:List Re}{m:Mem}(h:RelM w ρ m):RelM w' ρ m where
  len:=h.len
  cells:=fun b wr ty sz es hm=>by
    obtain⟨r,cur,h1,h2,h3,h4,h5,h6,h7,h8,h9⟩:=h.cells b wr ty sz es hm
    refine⟨r,cur,h1,h2,h3,(hs.same h4 (by simp)).trans h4,h5,h6,h7,h8,fun i j e v a1 a2=>?_⟩
    obtain⟨b1,y,b2,b3⟩:=h9 i j e v a1 a2
    exact⟨b1,y,b2,b3.shut hs⟩
  inj:=h.inj
  objs:=fun b st vs φ hm=>by
    obtain⟨r,h1,o,xs,g1,g2,g3,g4,g5⟩:=h.objs b st vs φ hm
    exact⟨r,h1,o,xs,(hs.same g1 g2).trans g1,g2,g3,g4,fun i v x a1 a2=>(g5 i v x a1 a2).shut hs⟩
  glob:=h.glob.mono fun v x h3=>h3.shut hs
theorem After.shut{w w' w'':World}{ρ ρ':List Re}{m m':Mem}(af:After w ρ m w' ρ' m')(h:Shut w.heap.size w' w''):After w ρ m w'' ρ' m':=by
  refine⟨⟨h.os.trans af.keep.os,h.tape.trans af.keep.tape,h.output.trans af.keep.output,by rw [h.size];exact af.keep.size,fun k hk hn=>?_⟩,af.pre,af.mem.shut h,af.own,af.bd⟩
  rcases h.block k with q|⟨q,_⟩
  · exact q.trans (af.keep.block k hk hn)
  · omega

/-- what a walk's frame is: how many blocks there were at its start; the loop whose round it is -/
structure Zr where
  n:Nat
  l:Option Nat
/-- the loop whose round is walked: its record is there, and it is not ours -/
def RnR(z:Zr)(w:World)(ρ:List Re)(m:Mem):Prop:=∀ l,z.l=some l→∃ lo:Loop,w.heap[l]?=some (.loop lo)∧¬ owned m ρ l
theorem RnR.after{z:Zr}{w w':World}{ρ ρ':List Re}{m m':Mem}(h:RnR z w ρ m)(af:After w ρ m w' ρ' m'):RnR z w' ρ' m':=
  fun l hl=>let ⟨lo,h1,h2⟩:=h l hl;⟨lo,(af.keep.block l (heap_lt h1) h2).trans h1,fun ho=>h2 (af.own l (heap_lt h1) ho)⟩
/-- deferred calls: empty records of ranges over functions alone, made since the heap had z blocks -/
def DfR(z:Zr)(w:World)(ρ:List Re)(m:Mem)(ds:List Deferred):Prop:=
  (z.n≤w.heap.size∧RnR z w ρ m)∧ds.Nodup∧∀ d∈ds,∃ D,d={ target:= .collected D,args:= #[] }∧z.n≤D∧w.heap[D]?=some (.deferred (some []))∧¬ owned m ρ D
theorem DfR.after{z:Zr}{w w':World}{ρ ρ':List Re}{m m':Mem}{ds:List Deferred}(h:DfR z w ρ m ds)(af:After w ρ m w' ρ' m'):DfR z w' ρ' m' ds:=
  ⟨⟨Nat.le_trans h.1.1 af.keep.size,h.1.2.after af⟩,h.2.1,fun d hd=>let ⟨D,h1,h2,h3,h4⟩:=h.2.2 d hd;⟨D,h1,h2,(af.keep.block D (heap_lt h3) h4).trans h3,fun ho=>h4 (af.own D (heap_lt h3) ho)⟩⟩
theorem DfR.nil{n:Nat}{w:World}{ρ:List Re}{m:Mem}(h:n≤w.heap.size):DfR ⟨n,none⟩ w ρ m []:=⟨⟨h,fun l hl=>by cases hl⟩,List.nodup_nil,fun d hd=>by cases hd⟩
theorem DfR.sub{z:Zr}{w:World}{ρ ρ':List Re}{m m':Mem}{ds:List Deferred}(h:DfR z w ρ m ds)(ho:∀ k,owned m' ρ' k→owned m ρ k):DfR z w ρ' m' ds:=
  ⟨⟨h.1.1,fun l hl=>let ⟨lo,h1,h2⟩:=h.1.2 l hl;⟨lo,h1,fun q=>h2 (ho l q)⟩⟩,h.2.1,fun d hd=>let ⟨D,h1,h2,h3,h4⟩:=h.2.2 d hd;⟨D,h1,h2,h3,fun q=>h4 (ho D q)⟩⟩
theorem put_defers(a:Act)(d:Option Nat)(x:Value):(a.put d x).defers=a.defers:=by cases d<;>rfl

theorem Shut.putObj{z:Nat}{w:World}{D:Nat}{x:Option (List Deferred)}(hz:z≤D)(hD:w.heap[D]?=some (.deferred x))(y:Option (List Deferred)){w':World}(h:Shut z (w.putObj D (.deferred y)) w'):Shut z w w':=by
  refine⟨h.os,h.tape,h.output,by rw [h.size];simp,fun k=>?_⟩
  by_cases e:k=D
  · subst e;exact .inr ⟨hz,x,hD⟩
  · have hk:(w.putObj D (.deferred y)).heap[k]?=w.heap[k]?:=World.putObj_heap_other e
    rcases h.block k with q|⟨q,x',q'⟩
    · exact .inl (q.trans hk)
    · exact .inr ⟨q,x',hk.symm.trans q'⟩
theorem leaves_marks{F:Fence}{n:Nat}{P:Program}{fn:Func}{tmps:Array Value}{R:Ending→World→Prop}{z:Nat}:∀ (ds:List Deferred) (w:World),ds.Nodup→
    (∀ d∈ds,∃ D,d={ target:= .collected D,args:= #[] }∧z≤D∧w.heap[D]?=some (.deferred (some [])))→
    (∀ w',Shut z w w'→∃ v,(results fn tmps).run P w'= .ok v w'∧R (.returned v) w')→LeavesInM F n P fn tmps R ds .returning w
  |[],w,_,_,h=>h w (Shut.refl z w)
  | d::ds,w,hn,hd,h=>by
    obtain⟨D,rfl,h2,h3⟩:=hd d (List.mem_cons_self)
    refine⟨by simp,.inl ⟨D,w.putObj D (.deferred none),rfl,run_takeDeferred h3,?_⟩⟩
    refine leaves_marks ds _ (List.nodup_cons.1 hn).2 (fun d' hd'=>?_) fun w' hw'=>h w' (hw'.putObj h2 h3)
    obtain⟨D',rfl,k2,k3⟩:=hd d' (List.mem_cons_of_mem _ hd')
    refine⟨D',rfl,k2,(World.putObj_heap_other fun e=>?_).trans k3⟩
    subst e
    exact(List.nodup_cons.1 hn).1 hd'

def lendB:Blk→Blk
  | .cells .ro ty sz es=> .cells .ro ty sz es
  | .cells _ ty sz es=> .cells .lent ty sz es
  | .obj .ro vs φ=> .obj .ro vs φ
  | .obj _ vs φ=> .obj .lent vs φ
  | .dead=> .dead
/-- a caller's memory, as a call sees it that writes none of it -/
def lend(m:Mem):Mem:=m.map lendB

structure Rel(N:Nat)(z:Zr)(w:World)(ρ:List Re)(m:Mem)(t:List (Nat×V))(a:Act):Prop where
  mem:RelM w ρ m
  tm:RelT w ρ m t a
  size:a.tmps.size=N
  defers:DfR z w ρ m a.defers

def RelAs(w:World)(ρ:List Re)(m:Mem)(vs:List V)(xs:Array Value):Prop:=
  vs.length=xs.size∧∀ (i:Nat) v x,vs[i]?=some v→xs[i]?=some x→RelV w ρ (bad m ρ) v x

def isGo(P:Program)(f:FuncId):Bool:=match P.funcs[f]? with
  |some fn=>!(fn.name== "runtime.NumGoroutine") && fn.body.isSome
  |none=>false

/-- a call: its result, and the memory behind it (none: nothing that was there has turned, and nothing new is looked at) -/
def CallA (P:Program) (f:FuncId) (args:List V) (m:Mem) (R:V→Option Mem→Prop):Prop:=
  isGo P f=true∧∀ (w:World) (ρ:List Re) (xs:Array Value),RelM w ρ m→RelAs w ρ m args xs→
    Calls P f xs w (fun e w'=>∃ v mo x,e= .returned x∧R v mo∧
      ((mo=none∧Below w.heap.size w w'∧RelV w' ρ (bad m ρ) v x)∨∃ m' ρ',mo=some m'∧After w ρ m w' ρ' m'∧RelV w' ρ' (bad m' ρ') v x))

theorem CallA.mono{P:Program}{f:FuncId}{args:List V}{m:Mem}{R R':V→Option Mem→Prop}(h:CallA P f args m R)(hR:∀ v mo,R v mo→R' v mo):CallA P f args m R':=
  ⟨h.1,fun w ρ xs hM hA=>(h.2 w ρ xs hM hA).mono fun _ _ ⟨v,mo,x,h1,h2,h3⟩=>⟨v,mo,x,h1,hR v mo h2,h3⟩⟩

/-- the usual contract: this result, and nothing else is to be seen -/
def Gives(P:Program)(f:FuncId)(args:List V)(m:Mem)(v:V):Prop:=CallA P f args m fun v' mo=>v'=v∧mo=none

/-- a fence that lets everything in (a round of a range over a function may be walked within it) -/
structure Free(F:Fence):Prop where
  fn:∀ f,F.fn f
  depth:F.depth=none
  alive:F.alive=false
theorem Free.wide:Free Fence.wide:=⟨fun _=>trivial,rfl,rfl⟩
theorem Free.fenced{F:Fence}(h:Free F)(P:Program)(m:Machine):m.fenced P F:=by
  intro g _
  exact⟨fun e=>(by rw [h.alive] at e;cases e),.inl (h.fn _),fun f _=>h.fn f,fun d hd=>(by rw [h.depth] at hd;cases hd)⟩
theorem Free.room{F:Fence}(h:Free F)(n:Nat):F.room n:=fun d hd=>by rw [h.depth] at hd;cases hd
theorem Free.inRound{F:Fence}(h:Free F)(l:Nat):Free (F.inRound l):=⟨h.fn,h.depth,h.alive⟩
theorem Free.calls{F:Fence}(h:Free F){n:Nat}{P:Program}{f:FuncId}{args:Array Value}{w:World}{R:Ending→World→Prop}(hc:Calls P f args w R):CallsIn F n P f args w R:=by
  have hc:=(callsIn_wide (n:=n)).2 hc
  refine⟨h.fn f,fun cs _=>?_⟩
  obtain⟨e,w',fr,r,s,x⟩:=hc.2 cs (room_wide _)
  refine⟨e,w',fr,r,?_,x⟩
  cases e with
  |returned v=>exact StepsIn.mono (fun m _=>h.fenced P m) s
  |panicked ch=>exact StepsIn.mono (fun m _=>h.fenced P m) s
  |outgrown=>exact s
/-- a round of loop l, as its yield is called: what CallA says of a function -/
def YieldA (P:Program) (l:Nat) (args:List V) (m:Mem) (R:V→Option Mem→Prop):Prop:=
  ∀ (F:Fence),Free F→∀ (w:World) (ρ:List Re) (xs:Array Value),RelM w ρ m→RelAs w ρ m args xs→
    ∃ fn tmps assign body,(Instr.yield l xs).run P w= .ok (.round l fn tmps assign body) w∧RoundIn F 0 P l fn tmps assign body w (fun e w'=>∃ v mo x,e= .returned x∧R v mo∧
      ((mo=none∧Below w.heap.size w w'∧RelV w' ρ (bad m ρ) v x)∨∃ m' ρ',mo=some m'∧After w ρ m w' ρ' m'∧RelV w' ρ' (bad m' ρ') v x))
theorem RoundIn.free{F:Fence}(hF:Free F){n k:Nat}{P:Program}{l:Nat}{f:FuncId}{tmps:Array Value}{assign body:Code}{w:World}{R:Ending→World→Prop}(h:RoundIn F n P l f tmps assign body w R):RoundIn F k P l f tmps assign body w R:=
  ⟨h.1,fun c cs _=>h.2 c cs (hF.room _)⟩
def dOk(N:Nat):Option Nat→Prop
  |none=>True
  |some d=>d<N

/-- are these the types of '[]byte(s)' -/
def bytesT (P:Program) (S D:TypeId):Bool:=match P.underlying S,P.underlying D with
  | some .string,some (.slice e)=>match P.underlying e with
    |some (.int .u8)=>true
    |_=>false
  |_,_=>false
/-- a text as a list of bytes, that nobody writes -/
def cvStr (P:Program) (t:List (Nat×V)):Op→Option (Prop×V)
  | .convert S D x=>match evO t x with
    | .str s=>if bytesT P S D=true then some (s.length≤maxLen,.lst (s.map fun b=>[V.int .u8 b.toNat])) else none
    |_=>none
  |_=>none
theorem cvStr_run {P:Program} {w:World} {ρ:List Re} {m:Mem} {t:List (Nat×V)} {a:Act} {o:Oper} {p:Prop} {v:V} (hM:RelM w ρ m) (hT:RelT w ρ m t a) (h:cvStr P t o.op=some (p,v)) (hp:p):
    ∃ x w',(execOp a.eval o).run P w= .ok (.value x) w'∧Below w.heap.size w w'∧RelV w' ρ (bad m ρ) v x:=by
  unfold cvStr at h
  split at h
  · rename_i S D x ho
    split at h
    · rename_i s hs
      split at h
      · rename_i hb
        cases h
        have hr:=evO_rel hT x
        rw [hs] at hr
        generalize hex:a.eval x=ex at hr
        cases hr with
        | str _ b hbs=>
          unfold bytesT at hb
          split at hb
          · rename_i e h1 h2
            split at hb
            · rename_i h3
              have hrun:=run_bytes_of_string (P:=P) w S D e b h1 h2 h3
              have hsz:b.size=s.length:=by rw [←hbs];rfl
              have hbw:Below w.heap.size w (w.drew.alloc (.cells (bytesRow b (grownCap w b.size 0 e)) e ((bytesRow b (grownCap w b.size 0 e)).size,(bytesRow b (grownCap w b.size 0 e)).size+1))):=(Below.drew (Below.refl _ _)).alloc (Nat.le_refl _) _
              refine⟨.slice (some ⟨w.heap.size,0,none⟩) b.size (grownCap w b.size 0 e),_,?_,hbw,?_⟩
              · simp only [execOp,ho,hex]
                exact run_v hrun
              · have hln:b.size=(s.map fun b=>[V.int .u8 b.toNat]).length:=by rw [hsz,List.length_map]
                have hcell:∀ j,j<s.length→World.cell? (w.drew.alloc (.cells (bytesRow b (grownCap w b.size 0 e)) e ((bytesRow b (grownCap w b.size 0 e)).size,(bytesRow b (grownCap w b.size 0 e)).size+1))) ⟨w.heap.size,j,none⟩=(s[j]?).map fun b=>Value.int .u8 b.toNat:=by
                  intro j hj
                  rw [show w.heap.size=w.drew.heap.size from rfl,World.cell?_alloc_mark]
                  unfold bytesRow
                  rw [Array.getElem?_append_left (by simp only [Array.size_map];rw [show b.data.size=b.size from rfl,hsz];exact hj),Array.getElem?_map,←hbs,Array.getElem?_toList]
                rw [hln] at hcell ⊢
                refine .lst _ w.heap.size 0 _ 1 (fun i j=> .int .u8 ((s.getD i 0).toNat)) ?_ ?_ ?_ (grownCap_le_maxLen _ _ _ _ (by rw [List.length_map];exact hp)) ?_ ?_ ?_ ?_
                · rw [show w.heap.size=w.drew.heap.size from rfl];simp [World.alloc]
                · intro hbad
                  exact Nat.lt_irrefl _ (hM.lt hbad)
                · exact grownCap_ge _ _ _ _
                · intro e he
                  obtain⟨c,_,rfl⟩:=List.mem_map.1 he
                  rfl
                · intro i j e v h1 h2
                  rw [List.getElem?_map,Option.map_eq_some_iff] at h1
                  obtain⟨c,g1,rfl⟩:=h1
                  have hi:i<s.length:=(List.getElem?_eq_some_iff.1 g1).1
                  rcases j with _|j
                  · have hc:=hcell i hi
                    rw [g1] at hc
                    rw [show 0+i * 1+0=i by omega,hc]
                    simp [List.getD_eq_getElem?_getD,g1]
                  · simp at h2
                · intro i j e v h1 h2
                  rw [List.getElem?_map,Option.map_eq_some_iff] at h1
                  obtain⟨c,g1,rfl⟩:=h1
                  rcases j with _|j
                  · simp at h2
                    subst h2
                    simp only [List.getD_eq_getElem?_getD,g1,Option.getD_some]
                    exact .int _ _
                  · simp at h2
                · intro i j e v h1 h2
                  rw [List.getElem?_map,Option.map_eq_some_iff] at h1
                  obtain⟨c,g1,rfl⟩:=h1
                  rcases j with _|j
                  · simp at h2
                    subst h2
                    rfl
                  · simp at h2
            · cases hb
          · cases hb
      · cases h
    · cases h
  · cases h
/-- an operation that a rule of its own tells -/
def XOp (P:Program) (t:List (Nat×V)) (m:Mem) (op:Op) (K:V→Mem→Prop):Prop:=
  (∀ c,op≠ .defer c)∧∀ (w:World) (ρ:List Re) (a:Act) (o:Oper),o.op=op→RelM w ρ m→RelT w ρ m t a→
    ∃ nx w' v m' ρ',(execOp a.eval o).run P w= .ok nx w'∧K v m'∧After w ρ m w' ρ' m'∧((∃ x,nx= .value x∧RelV w' ρ' (bad m' ρ') v x)∨(nx= .skip∧v= .any))
/-- a call of what the model does at once (no body of its own) -/
def ExtA(P:Program)(f:FuncId)(args:List V)(m:Mem)(R:V→Prop):Prop:=
  ∀ (w:World) (ρ:List Re) (xs:Array Value),RelM w ρ m→RelAs w ρ m args xs→∃ x v,(callFunc f xs).run P w= .ok (.value x) w∧R v∧RelV w ρ (bad m ρ) v x
/-- one operation -/
def WOp (P:Program) (N:Nat) (t:List (Nat×V)) (m:Mem) (op:Op) (dst:Option Nat) (K:List (Nat×V)→Mem→Prop):Prop:=
  dOk N dst∧
  match op with
  | .call ⟨.value f,args,_⟩=>match evO t f with
    | .clo (.func g) fs cs=>CallA P g (fs++args.toList.map (evO t)++cs) m (fun v mo=>K (tput t dst v) (mo.getD m))∨ExtA P g (fs++args.toList.map (evO t)++cs) m (fun v=>K (tput t dst v) m)
    | .clo (.yield l) [] []=>YieldA P l (args.toList.map (evO t)) m (fun v mo=>K (tput t dst v) (mo.getD m))
    |_=>False
  | op=>match evA P t m op with
    |some (p,v,m')=>p∧K (tput t dst v) m'
    | none=>match cvStr P t op with
      |some (p,v)=>p∧K (tput t dst v) m
      |none=>XOp P t m op fun v m'=>K (tput t dst v) m'

theorem undef_rel{w:World}{ρ:List Re}{B:Nat→Prop}:RelV w ρ B (.tup []) undef:= .tup [] #[] rfl (fun i c x h=>by simp at h)
/-- operations in their order -/
def WOs (P:Program) (N:Nat) (ops:Array Oper):List Oper→List (Nat×V)→Mem→(List (Nat×V)→Mem→Prop)→Prop
  |[],t,m,Q=>Q t m
  | o ::rest,t,m,Q=>match o.guard with
    |none=>WOp P N t m o.op o.dst (fun t m=>WOs P N ops rest t m Q)
    | some (j,want)=>match (ops[j]?).bind (·.dst) with
      | some d=>match tget t d with
        | .bool c=>(c=want→WOp P N t m o.op o.dst (fun t m=>WOs P N ops rest t m Q))∧(¬ c=want→dOk N o.dst∧WOs P N ops rest (tput t o.dst (.tup [])) m Q)
        | .tup []=>dOk N o.dst∧WOs P N ops rest (tput t o.dst (.tup [])) m Q
        |_=>False
      |none=>False

theorem run_callFunc{P:Program}{f:FuncId}(h:isGo P f=true)(args:Array Value)(w:World):(callFunc f args).run P w= .ok (.enter f args) w:=by
  unfold isGo at h
  split at h
  · rename_i fn hf
    simp only [Bool.and_eq_true,Bool.not_eq_true'] at h
    obtain⟨h1,h2⟩:=h
    have h3:¬ fn.body=none:=by
      intro hb;rw [hb] at h2;simp at h2
    have h1':¬ fn.name= "runtime.NumGoroutine" :=by simpa using h1
    simp [callFunc,hf,h1',h3,go_sem]
  · cases h

theorem RelT.after{w w':World}{ρ ρ':List Re}{m m':Mem}{t:List (Nat×V)}{a:Act}(h:RelT w ρ m t a)(af:After w ρ m w' ρ' m'):RelT w' ρ' m' t a:=fun i=>af.rel (h i)
theorem After.of_same{w w':World}{ρ:List Re}{m:Mem}(hM:RelM w ρ m)(hb:Below w.heap.size w w'):After w ρ m w' ρ m:=
  ⟨Keep.of_below hb,fun _ _ h=>h,hM.mono hb,fun _ _ h=>h,fun _ _ h=>h⟩
theorem dOk_lt{N:Nat}{d:Option Nat}(h:dOk N d):∀ k,d=some k→k<N:=by
  intro k e;subst e;exact h

theorem WOp_sound {F:Fence} (hF:Free F) {n:Nat} {P:Program} {N:Nat} {z:Zr} {w:World} {ρ:List Re} {m:Mem} {t:List (Nat×V)} {a:Act} {o:Oper} {K:List (Nat×V)→Mem→Prop} {K':Act→World→Prop} {Q':Exit→Act→World→Prop}
    (hR:Rel N z w ρ m t a) (h:WOp P N t m o.op o.dst K) (hK:∀ t' m' a' w' ρ',K t' m'→Rel N z w' ρ' m' t' a'→After w ρ m w' ρ' m'→K' a' w'):o.wpIn F n P a w K' Q':=by
  obtain⟨hd,h⟩:=h
  have hRM:=hR.mem
  have hput:∀ {w':World} {ρ':List Re} {m':Mem} {v:V} {x:Value},After w ρ m w' ρ' m'→RelV w' ρ' (bad m' ρ') v x→Rel N z w' ρ' m' (tput t o.dst v) (a.put o.dst x):=by
    intro w' ρ' m' v x af rv
    refine⟨af.mem,tput_rel (hR.tm.after af) rv (fun k e=>by rw [hR.size];exact dOk_lt hd k e),?_,?_⟩
    · cases o.dst<;>simp [Act.put,hR.size]
    · rw [put_defers];exact hR.defers.after af
  have pureCase:(match evA P t m o.op with
    |some (p,v,m')=>p∧K (tput t o.dst v) m'
    | none=>match cvStr P t o.op with
      |some (p,v)=>p∧K (tput t o.dst v) m
      |none=>XOp P t m o.op fun v m'=>K (tput t o.dst v) m')→o.wpIn F n P a w K' Q':=by
    intro h
    split at h
    · rename_i p v m' he
      obtain⟨nx,w',ρ',h1,af,h2,_⟩:=evA_sound hR.mem hR.tm he h.1
      have hnd:∀ c,o.op≠ .defer c:=by intro c hc;rw [hc] at he;simp [evA,evOp] at he
      unfold Oper.wpIn
      rw [Oper.semAt_eq _ _ _ hnd,h1]
      refine⟨fun f _=>hF.fn f,?_⟩
      rcases h2 with ⟨x,rfl,rv⟩|⟨rfl,rfl⟩
      · exact hK _ _ _ _ _ h.2 (hput af rv) af
      · exact hK _ _ _ _ _ h.2 (hput af (.any _)) af
    · split at h
      · rename_i p v he
        obtain⟨x,w',h1,hb,rv⟩:=cvStr_run hR.mem hR.tm he h.1
        have hnd:∀ c,o.op≠ .defer c:=by intro c hc;rw [hc] at he;simp [cvStr] at he
        have af:=After.of_same hR.mem hb
        unfold Oper.wpIn
        rw [Oper.semAt_eq _ _ _ hnd,h1]
        exact⟨fun f _=>hF.fn f,hK _ _ _ _ _ h.2 (hput af rv) af⟩
      · obtain⟨hnd,h⟩:=h
        obtain⟨nx,w',v,m',ρ',h1,h2,af,h3⟩:=h w ρ a o rfl hR.mem hR.tm
        unfold Oper.wpIn
        rw [Oper.semAt_eq _ _ _ hnd,h1]
        refine⟨fun f _=>hF.fn f,?_⟩
        rcases h3 with ⟨x,rfl,rv⟩|⟨rfl,rfl⟩
        · exact hK _ _ _ _ _ h2 (hput af rv) af
        · exact hK _ _ _ _ _ h2 (hput af (.any _)) af
  split at h
  · rename_i f args ts ho
    split at h
    · rename_i g fs cs hf
      have hfr:=evO_rel hR.tm f
      rw [hf] at hfr
      generalize hef:a.eval f=ef at hfr
      cases hfr with
      | clo _ _ _ f2 c2 hlf hlc hrf hrc=>
        have hargs:RelAs w ρ m (fs++args.toList.map (evO t)++cs) (f2++args.map a.eval++c2):=by
          have e2:(f2++args.map a.eval++c2).toList=f2.toList++args.toList.map a.eval++c2.toList:=by simp
          refine⟨by simp;omega,fun i v x h1 h2=>?_⟩
          have h2':(f2.toList++args.toList.map a.eval++c2.toList)[i]?=some x:=by rw [←e2,Array.getElem?_toList];exact h2
          have hl1:fs.length=f2.toList.length:=by simpa using hlf
          by_cases q1:i<fs.length
          · rw [List.append_assoc,List.getElem?_append_left q1] at h1
            rw [List.append_assoc,List.getElem?_append_left (by omega)] at h2'
            exact hrf i v x h1 (by simpa using h2')
          · by_cases q2:i<(fs++args.toList.map (evO t)).length
            · rw [List.getElem?_append_left q2,List.getElem?_append_right (by omega)] at h1
              rw [List.getElem?_append_left (by simp at q2 ⊢;simp at hl1;omega),List.getElem?_append_right (by omega),←hl1] at h2'
              simp only [List.getElem?_map,Option.map_eq_some_iff] at h1 h2'
              obtain⟨o1,g1,rfl⟩:=h1
              obtain⟨o2,g2,rfl⟩:=h2'
              rw [g1] at g2
              cases g2
              exact evO_rel hR.tm _
            · rw [List.getElem?_append_right (by omega)] at h1
              have hl2:(fs++args.toList.map (evO t)).length=(f2.toList++args.toList.map a.eval).length:=by simp at hl1 ⊢;omega
              rw [List.getElem?_append_right (by omega),←hl2] at h2'
              exact hrc _ v x h1 (by simpa using h2')
        have hnd:∀ c,o.op≠ .defer c:=by intro c hc;rw [hc] at ho;cases ho
        rcases h with ⟨hgo,hcall⟩|hext
        rotate_left
        · obtain⟨x,v,hx,hk,rv⟩:=hext w ρ _ hR.mem hargs
          unfold Oper.wpIn
          have hrun:(execOp a.eval o).run P w= .ok (.value x) w:=by
            simp only [execOp,ho,resolve,hef,Deferred.ofValue,invoke,Sem.run_bind,Sem.run_pure,Result.andThen_ok,hx]
          rw [Oper.semAt_eq _ _ _ hnd,hrun]
          exact⟨fun f _=>hF.fn f,hK _ _ _ _ _ hk (hput (After.refl hR.mem) rv) (After.refl hR.mem)⟩
        have hc:=hcall w ρ _ hR.mem hargs
        unfold Oper.wpIn
        have hrun:(execOp a.eval o).run P w= .ok (.enter g (f2++args.map a.eval++c2)) w:=by
          simp only [execOp,ho,resolve,hef,Deferred.ofValue,invoke,Sem.run_bind,Sem.run_pure,Result.andThen_ok,run_callFunc hgo]
        rw [Oper.semAt_eq _ _ _ hnd,hrun]
        refine⟨fun f _=>hF.fn f,fun e=>(by rw [hF.depth] at e;cases e),?_⟩
        refine hF.calls (hc.mono ?_)
        rintro e w' ⟨v,mo,x,rfl,hr,hh⟩
        rcases hh with ⟨rfl,hb,rv⟩|⟨m',ρ',rfl,af,rv⟩
        · have af:=After.of_same hR.mem hb
          exact hK _ _ _ _ _ hr (hput af rv) af
        · exact hK _ _ _ _ _ hr (hput af rv) af
    · rename_i l hf
      have hfr:=evO_rel hR.tm f
      rw [hf] at hfr
      generalize hef:a.eval f=ef at hfr
      cases hfr with
      | clo _ _ _ f2 c2 hlf hlc hrf hrc=>
        have hargs:RelAs w ρ m (args.toList.map (evO t)) (args.map a.eval):=by
          refine⟨by simp,fun i v x h1 h2=>?_⟩
          simp only [Array.getElem?_map,List.getElem?_map,Option.map_eq_some_iff,Array.getElem?_toList] at h1 h2
          obtain⟨o1,g1,rfl⟩:=h1
          obtain⟨o2,g2,rfl⟩:=h2
          rw [g1] at g2
          cases g2
          exact evO_rel hR.tm _
        obtain⟨fn,tmps,assign,body,hy,hc⟩:=h F hF w ρ _ hR.mem hargs
        have hnd:∀ c,o.op≠ .defer c:=by intro c hc;rw [hc] at ho;cases ho
        have e1:f2= #[]:=by apply Array.eq_empty_of_size_eq_zero;simpa using hlf.symm
        have e2:c2= #[]:=by apply Array.eq_empty_of_size_eq_zero;simpa using hlc.symm
        subst e1 e2
        unfold Oper.wpIn
        have hrun:(execOp a.eval o).run P w= .ok (.round l fn tmps assign body) w:=by
          simp only [execOp,ho,resolve,hef,Deferred.ofValue,invoke,Sem.run_bind,Sem.run_pure,Result.andThen_ok,Array.append_empty,Array.empty_append]
          exact hy
        rw [Oper.semAt_eq _ _ _ hnd,hrun]
        refine⟨fun f _=>hF.fn f,fun e=>(by rw [hF.depth] at e;cases e),RoundIn.free hF (hc.mono ?_)⟩
        rintro e w' ⟨v,mo,x,rfl,hr,hh⟩
        rcases hh with ⟨rfl,hb,rv⟩|⟨m',ρ',rfl,af,rv⟩
        · have af:=After.of_same hR.mem hb
          exact hK _ _ _ _ _ hr (hput af rv) af
        · exact hK _ _ _ _ _ hr (hput af rv) af
    · exact h.elim
  · exact pureCase h

theorem WOs_sound {F : Fence} (hF:Free F) {fn:Nat} {P:Program} {N:Nat} {z:Zr} {ops:Array Oper} {Q:List (Nat×V)→Mem→Prop} {Q':Exit→Act→World→Prop}:∀ (l:List Oper) {w:World} {ρ:List Re} {m:Mem} {t:List (Nat×V)} {a:Act},
    Rel N z w ρ m t a→WOs P N ops l t m Q→(∀ t' m' a' w' ρ',Q t' m'→Rel N z w' ρ' m' t' a'→After w ρ m w' ρ' m'→Q' .normal a' w')→wpListIn F fn P ops Q' l a w
  |[],w,ρ,m,t,a,hR,h,hQ=>wpListIn_nil (hQ _ _ _ _ _ h hR (After.refl hR.mem))
  | o ::rest,w,ρ,m,t,a,hR,h,hQ=>by
    have step:WOp P N t m o.op o.dst (fun t m=>WOs P N ops rest t m Q)→o.wpIn F fn P a w (wpListIn F fn P ops Q' rest) Q':=fun h=>
      WOp_sound hF hR h (fun t' m' a' w' ρ' hk hR' af=>WOs_sound hF rest hR' hk (fun t2 m2 a2 w2 ρ2 q1 q2 q3=>hQ _ _ _ _ _ q1 q2 (af.trans q3)))
    unfold wpListIn
    simp only [WOs] at h
    cases hg:o.guard with
    | none=>
      rw [hg] at h
      rw [if_pos (by simp [Region.wanted,hg])]
      exact step h
    | some jw =>
      obtain⟨j,want⟩:=jw
      rw [hg] at h
      simp only at h
      split at h
      · rename_i d hd
        split at h
        · rename_i c hc
          have hr:=hR.tm d
          rw [hc] at hr
          have hget:a.tmps[d]?=some (.bool c):=by
            have:a.tmps.getD d undef= .bool c:=by
              generalize a.tmps.getD d undef=x at hr
              cases hr;rfl
            rw [Array.getD_eq_getD_getElem?] at this
            cases hx:a.tmps[d]? with
            |none=>rw [hx] at this;simp [undef] at this
            |some y=>rw [hx] at this;simp at this;rw [this]
          have hy:yielded ops a.tmps j=some c:=by
            unfold yielded
            rw [hd]
            simp only [Option.bind_some,hget]
          by_cases hcw:c=want
          · rw [if_pos (by simp [Region.wanted,hg,hy,hcw])]
            exact step (h.1 hcw)
          · rw [if_neg (by simp [Region.wanted,hg,hy,hcw])]
            obtain⟨hdk,h2⟩:=h.2 hcw
            have hR':Rel N z w ρ m (tput t o.dst (.tup [])) (a.put o.dst undef):=
              ⟨hR.mem,tput_rel hR.tm undef_rel (fun k e=>by rw [hR.size];exact dOk_lt hdk k e),by cases o.dst<;>simp [Act.put,hR.size],by rw [put_defers];exact hR.defers⟩
            exact⟨fun f _=>hF.fn f,WOs_sound hF rest hR' h2 hQ⟩
        · rename_i hc
          have hr:=hR.tm d
          rw [hc] at hr
          have hu:a.tmps.getD d undef= .tuple #[]:=by
            generalize a.tmps.getD d undef=x at hr
            cases hr with
            | tup _ xs hl _ => have:xs= #[]:=Array.eq_empty_of_size_eq_zero hl.symm
                               rw [this]
          have hy:yielded ops a.tmps j=none:=by
            unfold yielded
            rw [hd]
            simp only [Option.bind_some]
            rw [Array.getD_eq_getD_getElem?] at hu
            cases hx:a.tmps[d]? with
            |none=>rfl
            |some y=>rw [hx] at hu;simp at hu;subst hu;rfl
          rw [if_neg (by simp [Region.wanted,hg,hy])]
          obtain⟨hdk,h2⟩:=h
          have hR':Rel N z w ρ m (tput t o.dst (.tup [])) (a.put o.dst undef):=
            ⟨hR.mem,tput_rel hR.tm undef_rel (fun k e=>by rw [hR.size];exact dOk_lt hdk k e),by cases o.dst<;>simp [Act.put,hR.size],by rw [put_defers];exact hR.defers⟩
          exact⟨fun f _=>hF.fn f,WOs_sound hF rest hR' h2 hQ⟩
        · exact h.elim
      · exact h.elim

def Post(z:Zr)(w:World)(ρ:List Re)(m:Mem)(N:Nat)(Q:Exit→List (Nat×V)→Mem→Prop):Exit→Act→World→Prop:=
  fun e a' w'=>∃ t' m' ρ',Q e t' m'∧Rel N z w' ρ' m' t' a'∧After w ρ m w' ρ' m'

def WA(P:Program)(N:Nat)(c:Code)(t:List (Nat×V))(m:Mem)(Q:Exit→List (Nat×V)→Mem→Prop):Prop:=
  ∀ (F:Fence),Free F→∀ (z:Nat) (w:World) (ρ:List Re) (a:Act),Rel N ⟨z,F.round⟩ w ρ m t a→c.wpIn F 0 P (Post ⟨z,F.round⟩ w ρ m N Q) a w

def qThen(K:List (Nat×V)→Mem→Prop)(Q:Exit→List (Nat×V)→Mem→Prop):Exit→List (Nat×V)→Mem→Prop
  | .normal,t,m=>K t m
  |e,t,m=>Q e t m
def qBlock(id:Nat)(Q:Exit→List (Nat×V)→Mem→Prop):Exit→List (Nat×V)→Mem→Prop
  | .exit id',t,m=>if id'=id then Q .normal t m else Q (.exit id') t m
  |e,t,m=>Q e t m

section
variable {P:Program} {N:Nat} {t:List (Nat×V)} {m:Mem} {Q:Exit→List (Nat×V)→Mem→Prop}

theorem Post.trans{z:Zr}{w w1:World}{ρ ρ1:List Re}{m1:Mem}(af:After w ρ m w1 ρ1 m1){e:Exit}{a:Act}{w':World}(h:Post z w1 ρ1 m1 N Q e a w'):Post z w ρ m N Q e a w':=by
  obtain⟨t',m',ρ',h1,h2,h3⟩:=h
  exact⟨t',m',ρ',h1,h2,af.trans h3⟩

theorem WA_mono{c:Code}{Q':Exit→List (Nat×V)→Mem→Prop}(h:WA P N c t m Q)(hq:∀ e t m,Q e t m→Q' e t m):WA P N c t m Q':=
  fun F hF z w ρ a hR=>wpIn_mono (h F hF z w ρ a hR) fun _ _ _ ⟨t',m',ρ',h1,h2,h3⟩=>⟨t',m',ρ',hq _ _ _ h1,h2,h3⟩

theorem WA_seq_k{x y:Code}(h:∀ K:List (Nat×V)→Mem→Prop,(∀ t' m',WA P N y t' m' Q→K t' m')→WA P N x t m (qThen K Q)):WA P N (.seq x y) t m Q:=by
  intro F hF z w ρ a hR
  refine wpIn_seq (wpIn_mono (h _ (fun _ _ h=>h) F hF z w ρ a hR) ?_)
  rintro e a1 w1 ⟨t',m',ρ',h1,h2,h3⟩
  cases e with
  |normal=>exact wpIn_mono (h1 F hF z w1 ρ' a1 h2) fun _ _ _ h=>h.trans h3
  |_=>exact⟨t',m',ρ',h1,h2,h3⟩

theorem WA_skip(h:Q .normal t m):WA P N .skip t m Q:=fun _ _ _ _ ρ _ hR=>wpIn_skip ⟨t,m,ρ,h,hR,After.refl hR.mem⟩
theorem WA_ret(h:Q .ret t m):WA P N .ret t m Q:=fun _ _ _ _ ρ _ hR=>wpIn_ret ⟨t,m,ρ,h,hR,After.refl hR.mem⟩
theorem WA_exit{id:Nat}(h:Q (.exit id) t m):WA P N (.exit id) t m Q:=fun _ _ _ _ ρ _ hR=>wpIn_exit ⟨t,m,ρ,h,hR,After.refl hR.mem⟩

theorem WA_cond{c:Operand}{x y:Code}{b:Bool}(hc:evO t c= .bool b)(h1:b=true→WA P N x t m Q)(h2:b=false→WA P N y t m Q):WA P N (.cond c x y) t m Q:=by
  intro F hF z w ρ a hR
  have hr:=evO_rel hR.tm c hR.mem
  rw [hc] at hr
  have he:a.eval c= .bool b:=by
    generalize a.eval c=x at hr
    cases hr;rfl
  exact wpIn_cond_split he (fun e=>h1 e F hF z w ρ a hR) (fun e=>h2 e F hF z w ρ a hR)

theorem WA_block{id:Nat}{c:Code}(h:WA P N c t m (qBlock id Q)):WA P N (.block id c) t m Q:=by
  intro F hF z w ρ a hR
  refine wpIn_block (wpIn_mono (h F hF z w ρ a hR) ?_)
  rintro e a1 w1 ⟨t',m',ρ',h1,h2,h3⟩
  cases e with
  | exit id'=>
    simp only [qBlock] at h1
    simp only [Exit.inBlock]
    split at h1
    · rename_i e;rw [if_pos e];exact⟨t',m',ρ',h1,h2,h3⟩
    · rename_i e;rw [if_neg e];exact⟨t',m',ρ',h1,h2,h3⟩
  |_=>exact⟨t',m',ρ',h1,h2,h3⟩

theorem least_nat(p:Nat→Prop)(h:∃ n,p n):∃ n,p n∧∀ k,p k→n≤k:=by
  obtain⟨n,hn⟩:=h
  induction n using Nat.strongRecOn with
  | ind n ih=>
    by_cases hk:∃ k,k<n∧p k
    · obtain⟨k,h1,h2⟩:=hk
      exact ih k h1 h2
    · exact⟨n,hn,fun k hp=>Nat.le_of_not_lt fun hlt=>hk ⟨k,hlt,hp⟩⟩
open Classical in
noncomputable def leastN (p:Nat→Prop):Nat:=if h:∃ n,p n then (least_nat p h).choose else 0
theorem leastN_spec{p:Nat→Prop}(h:∃ n,p n):p (leastN p)∧∀ k,p k→leastN p≤k:=by
  unfold leastN
  rw [dif_pos h]
  exact(least_nat p h).choose_spec
/-- a loop: an invariant with a measure -/
theorem WA_loop{c:Code}(I:Nat→List (Nat×V)→Mem→Prop){n:Nat}(h0:I n t m)
    (hr:∀ n t m,I n t m→WA P N c t m (qThen (fun t' m'=>∃ k,k<n∧I k t' m') Q)):WA P N (.loop c) t m Q:=by
  intro F hF z w0 ρ0 a0 hR0
  refine wpIn_loop (fun a w=>∃ n t m' ρ,I n t m'∧Rel N ⟨z,F.round⟩ w ρ m' t a∧After w0 ρ0 m w ρ m') (fun a w=>leastN fun n=>∃ t m' ρ,I n t m'∧Rel N ⟨z,F.round⟩ w ρ m' t a∧After w0 ρ0 m w ρ m') ⟨n,t,m,ρ0,h0,hR0,After.refl hR0.mem⟩ ?_
  intro a w hI
  obtain⟨⟨t1,m1,ρ1,k1,k2,k3⟩,hmin⟩:=leastN_spec hI
  refine wpIn_mono (hr _ t1 m1 k1 F hF z w ρ1 a k2) ?_
  rintro e a1 w1 ⟨t',m',ρ',h1,h2,h3⟩
  cases e with
  | normal=>
    obtain⟨k,hk,hI'⟩:=h1
    have hex:∃ n t m' ρ,I n t m'∧Rel N ⟨z,F.round⟩ w1 ρ m' t a1∧After w0 ρ0 m w1 ρ m':=⟨k,t',m',ρ',hI',h2,k3.trans h3⟩
    exact⟨hex,Nat.lt_of_le_of_lt ((leastN_spec hex).2 k ⟨t',m',ρ',hI',h2,k3.trans h3⟩) hk⟩
  |_=>exact⟨t',m',ρ',h1,h2,k3.trans h3⟩

/-- a loop of so many rounds at most -/
def WAn(P:Program)(N:Nat)(c:Code)(Q:Exit→List (Nat×V)→Mem→Prop):Nat→List (Nat×V)→Mem→Prop
  |0,_,_=>False
  |n+1,t,m=>WA P N c t m (qThen (WAn P N c Q n) Q)
theorem WA_rounds{c:Code}(n:Nat)(h:WAn P N c Q n t m):WA P N (.loop c) t m Q:=by
  refine WA_loop (fun n t m=>WAn P N c Q n t m) h ?_
  intro n t m h
  cases n with
  |zero=>exact h.elim
  | succ n=>
    refine WA_mono h ?_
    intro e t m hq
    cases e
    case normal=>exact⟨n,by omega,hq⟩
    all_goals exact hq

theorem WA_region{id:Nat}{l:List Oper}(h:WOs P N l.toArray l t m (fun t m=>Q .normal t m)):WA P N (.region id l.toArray false) t m Q:=by
  intro F hF z w ρ a hR
  refine wpIn_region_lit (WOs_sound hF l hR h ?_)
  intro t' m' a' w' ρ' h1 h2 h3
  exact⟨t',m',ρ',h1,h2,h3⟩

/-- slots of which nothing more is to be known -/
theorem WA_forget{c:Code}(t':List (Nat×V))(ht:∀ i,tget t' i=tget t i∨tget t' i= .any)(h:WA P N c t' m Q):WA P N c t m Q:=by
  intro F hF z w ρ a hR
  refine h F hF z w ρ a ⟨hR.mem,fun i=>?_,hR.size,hR.defers⟩
  rcases ht i with e|e
  · rw [e];exact hR.tm i
  · rw [e];exact .any _

/-! ### what a call hands back -/
mutual
/-- no block of the call's own is named in it -/
def V.plain:V→Bool
  | .agg cs=>plainL cs
  | .tup cs=>plainL cs
  | .lst es=>plainLL es
  | .bp cs _=>plainL cs
  | .ptr _ _ _=>false
  | .sl _ _=>false
  | .mp _=>false
  | .clo _ f c=>plainL f && plainL c
  |_=>true
def plainL:List V→Bool
  |[]=>true
  |v::r=>v.plain && plainL r
def plainLL:List (List V)→Bool
  |[]=>true
  |e::r=>plainL e && plainLL r
end
theorem plainL_mem{l:List V}(h:plainL l=true):∀ v∈l,v.plain=true:=by
  induction l with
  |nil=>intro v hv;cases hv
  | cons a l ih=>
    simp only [plainL,Bool.and_eq_true] at h
    intro v hv
    rcases List.mem_cons.1 hv with rfl|hv
    · exact h.1
    · exact ih h.2 v hv
theorem plainLL_mem{l:List (List V)}(h:plainLL l=true):∀ e∈l,plainL e=true:=by
  induction l with
  |nil=>intro v hv;cases hv
  | cons a l ih=>
    simp only [plainLL,Bool.and_eq_true] at h
    intro v hv
    rcases List.mem_cons.1 hv with rfl|hv
    · exact h.1
    · exact ih h.2 v hv

/-- such a value reads alike wherever the call's own blocks lie -/
theorem plain_rel{w:World}{ρ ρ':List Re}{B B':Nat→Prop}(hB:∀ k,k<w.heap.size→B' k→B k){v:V}{x:Value}(h:RelV w ρ B v x)(hp:v.plain=true):RelV w ρ' B' v x:=by
  induction h with
  |any x=>exact .any x
  |int k n=>exact .int k n
  |bool b=>exact .bool b
  |str s b h=>exact .str s b h
  |nilptr=>exact .nilptr
  |nilsl=>exact .nilsl
  |lnil a c hc ha=>exact .lnil a c hc ha
  |nilmap=>exact .nilmap
  |nilfn=>exact .nilfn
  |nilif=>exact .nilif
  |ifv t x=>exact .ifv t x
  |anyi k n=>exact .anyi k n
  |tab xs b ty o hb hB' h=>exact .tab xs b ty o hb (fun h=>hB' (hB b hb h)) h
  | agg cs xs hl _ ih=>
    simp only [V.plain] at hp
    exact .agg cs xs hl fun i c x h1 h2=>ih i c x h1 h2 (plainL_mem hp c (List.mem_of_getElem? h1))
  | tup cs xs hl _ ih=>
    simp only [V.plain] at hp
    exact .tup cs xs hl fun i c x h1 h2=>ih i c x h1 h2 (plainL_mem hp c (List.mem_of_getElem? h1))
  | lst es b off c s Y hb hB' hc hm hs' hY _ hO ih=>
    simp only [V.plain] at hp
    exact .lst es b off c s Y hb (fun h=>hB' (hB b hb h)) hc hm hs' hY (fun i j e v h1 h2=>ih i j e v h1 h2 (plainL_mem (plainLL_mem hp e (List.mem_of_getElem? h1)) v (List.mem_of_getElem? h2))) hO
  | bp cs o b off Y hb hB' hY _ hO ih=>
    simp only [V.plain] at hp
    exact .bp cs o b off Y hb (fun h=>hB' (hB b hb h)) hY (fun j v h1=>ih j v h1 (plainL_mem hp v (List.mem_of_getElem? h1))) hO
  |ptr=>simp [V.plain] at hp
  |sl=>simp [V.plain] at hp
  |mp=>simp [V.plain] at hp
  | clo fn f1 c1 f2 c2 hf hc _ _ ih1 ih2=>
    simp only [V.plain,Bool.and_eq_true] at hp
    exact .clo fn f1 c1 f2 c2 hf hc (fun i c x h1 h2=>ih1 i c x h1 h2 (plainL_mem hp.1 c (List.mem_of_getElem? h1))) (fun i c x h1 h2=>ih2 i c x h1 h2 (plainL_mem hp.2 c (List.mem_of_getElem? h1)))

def frzs (f:V→Option V):List V→Option (List V)
  |[]=>some []
  | v::r=>match f v,frzs f r with
    |some v',some r'=>some (v'::r')
    |_,_=>none
def frzss (f:V→Option V):List (List V)→Option (List (List V))
  |[]=>some []
  | e::r=>match frzs f e,frzss f r with
    |some e',some r'=>some (e'::r')
    |_,_=>none
/-- a value of the call's own memory as the caller reads it: the blocks from L on are written no more -/
def frz (m:Mem) (L:Nat):Nat→V→Option V
  |0,v=>if v.plain=true then some v else none
  | n + 1,v=>match v with
    | .agg cs=>(frzs (frz m L n) cs).map .agg
    | .tup cs=>(frzs (frz m L n) cs).map .tup
    | .sl b k=>if b<L then some (.sl b k) else match m[b]? with
      |some (.cells _ _ _ es)=>if k≤es.length∧plainLL (es.take k)=true then some (.lst (es.take k)) else if k≤es.length then (frzss (frz m L n) (es.take k)).map .lst else none
      |_=>none
    | .clo fn f c=>if (V.clo fn f c).plain=true then some (.clo fn f c) else match frzs (frz m L n) f,frzs (frz m L n) c with
      |some f',some c'=>some (.clo fn f' c')
      |_,_=>none
    | .ptr b i o=>if b<L then some (.ptr b i o) else match m[b]? with
      | some (.cells _ _ _ es)=>match es[i]? with
        |some e=>(frzs (frz m L n) e).map (fun e'=> .bp e' o)
        |none=>none
      |_=>none
    |v=>if v.plain=true then some v else none

theorem frzs_get{f:V→Option V}:∀ {l l':List V},frzs f l=some l'→l'.length=l.length∧∀ (j:Nat) v',l'[j]?=some v'→∃ v,l[j]?=some v∧f v=some v'
  |[],l',h=>by cases h;exact⟨rfl,fun j v' h=>by simp at h⟩
  | v ::r,l',h=>by
    simp only [frzs] at h
    split at h
    · rename_i v' r' h1 h2
      cases h
      obtain⟨g1,g2⟩:=frzs_get h2
      refine⟨by simp [g1],fun j u hu=>?_⟩
      rcases j with _|j
      · simp at hu;subst hu;exact⟨v,rfl,h1⟩
      · simp at hu;obtain⟨u0,q1,q2⟩:=g2 j u hu;exact⟨u0,by simpa using q1,q2⟩
    · cases h

theorem frzss_get{f:V→Option V}:∀ {l l':List (List V)},frzss f l=some l'→l'.length=l.length∧∀ (j:Nat) e',l'[j]?=some e'→∃ e,l[j]?=some e∧frzs f e=some e'
  |[],l',h=>by cases h;exact⟨rfl,fun j v' h=>by simp at h⟩
  | v ::r,l',h=>by
    simp only [frzss] at h
    split at h
    · rename_i v' r' h1 h2
      cases h
      obtain⟨g1,g2⟩:=frzss_get h2
      refine⟨by simp [g1],fun j u hu=>?_⟩
      rcases j with _|j
      · simp at hu;subst hu;exact⟨v,rfl,h1⟩
      · simp at hu;obtain⟨u0,q1,q2⟩:=g2 j u hu;exact⟨u0,by simpa using q1,q2⟩
    · cases h
theorem frz_one {m:Mem} {L n:Nat} {v v':V} (h:frz m L n v=some v') (ho:v.one=true):v'.one=true:=by
  cases n with
  |zero=>simp only [frz] at h;split at h<;>cases h;exact ho
  | succ n=>
    cases v<;>simp only [frz] at h<;>try(split at h<;>cases h;exact ho)
    case agg=>simp [V.one] at ho
    case tup=>simp [V.one] at ho
    case sl b k=>
      split at h
      · cases h;rfl
      · split at h
        · split at h
          · cases h;rfl
          · split at h
            · simp only [Option.map_eq_some_iff] at h;obtain⟨e',_,rfl⟩:=h;rfl
            · cases h
        · cases h
    case clo fn f c=>
      split at h
      · cases h;rfl
      · split at h
        · cases h;rfl
        · cases h
    case ptr b i o=>
      split at h
      · cases h;rfl
      · split at h
        · split at h
          · simp only [Option.map_eq_some_iff] at h;obtain⟨e',_,rfl⟩:=h;rfl
          · cases h
        · cases h

theorem take_get{α:Type}{l:List α}{L b:Nat}{x:α}(h:l[b]?=some x)(hb:b<L):(l.take L)[b]?=some x:=by rw [List.getElem?_take_of_lt hb];exact h
theorem get_take{α:Type}{l:List α}{L b:Nat}{x:α}(h:(l.take L)[b]?=some x):b<L∧l[b]?=some x:=by
  have hb:b<L:=by
    rcases Nat.lt_or_ge b L with q|q
    · exact q
    · simp [List.getElem?_take] at h;omega
  rw [List.getElem?_take_of_lt hb] at h
  exact⟨hb,h⟩
theorem has_take{p:Blk→Bool}{m:Mem}{ρ:List Re}{L k:Nat}(h:has p (m.take L) (ρ.take L) k):has p m ρ k:=by
  obtain⟨b,blk,r,h1,h2,h3,h4⟩:=h
  exact⟨b,blk,r,(get_take h1).2,h2,(get_take h3).2,h4⟩

theorem frz_sound {w:World} {ρ:List Re} {m:Mem} (hM:RelM w ρ m) (L:Nat):∀ (n:Nat) {v v':V} {x:Value},RelV w ρ (bad m ρ) v x→frz m L n v=some v'→RelV w (ρ.take L) (bad (m.take L) (ρ.take L)) v' x
  | 0,v,v',x,hr,h=>by
    simp only [frz] at h
    split at h
    · rename_i hp;cases h;exact plain_rel (fun k _ hk=>has_take hk) hr hp
    · cases h
  | n + 1, v, v', x,hr,h=>by
    have ih:=fun {v v' x}=>frz_sound hM L n (v:=v) (v':=v') (x:=x)
    have pl:∀ {v:V},RelV w ρ (bad m ρ) v x→v.plain=true→RelV w (ρ.take L) (bad (m.take L) (ρ.take L)) v x:=fun hr hp=>plain_rel (fun k _ hk=>has_take hk) hr hp
    have notbad:∀ {b:Nat} {st:Sta} {ty sz:Nat} {es:List (List V)} {r:Re},m[b]?=some (.cells st ty sz es)→ρ[b]?=some r→¬ b<L→¬ bad (m.take L) (ρ.take L) r.blk:=by
      rintro b st ty sz es r h1 h2 h3 ⟨c,blk,r',q1,q2,q3,q4⟩
      have:=hM.inj b c _ blk r r' h1 (by simp) (get_take q1).2 q2 h2 (get_take q3).2 q4.symm
      have:=(get_take q1).1
      omega
    cases hr with
    | agg cs xs hl hh=>
      simp only [frz,Option.map_eq_some_iff] at h
      obtain⟨cs',h1,rfl⟩:=h
      obtain⟨g1,g2⟩:=frzs_get h1
      refine .agg cs' xs (g1.trans hl) fun i c y q1 q2=>?_
      obtain⟨c0,q3,q4⟩:=g2 i c q1
      exact ih (hh i c0 y q3 q2) q4
    | tup cs xs hl hh=>
      simp only [frz,Option.map_eq_some_iff] at h
      obtain⟨cs',h1,rfl⟩:=h
      obtain⟨g1,g2⟩:=frzs_get h1
      refine .tup cs' xs (g1.trans hl) fun i c y q1 q2=>?_
      obtain⟨c0,q3,q4⟩:=g2 i c q1
      exact ih (hh i c0 y q3 q2) q4
    | sl b k r hr0 hn hm=>
      simp only [frz] at h
      split at h
      · rename_i hlt;cases h
        exact .sl b k r (take_get hr0 hlt) hn hm
      · rename_i hlt
        split at h
        · rename_i st ty sz es hb
          split at h
          · rename_i hc
            cases h
            obtain⟨r0,cur,k1,k2,k3,k4,k5,k6,k7,k8,k9⟩:=hM.cells b st ty sz es hb
            rw [hr0] at k1
            cases k1
            have hlen:(es.take k).length=k:=by simp;omega
            have key:RelV w (ρ.take L) (bad (m.take L) (ρ.take L)) (.lst (es.take k)) (.slice (some ⟨r.blk,0,none⟩) (es.take k).length r.cap):=by
              refine .lst _ r.blk 0 r.cap sz (fun i j=>(cur[i * sz+j]?).getD undef) (heap_lt k4) (notbad hb hr0 hlt) (by omega) hm (fun e he=>k8 e (List.mem_of_mem_take he)) ?_ ?_ ?_
              · intro i j e u a1 a2
                obtain⟨b1,y,b2,b3⟩:=k9 i j e u (get_take a1).2 a2
                rw [b2]
                simp [World.cell?,k4,b2]
              · intro i j e u a1 a2
                obtain⟨b1,y,b2,b3⟩:=k9 i j e u (get_take a1).2 a2
                rw [b2]
                exact plain_rel (fun k _ hk=>has_take hk) b3 (plainL_mem (plainLL_mem hc.2 e (List.mem_of_getElem? a1)) u (List.mem_of_getElem? a2))
              · intro i j e u a1 a2
                exact(k9 i j e u (get_take a1).2 a2).1
            rw [hlen] at key
            exact key
          · split at h
            · rename_i hk
              simp only [Option.map_eq_some_iff] at h
              obtain⟨es',h1,rfl⟩:=h
              obtain⟨g1,g2⟩:=frzss_get h1
              obtain⟨r0,cur,k1,k2,k3,k4,k5,k6,k7,k8,k9⟩:=hM.cells b st ty sz es hb
              rw [hr0] at k1
              cases k1
              have hlen:es'.length=k:=by rw [g1];simp;omega
              have key:RelV w (ρ.take L) (bad (m.take L) (ρ.take L)) (.lst es') (.slice (some ⟨r.blk,0,none⟩) es'.length r.cap):=by
                refine .lst _ r.blk 0 r.cap sz (fun i j=>(cur[i * sz+j]?).getD undef) (heap_lt k4) (notbad hb hr0 hlt) (by omega) hm (fun e' he'=>?_) ?_ ?_ ?_
                · obtain⟨i,hi⟩:=List.getElem?_of_mem he'
                  obtain⟨e,q1,q2⟩:=g2 i e' hi
                  rw [(frzs_get q2).1]
                  exact k8 e (List.mem_of_mem_take (List.mem_of_getElem? q1))
                · intro i j e' u' a1 a2
                  obtain⟨e,q1,q2⟩:=g2 i e' a1
                  obtain⟨u,p1,p2⟩:=(frzs_get q2).2 j u' a2
                  obtain⟨b1,y,b2,b3⟩:=k9 i j e u (get_take q1).2 p1
                  rw [b2]
                  simp [World.cell?,k4,b2]
                · intro i j e' u' a1 a2
                  obtain⟨e,q1,q2⟩:=g2 i e' a1
                  obtain⟨u,p1,p2⟩:=(frzs_get q2).2 j u' a2
                  obtain⟨b1,y,b2,b3⟩:=k9 i j e u (get_take q1).2 p1
                  rw [b2]
                  exact ih b3 p2
                · intro i j e' u' a1 a2
                  obtain⟨e,q1,q2⟩:=g2 i e' a1
                  obtain⟨u,p1,p2⟩:=(frzs_get q2).2 j u' a2
                  exact frz_one p2 (k9 i j e u (get_take q1).2 p1).1
              rw [hlen] at key
              exact key
            · cases h
        · cases h
    | ptr b i o r hr0=>
      simp only [frz] at h
      split at h
      · rename_i hlt;cases h
        exact .ptr b i o r (take_get hr0 hlt)
      · rename_i hlt
        split at h
        · rename_i st ty sz es hb
          split at h
          · rename_i e hes
            simp only [Option.map_eq_some_iff] at h
            obtain⟨e',h1,rfl⟩:=h
            obtain⟨g1,g2⟩:=frzs_get h1
            obtain⟨r0,cur,k1,k2,k3,k4,k5,k6,k7,k8,k9⟩:=hM.cells b st ty sz es hb
            rw [hr0] at k1
            cases k1
            refine .bp e' o r.blk (i * r.sz) (fun j=>(cur[i * sz+j]?).getD undef) (heap_lt k4) (notbad hb hr0 hlt) ?_ ?_ ?_
            · intro j v' q1
              obtain⟨v0,q2,q3⟩:=g2 j v' q1
              obtain⟨b1,y,b2,b3⟩:=k9 i j e v0 hes q2
              rw [b2,k2]
              simp [World.cell?,k4,b2]
            · intro j v' q1
              obtain⟨v0,q2,q3⟩:=g2 j v' q1
              obtain⟨b1,y,b2,b3⟩:=k9 i j e v0 hes q2
              rw [b2]
              exact ih b3 q3
            · intro j v' q1
              obtain⟨v0,q2,q3⟩:=g2 j v' q1
              exact frz_one q3 (k9 i j e v0 hes q2).1
          · cases h
        · cases h
    |any x=>cases h;exact .any x
    |int k q=>cases h;exact .int k q
    |bool q=>cases h;exact .bool q
    |str s q hq=>cases h;exact .str s q hq
    |nilptr=>cases h;exact .nilptr
    |nilsl=>cases h;exact .nilsl
    |lnil a c hc ha=>cases h;exact .lnil a c hc ha
    |nilmap=>cases h;exact .nilmap
    |nilfn=>cases h;exact .nilfn
    |nilif=>cases h;exact .nilif
    |ifv t x=>cases h;exact .ifv t x
    |anyi k n=>cases h;exact .anyi k n
    |tab xs b ty o hb hB' h'=>cases h;exact pl (.tab xs b ty o hb hB' h') rfl
    | lst es b off c s Y q1 q2 q3 q4 q5 q6 q7 q8=>
      simp only [frz] at h
      split at h
      · rename_i hp;cases h;exact pl (.lst es b off c s Y q1 q2 q3 q4 q5 q6 q7 q8) hp
      · cases h
    | bp cs o b off Y q1 q2 q3 q4 q5=>
      simp only [frz] at h
      split at h
      · rename_i hp;cases h;exact pl (.bp cs o b off Y q1 q2 q3 q4 q5) hp
      · cases h
    |mp b r hr0=>simp [frz,V.plain] at h
    | clo fn f1 c1 f2 c2 q1 q2 q3 q4=>
      simp only [frz] at h
      split at h
      · rename_i hp;cases h;exact pl (.clo fn f1 c1 f2 c2 q1 q2 q3 q4) hp
      · split at h
        · rename_i f' c' h1 h2
          cases h
          obtain⟨g1,g2⟩:=frzs_get h1
          obtain⟨g3,g4⟩:=frzs_get h2
          refine .clo fn f' c' f2 c2 (g1.trans q1) (g3.trans q2) (fun i c y a1 a2=>?_) (fun i c y a1 a2=>?_)
          · obtain⟨c0,a3,a4⟩:=g2 i c a1
            exact ih (q3 i c0 y a3 a2) a4
          · obtain⟨c0,a3,a4⟩:=g4 i c a1
            exact ih (q4 i c0 y a3 a2) a4
        · cases h
end
end Go.Proofs.YtomkbpoicjabfaaGreatDoor
namespace Go.Proofs.YtomkbpoicjabfaaGreatDoor
open Go.RowKit
section
variable {P:Program} {N:Nat}

def rOf(a:Act):ResultVar→Sem Value
  | .tmp t=>pure (a.tmps.getD t undef)
  | .cell x t=>do loadVar t (←asAddr (a.tmps.getD x undef))

def resOne (P:Program) (t:List (Nat×V)) (m:Mem):ResultVar→Option V
  | .tmp i=>some (tget t i)
  | .cell x T=>match tget t x with
    | .ptr b i o=>match m[b]? with
      | some (.cells _ _ _ es)=>match es[i]? with
        |some e=>partV P T e o
        |none=>none
      |_=>none
    | .bp cs o=>partV P T cs o
    |_=>none
def resVs (P:Program) (t:List (Nat×V)) (m:Mem):List ResultVar→Option (List V)
  |[]=>some []
  | r::rs=>match resOne P t m r,resVs P t m rs with
    |some v,some vs=>some (v::vs)
    |_,_=>none
def tupV:List V→V
  |[v]=>v
  |vs=> .tup vs
def resV(P:Program)(t:List (Nat×V))(m:Mem)(rs:List ResultVar):Option V:=(resVs P t m rs).map tupV

theorem resOne_sound {w:World} {ρ:List Re} {m:Mem} {t:List (Nat×V)} {a:Act} (hM:RelM w ρ m) (hT:RelT w ρ m t a) {r:ResultVar} {v:V} (h:resOne P t m r=some v):
    ∃ x,(rOf a r).run P w= .ok x w∧RelV w ρ (bad m ρ) v x:=by
  cases r with
  | tmp i=>
    cases h
    exact⟨_,by simp [rOf],hT i⟩
  | cell q T=>
    have hq:=hT q
    simp only [resOne] at h
    generalize hx:a.tmps.getD q undef=ex at hq
    split at h
    · rename_i b i o hv
      rw [hv] at hq
      cases hq with
      | ptr _ _ _ r0 hr0=>
        split at h
        · rename_i st ty sz es hb
          split at h
          · rename_i e hes
            obtain⟨r1,cur,k1,k2,k3,k4,k5,k6,k7,k8,k9⟩:=hM.cells b st ty sz es hb
            rw [hr0] at k1
            cases k1
            have hcell:∀ j,w.cell? ⟨r0.blk,i * r0.sz+j,none⟩=cur[i * r0.sz+j]?:=fun j=>by simp [World.cell?,k4]
            obtain⟨y,hrun,hv'⟩:=partV_load (P:=P) (w:=w) (ρ:=ρ) (B:=bad m ρ) (b:=r0.blk) (off:=i * r0.sz) (Y:=fun j=>(cur[i * r0.sz+j]?).getD undef)
              (fun j c hc=>by
                obtain⟨_,y,hy,_⟩:=k9 i j e c hes hc
                rw [hcell,k2,hy];rfl)
              (fun j c hc=>by
                obtain⟨_,y,hy,hr'⟩:=k9 i j e c hes hc
                rw [k2,hy];exact hr') h
            exact⟨y,by simp only [rOf,hx,asAddr,Sem.run_bind,Sem.run_pure,Result.andThen_ok];exact hrun,hv'⟩
          · cases h
        · cases h
    · rename_i cs o hv
      rw [hv] at hq
      cases hq with
      | bp _ _ b off Y h1 h2 h3 h4 h5=>
        obtain⟨y,hr,hv'⟩:=partV_load (P:=P) h3 h4 h
        exact⟨y,by simp only [rOf,hx,asAddr,Sem.run_bind,Sem.run_pure,Result.andThen_ok];exact hr,hv'⟩
    · cases h

theorem resVs_sound {w:World} {ρ:List Re} {m:Mem} {t:List (Nat×V)} {a:Act} (hM:RelM w ρ m) (hT:RelT w ρ m t a):∀ (rs:List ResultVar) {vs:List V},resVs P t m rs=some vs→
    ∃ xs:List Value,(rs.mapM (rOf a)).run P w= .ok xs w∧vs.length=xs.length∧∀ (i:Nat) v x,vs[i]?=some v→xs[i]?=some x→RelV w ρ (bad m ρ) v x
  | [],vs,h=>by
    cases h
    exact⟨[],by simp,rfl,fun i v x h=>by simp at h⟩
  | r ::rs,vs,h=>by
    simp only [resVs] at h
    split at h
    · rename_i v vs' h1 h2
      cases h
      obtain⟨x,g1,g2⟩:=resOne_sound (P:=P) hM hT h1
      obtain⟨xs,g3,g4,g5⟩:=resVs_sound hM hT rs h2
      refine⟨x::xs,?_,by simp [g4],fun i u y q1 q2=>?_⟩
      · simp only [List.mapM_cons,Sem.run_bind,Sem.run_pure,g1,g3,Result.andThen_ok]
      · rcases i with _|i
        · simp at q1 q2;subst q1;subst q2;exact g2
        · simp at q1 q2;exact g5 i u y q1 q2
    · cases h

theorem resV_sound {w:World} {ρ:List Re} {m:Mem} {t:List (Nat×V)} {a:Act} (hM:RelM w ρ m) (hT:RelT w ρ m t a) {fn:Func} {v:V} (h:resV P t m fn.results.toList=some v):
    ∃ x,(results fn a.tmps).run P w= .ok x w∧RelV w ρ (bad m ρ) v x:=by
  unfold resV at h
  simp only [Option.map_eq_some_iff] at h
  obtain⟨vs,h1,rfl⟩:=h
  obtain⟨xs,g1,g2,g3⟩:=resVs_sound (P:=P) hM hT _ h1
  have hrun:∀ y,(if h:xs.toArray.size=1 then xs.toArray[0] else Value.tuple xs.toArray)=y→(results fn a.tmps).run P w= .ok y w:=by
    intro y hy
    unfold results
    rw [Array.mapM_eq_mapM_toList]
    show Sem.run P ((((fn.results.toList.mapM (rOf a)) >>= fun l=>pure l.toArray):Sem (Array Value)) >>= fun vs=>pure (if h:vs.size=1 then vs[0] else .tuple vs)) w=_
    rw [Sem.run_bind,Sem.run_bind,g1]
    simp only [Result.andThen_ok,Sem.run_pure,hy]
  cases vs with
  | nil=>
    cases xs with
    |nil=>exact⟨_,hrun _ rfl,.tup _ _ rfl (fun i c x h=>by simp at h)⟩
    |cons x1 xs=>simp at g2
  | cons v1 vs=>
    cases xs with
    |nil=>simp at g2
    | cons x1 xs=>
      cases vs with
      | nil=>
        cases xs with
        |nil=>exact⟨x1,hrun x1 (by simp),g3 0 v1 x1 rfl rfl⟩
        |cons x2 xs=>simp at g2
      | cons v2 vs=>
        cases xs with
        |nil=>simp at g2
        |cons x2 xs=>exact⟨.tuple (x1::x2::xs).toArray,hrun _ (by simp),.tup _ _ (by simpa using g2) (fun i c x q1 q2=>g3 i c x q1 (by simpa using q2))⟩

/-- the arguments in their slots -/
def argT:Nat→List V→List (Nat×V)
  |_,[]=>[]
  |i,v::r=>(i,v)::argT (i+1) r
theorem argT_get(args:List V):∀ (k i:Nat),tget (argT k args) i=if k≤i then (args[i - k]?).getD .any else .any:=by
  induction args with
  |nil=>intro k i;simp [argT,tget]
  | cons v r ih=>
    intro k i
    simp only [argT,tget]
    by_cases h:k=i
    · subst h;simp
    · rw [if_neg h,ih]
      by_cases h2:k≤i
      · rw [if_pos (by omega),if_pos h2,show i - k=(i - (k+1))+1 by omega,List.getElem?_cons_succ]
      · rw [if_neg (by omega),if_neg h2]

theorem lend_get{m:Mem}{b:Nat}{blk:Blk}(h:(lend m)[b]?=some blk):∃ blk0,m[b]?=some blk0∧blk=lendB blk0:=by
  unfold lend at h
  rw [List.getElem?_map,Option.map_eq_some_iff] at h
  obtain⟨b0,h1,h2⟩:=h
  exact⟨b0,h1,h2.symm⟩
theorem lendB_bad(b:Blk):(lendB b).bad=b.bad:=by
  cases b with
  |cells st ty sz es=>cases st<;>rfl
  |obj st vs φ=>cases st<;>rfl
  |dead=>rfl
theorem lend_bad{m:Mem}{ρ:List Re}{k:Nat}:bad (lend m) ρ k↔bad m ρ k:=by
  constructor
  · rintro⟨b,blk,r,h1,h2,h3,h4⟩
    obtain⟨b0,g1,rfl⟩:=lend_get h1
    exact⟨b,b0,r,g1,(lendB_bad b0).symm.trans h2,h3,h4⟩
  · rintro⟨b,blk,r,h1,h2,h3,h4⟩
    exact⟨b,lendB blk,r,by simp [lend,h1],(lendB_bad blk).trans h2,h3,h4⟩
theorem RelV.lend{w:World}{ρ:List Re}{m:Mem}{v:V}{x:Value}:RelV w ρ (bad (lend m) ρ) v x↔RelV w ρ (bad m ρ) v x:=
  ⟨fun h=>h.mono (Nat.le_refl _) (fun _ _ _=>rfl) (fun _ _ h=>lend_bad.2 h) (fun _ _ h=>h),fun h=>h.mono (Nat.le_refl _) (fun _ _ _=>rfl) (fun _ _ h=>lend_bad.1 h) (fun _ _ h=>h)⟩
theorem RelM.lend{w:World}{ρ:List Re}{m:Mem}(h:RelM w ρ m):RelM w ρ (lend m):=by
  refine⟨by simp [Go.Proofs.YtomkbpoicjabfaaGreatDoor.lend,h.len],fun b st ty sz es hm=>?_,fun b b' blk blk' r r' h1 h2 h3 h4 h5 h6 h7=>?_,fun b st vs φ hm=>?_,h.glob.mono fun v x b3=>RelV.lend.2 b3⟩
  · obtain⟨b0,g1,g2⟩:=lend_get hm
    have:∃ st0,b0= .cells st0 ty sz es:=by
      cases b0 with
      |cells st' ty' sz' es'=>cases st'<;>simp [lendB] at g2<;>exact⟨_,by rw [g2.2.1,g2.2.2.1,g2.2.2.2]⟩
      |obj st' vs' φ'=>cases st'<;>simp [lendB] at g2
      |dead=>simp [lendB] at g2
    obtain⟨st0,rfl⟩:=this
    obtain⟨r,cur,k1,k2,k3,k4,k5,k6,k7,k8,k9⟩:=h.cells b st0 ty sz es g1
    refine⟨r,cur,k1,k2,k3,k4,k5,k6,k7,k8,fun i j e v a1 a2=>?_⟩
    obtain⟨b1,y,b2,b3⟩:=k9 i j e v a1 a2
    exact⟨b1,y,b2,RelV.lend.2 b3⟩
  · obtain⟨b0,g1,rfl⟩:=lend_get h1
    obtain⟨b1,g3,rfl⟩:=lend_get h3
    exact h.inj b b' b0 b1 r r' g1 (fun e=>by subst e;exact h2 rfl) g3 ((lendB_bad b1).symm.trans h4) h5 h6 h7
  · obtain⟨b0,g1,g2⟩:=lend_get hm
    have:∃ st0,b0= .obj st0 vs φ:=by
      cases b0 with
      |cells st' ty' sz' es'=>cases st'<;>simp [lendB] at g2
      |obj st' vs' φ'=>cases st'<;>simp [lendB] at g2<;>exact⟨_,by rw [g2.2.1,g2.2.2]⟩
      |dead=>simp [lendB] at g2
    obtain⟨st0,rfl⟩:=this
    obtain⟨r,k1,k2⟩:=h.objs b st0 vs φ g1
    exact⟨r,k1,k2.mono (fun _=>rfl) fun v x b3=>RelV.lend.2 b3⟩
theorem lend_own{m:Mem}{ρ:List Re}{k:Nat}:¬ owned (lend m) ρ k:=by
  rintro⟨b,blk,r,h1,h2,h3,h4⟩
  obtain⟨b0,g1,rfl⟩:=lend_get h1
  cases b0 with
  |cells st ty sz es=>cases st<;>simp [lendB,Blk.own] at h2
  |obj st vs φ=>cases st<;>simp [lendB,Blk.own] at h2
  |dead=>simp [lendB,Blk.own] at h2

mutual
/-- no memory is looked at through it -/
def V.flat:V→Bool
  | .agg cs=>flatL cs
  | .tup cs=>flatL cs
  | .lst _=>false
  | .bp _ _=>false
  | .ptr _ _ _=>false
  | .sl _ _=>false
  | .mp _=>false
  | .clo _ _ _=>false
  | .tab _=>false
  |_=>true
def flatL:List V→Bool
  |[]=>true
  |v::r=>v.flat && flatL r
end
theorem flatL_mem{l:List V}(h:flatL l=true):∀ v∈l,v.flat=true:=by
  induction l with
  |nil=>intro v hv;cases hv
  | cons a l ih=>
    simp only [flatL,Bool.and_eq_true] at h
    intro v hv
    rcases List.mem_cons.1 hv with rfl|hv
    · exact h.1
    · exact ih h.2 v hv
theorem flat_rel{w w':World}{ρ ρ':List Re}{B B':Nat→Prop}{v:V}{x:Value}(h:RelV w ρ B v x)(hp:v.flat=true):RelV w' ρ' B' v x:=by
  induction h with
  |any x=>exact .any x
  |int k n=>exact .int k n
  |bool b=>exact .bool b
  |str s b h=>exact .str s b h
  |nilptr=>exact .nilptr
  |nilsl=>exact .nilsl
  |nilmap=>exact .nilmap
  |nilfn=>exact .nilfn
  |nilif=>exact .nilif
  |ifv t x=>exact .ifv t x
  |anyi k n=>exact .anyi k n
  |tab xs b ty o hb hB' h=>exact absurd hp (by simp [V.flat])
  | agg cs xs hl _ ih=>
    simp only [V.flat] at hp
    exact .agg cs xs hl fun i c x h1 h2=>ih i c x h1 h2 (flatL_mem hp c (List.mem_of_getElem? h1))
  | tup cs xs hl _ ih=>
    simp only [V.flat] at hp
    exact .tup cs xs hl fun i c x h1 h2=>ih i c x h1 h2 (flatL_mem hp c (List.mem_of_getElem? h1))
  |_=>simp [V.flat] at hp

/-- what stands at the end of a body: the result as the caller reads it -/
def Fin(m0:Mem)(R:V→Option Mem→Prop)(v:V)(m':Mem):Prop:=
  (v.flat=true∧R v none)∨(∃ ext v',m'=lend m0++ext∧frz m' m0.length 4 v=some v'∧R v' none)

def QRet (P:Program) (fn:Func) (F:V→Mem→Prop):Exit→List (Nat×V)→Mem→Prop:=
  fun e t m=>(e= .normal∨e= .ret)∧match resV P t m fn.results.toList with
    |some v=>F v m
    |none=>False

theorem start_rel{w:World}{ρ:List Re}{m:Mem}{args:List V}{xs:Array Value}{n:Nat}(hM:RelM w ρ m)(hA:RelAs w ρ m args xs)(hn:args.length≤n):
    Rel n ⟨w.heap.size,none⟩ w ρ m (argT 0 args) { tmps:=xs++Array.replicate (n - xs.size) undef,defers:=[] }:=by
  refine⟨hM,fun i=>?_,by simp;have:=hA.1;omega,DfR.nil (Nat.le_refl _)⟩
  rw [argT_get]
  simp only [Nat.zero_le,if_true,Nat.sub_zero]
  cases h:args[i]? with
  |none=>exact .any _
  | some v=>
    have hi:i<xs.size:=by rw [←hA.1];exact(List.getElem?_eq_some_iff.1 h).1
    have hx:xs[i]?=some xs[i]:=Array.getElem?_eq_getElem hi
    have:(xs++Array.replicate (n - xs.size) undef).getD i undef=xs[i]:=by
      rw [Array.getD_eq_getD_getElem?,Array.getElem?_append_left hi,hx];rfl
    rw [this]
    exact hA.2 i v _ h hx

/-- a contract out of the body's end: the marks of its ranges over functions run, then the results are read -/
theorem calls_marks{f:FuncId}{fn:Func}{c:Code}{xs:Array Value}{w:World}{R:Ending→World→Prop}(hf:P.funcs[f]?=some fn)(hb:fn.body=some c)
    (h:c.wpIn Fence.wide 0 P (fun e a' w'=>(e= .normal∨e= .ret)∧(∃ ρ' m',DfR ⟨w.heap.size,none⟩ w' ρ' m' a'.defers)∧∀ w'',Shut w.heap.size w' w''→∃ v,(results fn a'.tmps).run P w''= .ok v w''∧R (.returned v) w'')
      { tmps:=xs++Array.replicate (fn.ntmps - xs.size) undef,defers:=[] } w):Calls P f xs w R:=by
  refine(callsIn_wide (n:=0)).1 (callsIn_of_wp_marks hf hb trivial (wpIn_mono h ?_))
  rintro e a' w' ⟨he,⟨ρ',m',hd⟩,hr⟩
  have:=leaves_marks (F:=Fence.wide) (n:=0) (P:=P) (fn:=fn) (tmps:=a'.tmps) (R:=R) a'.defers w' hd.2.1 (fun d hd'=>let ⟨D,h1,h2,h3,_⟩:=hd.2.2 d hd';⟨D,h1,h2,h3⟩) hr
  rcases he with rfl|rfl<;>exact this

/-- a contract out of the code: the caller's memory is read alone -/
theorem CallA_intro {f:FuncId} {fn:Func} {c:Code} {args:List V} {m:Mem} {R:V→Option Mem→Prop} (hf:P.funcs[f]?=some fn) (hb:fn.body=some c) (hg:isGo P f=true) (hn:args.length≤fn.ntmps)
    (h:WA P fn.ntmps c (argT 0 args) (lend m) (QRet P fn (Fin m R))):CallA P f args m R:=by
  refine⟨hg,fun w ρ xs hM hA=>calls_marks hf hb ?_⟩
  have hM':=hM.lend
  have hA':RelAs w ρ (lend m) args xs:=⟨hA.1,fun i v x h1 h2=>RelV.lend.2 (hA.2 i v x h1 h2)⟩
  refine wpIn_mono (h _ Free.wide w.heap.size w ρ _ (start_rel hM' hA' hn)) ?_
  rintro e a' w' ⟨t',m',ρ',⟨he,hq⟩,hR,af⟩
  split at hq
  · rename_i v hv
    refine⟨he,⟨_,_,hR.defers⟩,fun w1 hsh=>?_⟩
    have af:=af.shut hsh
    have hM1:=hR.mem.shut hsh
    have hT1:RelT w1 ρ' m' t' a':=fun i=>(hR.tm i).shut hsh
    obtain⟨x,hrun,hrv⟩:=resV_sound (P:=P) hM1 hT1 hv
    have hbel:Below w.heap.size w w1:=⟨af.keep.os,af.keep.tape,af.keep.output,af.keep.size,fun k hk=>af.keep.block k hk lend_own⟩
    have fin:∃ v mo x',(Ending.returned x= .returned x')∧R v mo∧((mo=none∧Below w.heap.size w w1∧RelV w1 ρ (bad m ρ) v x')∨∃ m'' ρ'',mo=some m''∧After w ρ m w1 ρ'' m''∧RelV w1 ρ'' (bad m'' ρ'') v x'):=by
      rcases hq with ⟨hp,hr⟩|⟨ext,v',rfl,hfz,hr⟩
      · refine⟨v,none,x,rfl,hr,.inl ⟨rfl,hbel,flat_rel hrv hp⟩⟩
      · refine⟨v',none,x,rfl,hr,.inl ⟨rfl,hbel,?_⟩⟩
        have h1:=frz_sound hM1 m.length 4 hrv hfz
        have e1:(lend m++ext).take m.length=lend m:=by
          have:m.length=(lend m).length:=by simp [lend]
          rw [this];exact List.take_left
        have e2:ρ'.take m.length=ρ:=by
          apply List.ext_getElem?
          intro i
          rcases Nat.lt_or_ge i m.length with hi|hi
          · rw [List.getElem?_take_of_lt hi]
            have hi':i<ρ.length:=by rw [hM.len];exact hi
            have hx:ρ[i]?=some ρ[i]:=List.getElem?_eq_getElem hi'
            rw [hx]
            exact af.pre i _ hx
          · rw [List.getElem?_eq_none (by simp;omega),List.getElem?_eq_none (by have:=hM.len;omega)]
        rw [e1,e2] at h1
        exact RelV.lend.1 h1
    exact⟨x,hrun,fin⟩
  · exact hq.elim

/-- a contract out of the code: the caller's memory may be written -/
theorem CallA_introD{f:FuncId}{fn:Func}{c:Code}{args:List V}{m:Mem}{R:V→Option Mem→Prop}(hf:P.funcs[f]?=some fn)(hb:fn.body=some c)(hg:isGo P f=true)(hn:args.length≤fn.ntmps)
    (h:WA P fn.ntmps c (argT 0 args) m (QRet P fn (fun v m'=>R v (some m')))):CallA P f args m R:=by
  refine⟨hg,fun w ρ xs hM hA=>calls_marks hf hb ?_⟩
  refine wpIn_mono (h _ Free.wide w.heap.size w ρ _ (start_rel hM hA hn)) ?_
  rintro e a' w' ⟨t',m',ρ',⟨he,hq⟩,hR,af⟩
  split at hq
  · rename_i v hv
    refine⟨he,⟨_,_,hR.defers⟩,fun w1 hsh=>?_⟩
    have hT1:RelT w1 ρ' m' t' a':=fun i=>(hR.tm i).shut hsh
    obtain⟨x,hrun,hrv⟩:=resV_sound (P:=P) (hR.mem.shut hsh) hT1 hv
    exact⟨x,hrun,v,some m',x,rfl,hq,.inr ⟨m',ρ',rfl,af.shut hsh,hrv⟩⟩
  · exact hq.elim
end
end Go.Proofs.YtomkbpoicjabfaaGreatDoor
