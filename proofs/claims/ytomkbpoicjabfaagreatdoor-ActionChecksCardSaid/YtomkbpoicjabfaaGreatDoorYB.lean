import Derived.Test.YtomkbpoicjabfaaGreatDoorYA
import Derived.Orders
import Derived.OrdersIn
set_option linter.unusedSimpArgs false
set_option linter.unusedVariables false
/- a region that draws its order: one walk, in an order of our choice, serves every order -/
namespace Go.Proofs.YtomkbpoicjabfaaGreatDoor
open Go.RowKit

/-- an operation yields a value, and leaves a world -/
def stOp(P:Program)(o:Oper)(a:Act)(w:World)(K:Value→World→Prop):Prop:=
  match (execOp a.eval o).run P w with
  | .ok (.value x) w'=>K x w'
  | .ok .skip w'=>K undef w'
  | .ok (.enter f args) w'=>Calls P f args w' (fun e w''=>∃ x,e= .returned x∧K x w'')
  | .ok (.round l fn tmps assign body) w'=>∀ F,Free F→RoundIn F 0 P l fn tmps assign body w' (fun e w''=>∃ x,e= .returned x∧K x w'')
  |_=>False

/-- p: the same value in whatever world · q: one value in every world behind the region's first one, new blocks at most · a: new blocks at most · f: writes what the region itself has made · w: whatever -/
inductive Kd where
  |p
  |q
  |a
  |f
  |w
  deriving DecidableEq
/-- one operation; or calls, in their order, and beside them operations that make a block each, in whichever order -/
inductive El where
  |one (i:Nat)
  |grp (b:Bool) (cs ns:List Nat)
def El.idx:El→List Nat
  | .one i=>[i]
  | .grp _ cs ns=>cs++ns
def idxs(l:List El):List Nat:=l.flatMap El.idx

abbrev Ext(w w':World):Prop:=Below w.heap.size w w'
theorem Ext.trans{a b c:World}(h:Ext a b)(k:Ext b c):Ext a c:=Below.trans h (k.mono h.size)

/-- i comes behind j, by the edges -/
def reach (ops:Array Oper):Nat→Nat→Nat→Bool
  |0,_,_=>false
  | n+1,i,j=>match ops[i]? with
    |some o=>o.after.toList.any fun e=>Region.binds .any e && (e.on==j || reach ops n e.on j)
    |none=>false
section
variable {P:Program} {ops:Array Oper} {kd:Nat→Kd} {S:World→Prop}

theorem st_mono{o:Oper}{a:Act}{w:World}{K K':Value→World→Prop}(h:stOp P o a w K)(hk:∀ x w,K x w→K' x w):stOp P o a w K':=by
  unfold stOp at *
  split at h
  · exact hk _ _ h
  · exact hk _ _ h
  · exact h.mono fun e w' ⟨x,h1,h2⟩=>⟨x,h1,hk _ _ h2⟩
  · exact fun F hF=>(h F hF).mono fun e w' ⟨x,h1,h2⟩=>⟨x,h1,hk _ _ h2⟩
  · exact h.elim
theorem st_congr{o:Oper}{a a':Act}{w:World}{K:Value→World→Prop}(he:execOp a'.eval o=execOp a.eval o)(h:stOp P o a w K):stOp P o a' w K:=by
  unfold stOp at *
  rw [he];exact h
theorem wp_of_st{F:Fence}(hF:Free F){n:Nat}{o:Oper}{a:Act}{w:World}{K:Value→World→Prop}{next:Act→World→Prop}{Q:Exit→Act→World→Prop}(h:stOp P o a w K)(hk:∀ x w',K x w'→next (a.put o.dst x) w'):o.wpIn F n P a w next Q:=by
  have hnd:∀ c,o.op≠ .defer c:=by
    intro c hc
    unfold stOp at h
    simp only [execOp,hc,Sem.run_bind] at h
    generalize (resolve a.eval c o.type).run P w=r at h
    cases r<;>simp [Result.andThen] at h
  unfold stOp at h
  unfold Oper.wpIn
  rw [Oper.semAt_eq _ _ _ hnd]
  refine⟨fun f _=>hF.fn f,?_⟩
  split at h
  · rename_i e;rw [e];exact hk _ _ h
  · rename_i e;rw [e];exact hk _ _ h
  · rename_i e
    rw [e]
    refine⟨fun e=>(by rw [hF.depth] at e;cases e),hF.calls (h.mono ?_)⟩
    rintro e w' ⟨x,rfl,h2⟩
    exact hk _ _ h2
  · rename_i e
    rw [e]
    refine⟨fun e=>(by rw [hF.depth] at e;cases e),RoundIn.free hF ((h F hF).mono ?_)⟩
    rintro e w' ⟨x,rfl,h2⟩
    exact hk _ _ h2
  · exact h.elim

/-- what one operation does, and what follows -/
def kPost(P:Program)(S:World→Prop)(o:Oper)(a:Act)(w:World)(k:Kd)(K':Act→World→Prop):Prop:=match k with
  | .p=>∃ v,(∀ w',stOp P o a w' fun x w''=>x=v∧w''=w')∧K' (a.put o.dst v) w
  | .q=>∃ v,(∀ w',S w'→stOp P o a w' fun x w''=>x=v∧Ext w' w'')∧K' (a.put o.dst v) w
  | .a=>∀ w',Ext w w'→stOp P o a w' fun x w''=>Ext w' w''∧K' (a.put o.dst x) w''
  | .f=>∀ w',Ext w w'→S w'→stOp P o a w' fun x w''=>S w''∧K' (a.put o.dst x) w''
  | .w=>∀ w',Ext w w'→stOp P o a w' fun x w''=>K' (a.put o.dst x) w''
theorem kPost_mono{o:Oper}{a:Act}{w:World}{k:Kd}{K K':Act→World→Prop}(h:kPost P S o a w k K)(hk:∀ a w,K a w→K' a w):kPost P S o a w k K':=by
  cases k with
  |p=>obtain⟨v,h1,h2⟩:=h;exact⟨v,h1,hk _ _ h2⟩
  |q=>obtain⟨v,h1,h2⟩:=h;exact⟨v,h1,hk _ _ h2⟩
  |a=>exact fun w' hw'=>st_mono (h w' hw') fun x w'' ⟨h1,h2⟩=>⟨h1,hk _ _ h2⟩
  |f=>exact fun w' hw' hb=>st_mono (h w' hw' hb) fun x w'' ⟨h1,h2⟩=>⟨h1,hk _ _ h2⟩
  |w=>exact fun w' hw'=>st_mono (h w' hw') fun x w'' h2=>hk _ _ h2
/-- a group, in whichever order it comes -/
def grpL (P:Program) (ops:Array Oper) (kd:Nat→Kd) (S:World→Prop) (K:Act→World→Prop):Nat→List Nat→List Nat→Act→World→Prop
  |0,cs,ns,a,w=>cs=[]∧ns=[]∧K a w
  | f+1,cs,ns,a,w=>(∀ c cs',cs=c::cs'→(∀ n∈ns,reach ops ops.size c n=false)→∃ o,ops[c]?=some o∧∀ w',Ext w w'→(kd c= .f→S w')→stOp P o a w' fun x w''=>(if kd c= .f then S w'' else Ext w' w'')∧grpL P ops kd S K f cs' ns (a.put o.dst x) w'')∧
    (∀ n∈ns,∃ o,ops[n]?=some o∧∀ w',Ext w w'→stOp P o a w' fun x w''=>Ext w' w''∧grpL P ops kd S K f cs (ns.erase n) (a.put o.dst x) w'')
/-- the operations in our order -/
def mixL (P:Program) (ops:Array Oper) (kd:Nat→Kd) (S:World→Prop) (Q:Act→World→Prop):List El→Act→World→Prop
  |[],a,w=>∀ w',Ext w w'→Q a w'
  | .one i::l,a,w=>∃ o,ops[i]?=some o∧
    if Region.wanted o (yielded ops a.tmps)=true then kPost P S o a w (kd i) (mixL P ops kd S Q l) else mixL P ops kd S Q l (a.put o.dst undef) w
  | .grp _ cs ns::l,a,w=>grpL P ops kd S (mixL P ops kd S Q l) (cs.length+ns.length) cs ns a w

theorem mix_cons{Q:Act→World→Prop}{i:Nat}{l l':List El}(h:∀ a w,mixL P ops kd S Q l a w→mixL P ops kd S Q l' a w){a:Act}{w:World}(hm:mixL P ops kd S Q (.one i::l) a w):mixL P ops kd S Q (.one i::l') a w:=by
  obtain⟨o,ho,hm⟩:=hm
  refine⟨o,ho,?_⟩
  split
  · rename_i hw
    rw [if_pos hw] at hm
    exact kPost_mono hm h
  · rename_i hw
    rw [if_neg hw] at hm
    exact h _ _ hm

/-- an operation that may be put off -/
theorem quiet_view{Q:Act→World→Prop}{k:Nat}{l:List El}(hk:kd k= .p∨kd k= .q){a:Act}{w:World}(hm:mixL P ops kd S Q (.one k::l) a w):
    ∃ o v,ops[k]?=some o∧mixL P ops kd S Q l (a.put o.dst v) w∧∀ (a':Act) (l':List El) (w2:World),execOp a'.eval o=execOp a.eval o→Region.wanted o (yielded ops a'.tmps)=Region.wanted o (yielded ops a.tmps)→
      mixL P ops kd S Q l' (a'.put o.dst v) w2→mixL P ops kd S Q (.one k::l') a' w2:=by
  obtain⟨o,ho,hm⟩:=hm
  by_cases hw:Region.wanted o (yielded ops a.tmps)=true
  · rw [if_pos hw] at hm
    rcases hk with hk|hk
    · rw [hk] at hm
      obtain⟨v,h1,h2⟩:=hm
      refine⟨o,v,ho,h2,fun a' l' w2 e1 e2 h3=>⟨o,ho,?_⟩⟩
      rw [if_pos (e2.trans hw),hk]
      exact⟨v,fun w'=>st_congr e1 (h1 w'),h3⟩
    · rw [hk] at hm
      obtain⟨v,h1,h2⟩:=hm
      refine⟨o,v,ho,h2,fun a' l' w2 e1 e2 h3=>⟨o,ho,?_⟩⟩
      rw [if_pos (e2.trans hw),hk]
      exact⟨v,fun w' hw'=>st_congr e1 (h1 w' hw'),h3⟩
  · rw [if_neg hw] at hm
    refine⟨o,undef,ho,hm,fun a' l' w2 e1 e2 h3=>⟨o,ho,?_⟩⟩
    rw [if_neg (by rw [e2];exact hw)]
    exact h3

theorem mix_swap{Q:Act→World→Prop}{i j:Nat}{l:List El}{oi oj:Oper}(hi:ops[i]?=some oi)(hj:ops[j]?=some oj)(hap:oi.apart ops oj=true)(hsel:∀ (k:Nat) (o:Oper) cs b,ops[k]?=some o→o.op≠ .select cs b)
    (hkj:kd j= .p∨kd j= .q) {a:Act} {w:World} (hm:mixL P ops kd S Q (.one j:: .one i::l) a w):mixL P ops kd S Q (.one i:: .one j::l) a w:=by
  obtain⟨p1,p2,p3⟩:=Oper.apart_spec hap
  obtain⟨oj',v,hj',⟨oi',hi',h2⟩,hJ⟩:=quiet_view hkj hm
  rw [hj] at hj';cases hj'
  rw [hi] at hi';cases hi'
  rw [wanted_put oi a oj.dst v p3] at h2
  have hex:=execOp_put oi (fun cs b=>hsel i oi cs b hi) a oj.dst v p3
  have hcm:∀ u,(a.put oj.dst v).put oi.dst u=(a.put oi.dst u).put oj.dst v:=fun u=>(Act.put_comm a u v p2).symm
  have back:∀ (u:Value) (w2:World),mixL P ops kd S Q l ((a.put oj.dst v).put oi.dst u) w2→mixL P ops kd S Q (.one j::l) (a.put oi.dst u) w2:=fun u w2 h=>by
    rw [hcm] at h
    exact hJ _ _ _ (execOp_put oj (fun cs b=>hsel j oj cs b hj) a oi.dst u p1) (wanted_put oj a oi.dst u p1) h
  refine⟨oi,hi,?_⟩
  split
  · rename_i hw
    rw [if_pos hw] at h2
    cases hk:kd i with
    | p=>
      rw [hk] at h2
      obtain⟨u,h3,h4⟩:=h2
      exact⟨u,fun w'=>st_congr hex.symm (h3 w'),back u w h4⟩
    | q=>
      rw [hk] at h2
      obtain⟨u,h3,h4⟩:=h2
      exact⟨u,fun w' hw'=>st_congr hex.symm (h3 w' hw'),back u w h4⟩
    | a=>
      rw [hk] at h2
      exact fun w' hw'=>st_mono (st_congr hex.symm (h2 w' hw')) fun x w'' ⟨h3,h4⟩=>⟨h3,back x w'' h4⟩
    | f=>
      rw [hk] at h2
      exact fun w' hw' hb=>st_mono (st_congr hex.symm (h2 w' hw' hb)) fun x w'' ⟨h3,h4⟩=>⟨h3,back x w'' h4⟩
    | w=>
      rw [hk] at h2
      exact fun w' hw'=>st_mono (st_congr hex.symm (h2 w' hw')) fun x w'' h4=>back x w'' h4
  · rename_i hw
    rw [if_neg hw] at h2
    exact back undef w h2

theorem mix_front{Q:Act→World→Prop}{i:Nat}{oi:Oper}(hi:ops[i]?=some oi)(hsel:∀ (k:Nat) (o:Oper) cs b,ops[k]?=some o→o.op≠ .select cs b):∀ (l1:List Nat) (l2:List El),
    (∀ j∈l1,(kd j= .p∨kd j= .q)∧∃ oj,ops[j]?=some oj∧oi.apart ops oj=true)→∀ a w,mixL P ops kd S Q (l1.map .one++ .one i::l2) a w→mixL P ops kd S Q (.one i::(l1.map .one++l2)) a w
  |[],_,_,_,_,h=>h
  | j::l1,l2,hq,a,w,h=>by
    obtain⟨h1,oj,h3,h4⟩:=hq j List.mem_cons_self
    have:=mix_cons (fun a w=>mix_front hi hsel l1 l2 (fun j hj=>hq j (List.mem_cons_of_mem _ hj)) a w) h
    exact mix_swap hi h3 h4 hsel h1 this
/-- the next of a group, ahead of what may be put off -/
theorem mix_execg {Q:Act→World→Prop} {i:Nat} {oi:Oper} (hi:ops[i]?=some oi) (hsel:∀ (k:Nat) (o:Oper) cs b,ops[k]?=some o→o.op≠ .select cs b) {cs ns cs' ns':List Nat}
    {bb:Bool} (he:(cs=i::cs'∧ns'=ns∧∀ n∈ns,reach ops ops.size i n=false)∨(i∈ns∧cs'=cs∧ns'=ns.erase i)) (hka:i∈ns→kd i= .a):∀ (l1:List Nat) (l2:List El),
    (∀ j∈l1,(kd j= .p∨kd j= .q)∧∃ oj,ops[j]?=some oj∧oi.apart ops oj=true)→∀ a w,mixL P ops kd S Q (l1.map .one++ .grp bb cs ns::l2) a w→∀ w',Ext w w'→(kd i= .f→S w')→stOp P oi a w' fun x w1=>(if kd i= .f then S w1 else Ext w' w1)∧mixL P ops kd S Q (l1.map .one++ .grp bb cs' ns'::l2) (a.put oi.dst x) w1
  | [], l2,_,a,w,h=>by
    intro w' hw' hsw
    have hpos:cs.length+ns.length=cs'.length+ns'.length+1:=by
      rcases he with ⟨rfl,rfl,_⟩|⟨hm,rfl,rfl⟩
      · simp;omega
      · have:=List.length_erase_of_mem hm
        have:0<ns.length:=List.length_pos_of_mem hm
        omega
    have h':grpL P ops kd S (mixL P ops kd S Q l2) (cs'.length+ns'.length+1) cs ns a w:=by
      rw [←hpos];exact h
    obtain⟨h1,h2⟩:=h'
    rcases he with ⟨rfl,rfl,hrd⟩|⟨hm,rfl,rfl⟩
    · obtain⟨o,ho,hh⟩:=h1 i cs' rfl hrd
      rw [hi] at ho;cases ho
      exact hh w' hw' hsw
    · obtain⟨o,ho,hh⟩:=h2 i hm
      rw [hi] at ho;cases ho
      refine st_mono (hh w' hw') fun x w1 ⟨e1,e2⟩=>⟨?_,e2⟩
      rw [hka hm,if_neg (by decide)]
      exact e1
  | j::l1,l2,hq,a,w,h=>by
    obtain⟨h1,oj,h3,h4⟩:=hq j List.mem_cons_self
    obtain⟨p1,p2,p3⟩:=Oper.apart_spec h4
    obtain⟨oj',v,hj',hm,hJ⟩:=quiet_view h1 h
    rw [h3] at hj';cases hj'
    have ih:=mix_execg hi hsel he hka l1 l2 (fun j hj=>hq j (List.mem_cons_of_mem _ hj)) _ _ hm
    have hex:=execOp_put oi (fun cs b=>hsel i oi cs b hi) a oj.dst v p3
    intro w' hw' hsw
    refine st_mono (st_congr hex.symm (ih w' hw' hsw)) fun x w1 ⟨e1,h5⟩=>⟨e1,?_⟩
    rw [←Act.put_comm a x v p2] at h5
    exact hJ _ _ _ (execOp_put oj (fun cs b=>hsel j oj cs b h3) a oi.dst x p1) (wanted_put oj a oi.dst x p1) h5

def apartB(ops:Array Oper)(i j:Nat):Bool:=match ops[i]?,ops[j]? with
  |some oi,some oj=>oi.apart ops oj
  |_,_=>false
/-- j stands ahead of i in our order -/
def okPair(ops:Array Oper)(kd:Nat→Kd)(j i:Nat):Bool:=
  reach ops ops.size i j || (apartB ops i j && (decide (kd j= .p) || (decide (kd j= .q) && !decide (kd i= .w))))
def okPre(ops:Array Oper)(j:Nat)(rest:List Nat):Bool:=match ops[j]? with
  |some o=>o.after.toList.all fun e=>!Region.binds .any e || (decide (e.on<ops.size) && !rest.contains e.on)
  |none=>false
def noGuard(ops:Array Oper)(j:Nat):Bool:=match ops[j]? with
  |some o=>o.guard.isNone
  |none=>false
def noQ(kd:Nat→Kd)(l:List Nat):Bool:=l.all fun i=>!decide (kd i= .q)
def noF(kd:Nat→Kd)(l:List Nat):Bool:=l.all fun i=>!decide (kd i= .f)
/-- an operation that may come earlier than we have it: it reads its slots alone -/
def plainOp:Op→Bool
  | .move _| .assign _| .pick .. | .extract .. | .fieldAddr .. | .field .. | .indexAddr .. | .index .. | .makeFunc .. | .build .. | .binOp .. | .slice .. =>true
  |_=>false
def hoist(ops:Array Oper)(kd:Nat→Kd)(i:Nat):Bool:=decide (kd i= .p) && (match ops[i]? with
  |some o=>o.guard.isNone && plainOp o.op
  |none=>false)
def okPairG(ops:Array Oper)(kd:Nat→Kd)(j i:Nat):Bool:=okPair ops kd j i || (!decide (kd j= .f) && (apartB ops i j && apartB ops j i && hoist ops kd i))
/-- calls, each behind the one before, none behind what else there is -/
def okChain(ops:Array Oper):List Nat→List Nat→Bool
  |[],_=>true
  |c::cs,rest=>okPre ops c (c::cs++rest) && cs.all (fun d=>reach ops ops.size d c) && okChain ops cs rest
def nodupB:List Nat→Bool
  |[]=>true
  |i::l=>!l.contains i && nodupB l
def okOrder (ops:Array Oper) (kd:Nat→Kd):List El→Bool
  |[]=>true
  | .one j::l=>(idxs l).all (okPair ops kd j) && okPre ops j (j::idxs l) && !(idxs l).contains j && (decide (kd j= .p) || decide (kd j= .q) || noQ kd (idxs l)) && (!decide (kd j= .w) || noF kd (idxs l)) && okOrder ops kd l
  | .grp b cs ns::l=>okChain ops cs (idxs l) && ns.all (fun n=>okPre ops n (cs++ns++idxs l)) && (cs++ns).all (fun i=>(idxs l).all (okPairG ops kd i) && !(idxs l).contains i && (decide (kd i= .a) || decide (kd i= .f)) && noGuard ops i) && ns.all (fun n=>decide (kd n= .a)) &&
    nodupB (cs++ns) && (!b || ns.all (fun n=>(cs++ns).all fun i=>n==i || (apartB ops n i && apartB ops i n))) && noQ kd (idxs l) && okOrder ops kd l
def okMix(ops:Array Oper)(kd:Nat→Kd)(l:List El):Bool:=
  okOrder ops kd l && ((idxs l).length==ops.size) && (List.range ops.size).all ((idxs l).contains ·) && Region.noSelect ops

def Closed(ops:Array Oper)(listed:Array Bool):Prop:=∀ (k:Nat) (o:Oper),ops[k]?=some o→listed.getD k true=true→∀ e∈o.after,Region.binds .any e=true→listed.getD e.on false=true

theorem reach_listed {listed:Array Bool} (hc:Closed ops listed):∀ (n i j:Nat) (o:Oper),ops[i]?=some o→(∀ e∈o.after,Region.binds .any e=true→listed.getD e.on false=true)→reach ops n i j=true→listed.getD j false=true
  |0,_,_,_,_,_,h=>by simp [reach] at h
  | n + 1,i,j,o,ho,hp,h=>by
    simp only [reach,ho,List.any_eq_true,Bool.and_eq_true,Bool.or_eq_true,beq_iff_eq] at h
    obtain⟨e,he,hb,h⟩:=h
    have he':e∈o.after:=by simpa using he
    have hl:=hp e he' hb
    rcases h with h|h
    · rw [←h];exact hl
    · cases hk:ops[e.on]? with
      | none=>
        cases n with
        |zero=>simp [reach] at h
        |succ n=>simp [reach,hk] at h
      | some o'=>
        refine reach_listed hc n e.on j o' hk (hc e.on o' hk ?_) h
        have hlt:e.on<listed.size:=by
          rcases Nat.lt_or_ge e.on listed.size with q|q
          · exact q
          · simp [Array.getD,Nat.not_lt.2 q] at hl
        simp only [Array.getD,hlt,dif_pos] at hl ⊢
        exact hl

theorem idxs_cons(e:El)(l:List El):idxs (e::l)=e.idx++idxs l:=rfl
theorem idxs_append(l1 l2:List El):idxs (l1++l2)=idxs l1++idxs l2:=by simp [idxs]
theorem okPre_mono{j:Nat}{r r':List Nat}(h:okPre ops j r=true)(hs:∀ x∈r',x∈r):okPre ops j r'=true:=by
  unfold okPre at *
  split at h
  · rw [List.all_eq_true] at h ⊢
    intro e he
    have:=h e he
    simp only [Bool.or_eq_true,Bool.not_eq_true',Bool.and_eq_true] at this ⊢
    rcases this with q|⟨q0,q⟩
    · exact .inl q
    · refine .inr ⟨q0,?_⟩
      simp only [List.contains_eq_mem,decide_eq_false_iff_not] at q ⊢
      exact fun hx=>q (hs _ hx)
  · cases h
theorem all_mono{p:Nat→Bool}{r r':List Nat}(h:r.all p=true)(hs:∀ x∈r',x∈r):r'.all p=true:=by
  rw [List.all_eq_true] at h ⊢
  exact fun x hx=>h x (hs x hx)
theorem nc_mono{j:Nat}{r r':List Nat}(h:r.contains j=false)(hs:∀ x∈r',x∈r):r'.contains j=false:=by
  simp only [List.contains_eq_mem,decide_eq_false_iff_not] at h ⊢
  exact fun hx=>h (hs _ hx)
theorem ready_of{listed:Array Bool}{i0:Nat}{rest:List Nat}(hsz:listed.size=ops.size)(hl:∀ i,i∈rest↔i<ops.size∧listed.getD i true=false)(hi0:i0∈rest)(hp:okPre ops i0 rest=true):i0∈Region.ready .any ops listed:=by
  unfold okPre at hp
  split at hp
  · rename_i o ho
    refine mem_ready.2 ⟨((hl i0).1 hi0).2,o,ho,fun e he hb=>?_⟩
    rw [List.all_eq_true] at hp
    have h3:=hp e (by simpa using he)
    simp only [hb,Bool.not_true,Bool.false_or,Bool.and_eq_true,decide_eq_true_eq,Bool.not_eq_true',List.contains_eq_mem,decide_eq_false_iff_not] at h3
    have h4:¬ (e.on<ops.size∧listed.getD e.on true=false):=fun hx=>h3.2 ((hl e.on).2 hx)
    have h5:listed.getD e.on true=true:=by
      cases hx:listed.getD e.on true with
      |true=>rfl
      |false=>exact(h4 ⟨h3.1,hx⟩).elim
    have hlt:e.on<listed.size:=by rw [hsz];exact h3.1
    simp only [Array.getD,hlt,dif_pos] at h5 ⊢
    exact h5
  · cases hp
theorem noGuard_of{j:Nat}{o:Oper}(h:noGuard ops j=true)(ho:ops[j]?=some o):o.guard=none:=by
  unfold noGuard at h
  rw [ho] at h
  simpa using h

theorem okChain_mono:∀ {cs:List Nat} {r r':List Nat},okChain ops cs r=true→(∀ x∈r',x∈r)→okChain ops cs r'=true
  |[],_,_,_,_=>rfl
  | c::cs,r,r',h,hs=>by
    simp only [okChain,Bool.and_eq_true] at h ⊢
    refine⟨⟨okPre_mono h.1.1 fun x hx=>?_,h.1.2⟩,okChain_mono h.2 hs⟩
    rcases List.mem_append.1 hx with k|k
    · exact List.mem_append_left _ k
    · exact List.mem_append_right _ (hs x k)
theorem nodupB_iff:∀ {l:List Nat},nodupB l=true↔l.Nodup
  |[]=>by simp [nodupB]
  | i::l=>by
    simp only [nodupB,Bool.and_eq_true,Bool.not_eq_true',List.contains_eq_mem,decide_eq_false_iff_not,List.nodup_cons,nodupB_iff (l:=l)]
/-- what is asked of a group -/
structure GrpOk(ops:Array Oper)(kd:Nat→Kd)(b:Bool)(cs ns rest:List Nat):Prop where
  chain:okChain ops cs rest=true
  pre:∀ n∈ns,okPre ops n (cs++ns++rest)=true
  pair:∀ i∈cs++ns,rest.all (okPairG ops kd i)=true
  nc:∀ i∈cs++ns,rest.contains i=false
  ka:∀ i∈cs++ns,kd i= .a∨kd i= .f
  kn:∀ n∈ns,kd n= .a
  ng:∀ i∈cs++ns,noGuard ops i=true
  nd:(cs++ns).Nodup
  ap:b=true→∀ n∈ns,∀ i∈cs++ns,n≠i→apartB ops n i=true∧apartB ops i n=true
  nq:noQ kd rest=true
theorem grp_iff{b:Bool}{cs ns:List Nat}{l:List El}:okOrder ops kd (.grp b cs ns::l)=true↔GrpOk ops kd b cs ns (idxs l)∧okOrder ops kd l=true:=by
  simp only [okOrder,Bool.and_eq_true,List.all_eq_true,decide_eq_true_eq,Bool.not_eq_true',nodupB_iff,Bool.or_eq_true,beq_iff_eq]
  constructor
  · rintro⟨⟨⟨⟨⟨⟨⟨h1,h2⟩,h3⟩,h8⟩,h4⟩,h5⟩,h6⟩,h7⟩
    exact⟨⟨h1,h2,fun i hi=>List.all_eq_true.2 (h3 i hi).1.1.1,fun i hi=>(h3 i hi).1.1.2,fun i hi=>(h3 i hi).1.2,h8,fun i hi=>(h3 i hi).2,h4,fun hb n hn i hi hne=>((h5.resolve_left (by simp [hb])) n hn i hi).resolve_left hne,h6⟩,h7⟩
  · rintro⟨h,h7⟩
    refine⟨⟨⟨⟨⟨⟨⟨h.chain,h.pre⟩,fun i hi=>⟨⟨⟨List.all_eq_true.1 (h.pair i hi),h.nc i hi⟩,h.ka i hi⟩,h.ng i hi⟩⟩,h.kn⟩,h.nd⟩,?_⟩,h.nq⟩,h7⟩
    cases b with
    |false=>exact .inl rfl
    | true=>
      refine .inr fun n hn i hi=>?_
      by_cases e:n=i
      · exact .inl e
      · exact .inr (h.ap rfl n hn i hi e)
theorem GrpOk.mono{b:Bool}{cs ns r r':List Nat}(h:GrpOk ops kd b cs ns r)(hs:∀ x∈r',x∈r):GrpOk ops kd b cs ns r':=by
  refine⟨okChain_mono h.chain hs,fun n hn=>okPre_mono (h.pre n hn) fun x hx=>?_,fun i hi=>all_mono (h.pair i hi) hs,fun i hi=>nc_mono (h.nc i hi) hs,h.ka,h.kn,h.ng,h.nd,h.ap,all_mono h.nq hs⟩
  · rcases List.mem_append.1 hx with k|k
    · exact List.mem_append_left _ k
    · exact List.mem_append_right _ (hs x k)
theorem GrpOk.call{b:Bool}{c:Nat}{cs ns r:List Nat}(h:GrpOk ops kd b (c::cs) ns r):GrpOk ops kd b cs ns r:=by
  have hsub:∀ x∈cs++ns,x∈(c::cs)++ns:=fun x hx=>List.mem_cons_of_mem _ hx
  have hc:=h.chain
  simp only [okChain,Bool.and_eq_true] at hc
  exact⟨hc.2,fun n hn=>okPre_mono (h.pre n hn) fun x hx=>List.mem_cons_of_mem _ hx,fun i hi=>h.pair i (hsub i hi),fun i hi=>h.nc i (hsub i hi),fun i hi=>h.ka i (hsub i hi),h.kn,fun i hi=>h.ng i (hsub i hi),(List.nodup_cons.1 h.nd).2,fun hb n hn i hi=>h.ap hb n hn i (hsub i hi),h.nq⟩
theorem GrpOk.make{b:Bool}{n:Nat}{cs ns r:List Nat}(h:GrpOk ops kd b cs ns r):GrpOk ops kd b cs (ns.erase n) r:=by
  have he:∀ x∈ns.erase n,x∈ns:=fun x hx=>List.mem_of_mem_erase hx
  have hsub:∀ x∈cs++ns.erase n,x∈cs++ns:=fun x hx=>by
    rcases List.mem_append.1 hx with k|k
    · exact List.mem_append_left _ k
    · exact List.mem_append_right _ (he x k)
  have hnd:(cs++ns.erase n).Nodup:=by
    have:=h.nd
    rw [List.nodup_append] at this ⊢
    exact⟨this.1,this.2.1.erase n,fun a ha b hb=>this.2.2 a ha b (he b hb)⟩
  refine⟨h.chain,fun k hk=>okPre_mono (h.pre k (he k hk)) fun x hx=>?_,fun i hi=>h.pair i (hsub i hi),fun i hi=>h.nc i (hsub i hi),fun i hi=>h.ka i (hsub i hi),fun n hn=>h.kn n (he n hn),fun i hi=>h.ng i (hsub i hi),hnd,fun hb k hk i hi=>h.ap hb k (he k hk) i (hsub i hi),h.nq⟩
  · rcases List.mem_append.1 hx with k|k
    · exact List.mem_append_left _ (hsub x k)
    · exact List.mem_append_right _ k
theorem okOrder_mono{e:El}{l l':List El}(h:okOrder ops kd (e::l)=true)(h':okOrder ops kd l'=true)(hs:∀ x∈idxs l',x∈idxs l):okOrder ops kd (e::l')=true:=by
  cases e with
  | one j=>
    simp only [okOrder,Bool.and_eq_true,Bool.or_eq_true,Bool.not_eq_true',decide_eq_true_eq] at h ⊢
    obtain⟨⟨⟨⟨⟨h1,h2⟩,h3⟩,h4⟩,h5⟩,_⟩:=h
    refine⟨⟨⟨⟨⟨all_mono h1 hs,okPre_mono h2 fun x hx=>?_⟩,nc_mono h3 hs⟩,?_⟩,?_⟩,h'⟩
    · rcases List.mem_cons.1 hx with rfl|k
      · exact List.mem_cons_self
      · exact List.mem_cons_of_mem _ (hs x k)
    · rcases h4 with h4|h4
      · exact .inl h4
      · exact .inr (all_mono h4 hs)
    · rcases h5 with h5|h5
      · exact .inl h5
      · exact .inr (all_mono h5 hs)
  | grp b cs ns=>
    rw [grp_iff] at h ⊢
    exact⟨h.1.mono hs,h'⟩

/-- an element with one of its operations that may come next, and what is left of it without that -/
inductive Rem(ops:Array Oper):El→Nat→List El→Prop where
  |one (i:Nat):Rem ops (.one i) i []
  |call (b:Bool) (c:Nat) (cs ns:List Nat) (h:∀ n∈ns,reach ops ops.size c n=false):Rem ops (.grp b (c::cs) ns) c [.grp b cs ns]
  |make (b:Bool) (n:Nat) (cs ns:List Nat) (h:n∈ns):Rem ops (.grp b cs ns) n [.grp b cs (ns.erase n)]
theorem mem_erase_iff'{n x:Nat}{ns:List Nat}(hn:ns.Nodup):x∈ns.erase n↔x≠n∧x∈ns:=by
  exact hn.mem_erase_iff
theorem okOrder_rem {e:El} {i:Nat} {r l2:List El} (hr:Rem ops e i r):∀ {l1:List El},okOrder ops kd (l1++e::l2)=true→
    okOrder ops kd (l1++(r++l2))=true∧(∀ k∈idxs l1,okPairG ops kd k i=true)∧i ∉ idxs (l1++(r++l2))∧(∀ x,x∈idxs (l1++e::l2)↔x=i∨x∈idxs (l1++(r++l2)))∧
      (kd i= .w→noQ kd (idxs l2)=true∧noF kd (idxs l2)=true∧r=[])
  | [], h =>by
    cases hr with
    | one=>
      simp only [List.nil_append,okOrder,Bool.and_eq_true,Bool.or_eq_true,Bool.not_eq_true',decide_eq_true_eq] at h
      obtain⟨⟨⟨⟨⟨h1,h2⟩,h3⟩,h4⟩,h5⟩,h6⟩:=h
      refine⟨h6,by simp [idxs],?_,fun x=>by simp [idxs_cons,El.idx],fun hw=>⟨?_,?_,rfl⟩⟩
      · simpa using h3
      · rcases h4 with (h4|h4)|h4
        · rw [hw] at h4;cases h4
        · rw [hw] at h4;cases h4
        · exact h4
      · rcases h5 with h5|h5
        · simp [hw] at h5
        · exact h5
    | call b _ cs ns hrd=>
      rw [List.nil_append,grp_iff] at h
      obtain⟨hg,h6⟩:=h
      have hi:i∈(i::cs)++ns:=List.mem_cons_self
      refine⟨?_,by simp [idxs],?_,fun x=>?_,fun hw=>by rcases hg.ka i hi with q|q<;>rw [q] at hw<;>cases hw⟩
      · rw [List.nil_append,List.cons_append,List.nil_append,grp_iff]
        exact⟨hg.call,h6⟩
      · rw [List.nil_append,List.cons_append,List.nil_append,idxs_cons]
        intro hx
        rcases List.mem_append.1 hx with hx|hx
        · exact(List.nodup_cons.1 hg.nd).1 hx
        · have:=hg.nc i hi
          simp at this
          exact this hx
      · rw [List.nil_append,List.nil_append,List.cons_append,List.nil_append,idxs_cons,idxs_cons]
        simp only [El.idx,List.cons_append,List.mem_cons]
    | make b _ cs ns hm=>
      rw [List.nil_append,grp_iff] at h
      obtain⟨hg,h6⟩:=h
      have hi:i∈cs++ns:=List.mem_append_right _ hm
      have hnd:=hg.nd
      rw [List.nodup_append] at hnd
      refine⟨?_,by simp [idxs],?_,fun x=>?_,fun hw=>by rcases hg.ka i hi with q|q<;>rw [q] at hw<;>cases hw⟩
      · rw [List.nil_append,List.cons_append,List.nil_append,grp_iff]
        exact⟨hg.make,h6⟩
      · rw [List.nil_append,List.cons_append,List.nil_append,idxs_cons]
        intro hx
        rcases List.mem_append.1 hx with hx|hx
        · simp only [El.idx] at hx
          rcases List.mem_append.1 hx with hx|hx
          · exact hnd.2.2 i hx i hm rfl
          · exact((mem_erase_iff' hnd.2.1).1 hx).1 rfl
        · have:=hg.nc i hi
          simp at this
          exact this hx
      · rw [List.nil_append,List.nil_append,List.cons_append,List.nil_append,idxs_cons,idxs_cons]
        simp only [El.idx,List.mem_append,mem_erase_iff' hnd.2.1]
        constructor
        · rintro((h|h)|h)
          · exact .inr (.inl (.inl h))
          · by_cases e:x=i
            · exact .inl e
            · exact .inr (.inl (.inr ⟨e,h⟩))
          · exact .inr (.inr h)
        · rintro(rfl|(h|⟨_,h⟩)|h)
          · exact .inl (.inr hm)
          · exact .inl (.inl h)
          · exact .inl (.inr h)
          · exact .inr h
  | e0::l1,h=>by
    have hl:okOrder ops kd (l1++e::l2)=true:=by
      cases e0 with
      |one j=>simp only [List.cons_append,okOrder,Bool.and_eq_true] at h;exact h.2
      |grp b cs ns=>rw [List.cons_append,grp_iff] at h;exact h.2
    obtain⟨g1,g2,g3,g4,g5⟩:=okOrder_rem hr (l1:=l1) hl
    have hsub:∀ x∈idxs (l1++(r++l2)),x∈idxs (l1++e::l2):=fun x hx=>(g4 x).2 (.inr hx)
    have hin:i∈idxs (l1++e::l2):=(g4 i).2 (.inl rfl)
    have hp:∀ k∈e0.idx,okPairG ops kd k i=true∧k≠i:=by
      cases e0 with
      | one j=>
        simp only [List.cons_append,okOrder,Bool.and_eq_true,Bool.not_eq_true'] at h
        obtain⟨⟨⟨⟨⟨h1,_⟩,h3⟩,_⟩,_⟩,_⟩:=h
        rw [List.all_eq_true] at h1
        intro k hk
        simp only [El.idx,List.mem_singleton] at hk
        subst hk
        refine⟨by unfold okPairG;rw [h1 i hin];rfl,fun e=>?_⟩
        subst e
        simp at h3
        exact h3 (by simpa using hin)
      | grp b cs ns=>
        rw [List.cons_append,grp_iff] at h
        intro k hk
        refine⟨List.all_eq_true.1 (h.1.pair k hk) i hin,fun e=>?_⟩
        subst e
        have:=h.1.nc k hk
        simp at this
        exact this (by simpa using hin)
    refine⟨okOrder_mono h g1 hsub,?_,?_,?_,g5⟩
    · intro k hk
      rw [idxs_cons] at hk
      rcases List.mem_append.1 hk with hk|hk
      · exact(hp k hk).1
      · exact g2 k hk
    · intro hx
      rw [List.cons_append,idxs_cons] at hx
      rcases List.mem_append.1 hx with hk|hk
      · exact(hp i hk).2 rfl
      · exact g3 hk
    · intro x
      simp only [List.cons_append,idxs_cons,List.mem_append,g4 x]
      constructor
      · rintro(h|h|h)
        · exact .inr (.inl h)
        · exact .inl h
        · exact .inr (.inr h)
      · rintro(h|h|h)
        · exact .inr (.inl h)
        · exact .inl h
        · exact .inr (.inr h)
theorem okOrder_tail{L:List El}:∀ {l:List El},okOrder ops kd (l++L)=true→okOrder ops kd L=true
  |[],h=>h
  | .one i::l,h=>by simp only [List.cons_append,okOrder,Bool.and_eq_true] at h;exact okOrder_tail h.2
  | .grp b cs ns::l,h=>by rw [List.cons_append,grp_iff] at h;exact okOrder_tail h.2
theorem chain_reach{c i:Nat}{cs rest:List Nat}(h:okChain ops (c::cs) rest=true)(hi:i∈cs):reach ops ops.size i c=true:=by
  simp only [okChain,Bool.and_eq_true,List.all_eq_true] at h
  exact h.1.2 i hi
theorem rem_of_mem {i:Nat}:∀ {l:List El},okOrder ops kd l=true→i∈idxs l→(∃ l1 e l2 r,l=l1++e::l2∧Rem ops e i r)∨∃ c∈idxs l,reach ops ops.size i c=true
  |[],_,h=>by simp [idxs] at h
  | e :: l, hok,h=>by
    rw [idxs_cons] at h
    rcases List.mem_append.1 h with h|h
    · cases e with
      | one j=>
        simp only [El.idx,List.mem_singleton] at h
        subst h
        exact .inl ⟨[],_,l,[],rfl,.one _⟩
      | grp b cs ns=>
        simp only [El.idx] at h
        rcases List.mem_append.1 h with h|h
        · cases cs with
          |nil=>cases h
          | cons c cs=>
            rcases List.mem_cons.1 h with rfl|h
            · by_cases hrd:∀ n∈ns,reach ops ops.size i n=false
              · exact .inl ⟨[],_,l,_,rfl,.call _ _ _ _ hrd⟩
              · right
                simp only [Classical.not_forall] at hrd
                obtain⟨n,hn,hx⟩:=hrd
                exact⟨n,by rw [idxs_cons];exact List.mem_append_left _ (List.mem_append_right _ hn),by simpa using hx⟩
            · right
              rw [grp_iff] at hok
              exact⟨c,by rw [idxs_cons];simp [El.idx],chain_reach hok.1.chain h⟩
        · exact .inl ⟨[],_,l,_,rfl,.make _ _ _ _ h⟩
    · have hok':okOrder ops kd l=true:=okOrder_tail (l:=[e]) hok
      rcases rem_of_mem hok' h with ⟨l1,e',l2,r,rfl,hr⟩|⟨c,hc,hr⟩
      · exact .inl ⟨e::l1,e',l2,r,rfl,hr⟩
      · exact .inr ⟨c,by rw [idxs_cons];exact List.mem_append_right _ hc,hr⟩
/-- elements with nothing left in them -/
theorem ones_of {L:List El}:∀ {l:List El},okOrder ops kd (l++L)=true→(∀ k∈idxs l,kd k= .p∨kd k= .q)→∀ {Q:Act→World→Prop} {a:Act} {w:World},mixL P ops kd S Q (l++L) a w→mixL P ops kd S Q ((idxs l).map .one++L) a w
  |[],_,_,_,_,_,hm=>hm
  | .one i::l,h,hk,_,_,_,hm=>by
    rw [idxs_cons]
    simp only [El.idx,List.cons_append,List.nil_append,List.map_cons]
    refine mix_cons (fun a w hm=>ones_of (okOrder_tail (l:=[.one i]) h) (fun k hkk=>hk k (by rw [idxs_cons];exact List.mem_append_right _ hkk)) hm) hm
  | .grp b cs ns::l,h,hk,_,_,_,hm=>by
    rw [List.cons_append,grp_iff] at h
    have hnil:cs++ns=[]:=by
      cases hx:cs++ns with
      |nil=>rfl
      | cons i r=>
        exfalso
        have hi:i∈cs++ns:=by rw [hx];exact List.mem_cons_self
        rcases hk i (by rw [idxs_cons];exact List.mem_append_left _ hi) with q|q<;>rcases h.1.ka i hi with q'|q'<;>rw [q'] at q<;>cases q
    obtain⟨rfl,rfl⟩:=List.append_eq_nil_iff.1 hnil
    rw [idxs_cons]
    exact ones_of h.2 (fun k hkk=>hk k (by rw [idxs_cons];exact List.mem_append_right _ hkk)) hm.2.2
theorem ones_back {L:List El}:∀ {l:List El},okOrder ops kd (l++L)=true→(∀ k∈idxs l,kd k= .p∨kd k= .q)→∀ {L':List El} {Q:Act→World→Prop} {a:Act} {w:World},mixL P ops kd S Q ((idxs l).map .one++L') a w→mixL P ops kd S Q (l++L') a w
  |[],_,_,_,_,_,_,hm=>hm
  | .one i::l,h,hk,_,_,_,_,hm=>by
    rw [idxs_cons] at hm
    simp only [El.idx,List.cons_append,List.nil_append,List.map_cons] at hm
    refine mix_cons (fun a w hm=>ones_back (okOrder_tail (l:=[.one i]) h) (fun k hkk=>hk k (by rw [idxs_cons];exact List.mem_append_right _ hkk)) hm) hm
  | .grp b cs ns::l,h,hk,_,_,_,_,hm=>by
    rw [List.cons_append,grp_iff] at h
    have hnil:cs++ns=[]:=by
      cases hx:cs++ns with
      |nil=>rfl
      | cons i r=>
        exfalso
        have hi:i∈cs++ns:=by rw [hx];exact List.mem_cons_self
        rcases hk i (by rw [idxs_cons];exact List.mem_append_left _ hi) with q|q<;>rcases h.1.ka i hi with q'|q'<;>rw [q'] at q<;>cases q
    obtain⟨rfl,rfl⟩:=List.append_eq_nil_iff.1 hnil
    rw [idxs_cons] at hm
    exact⟨rfl,rfl,ones_back h.2 (fun k hkk=>hk k (by rw [idxs_cons];exact List.mem_append_right _ hkk)) hm⟩
theorem order_lt:∀ {l:List El},okOrder ops kd l=true→∀ i∈idxs l,i<ops.size:=by
  have pre:∀ {j:Nat} {r:List Nat},okPre ops j r=true→j<ops.size:=by
    intro j r h
    unfold okPre at h
    split at h
    · rename_i o ho;exact(Array.getElem?_eq_some_iff.1 ho).1
    · cases h
  have ng:∀ {j:Nat},noGuard ops j=true→j<ops.size:=by
    intro j h
    unfold noGuard at h
    split at h
    · rename_i o ho;exact(Array.getElem?_eq_some_iff.1 ho).1
    · cases h
  intro l
  induction l with
  |nil=>intro _ i hi;simp [idxs] at hi
  | cons e l ih=>
    intro h i hi
    rw [idxs_cons] at hi
    cases e with
    | one j=>
      simp only [okOrder,Bool.and_eq_true] at h
      obtain⟨⟨⟨⟨⟨_,h2⟩,_⟩,_⟩,_⟩,h6⟩:=h
      rcases List.mem_append.1 hi with hi|hi
      · simp only [El.idx,List.mem_singleton] at hi;subst hi;exact pre h2
      · exact ih h6 i hi
    | grp b cs ns=>
      rw [grp_iff] at h
      rcases List.mem_append.1 hi with hi|hi
      · exact ng (h.1.ng i hi)
      · exact ih h.2 i hi
/-- there is always one that may come next -/
theorem some_ready{listed:Array Bool}(hsz:listed.size=ops.size):∀ {l:List El} (_:okOrder ops kd l=true) (rest:List Nat) (_:∀ i,i∈rest↔i<ops.size∧listed.getD i true=false) (_:∀ x,x∈rest↔x∈idxs l) (_:idxs l≠[]),∃ i0,i0∈Region.ready .any ops listed
  |[],_,_,_,_,hne=>(hne rfl).elim
  | .one j::l,hok,rest,hl,hrest,_=>by
    simp only [okOrder,Bool.and_eq_true] at hok
    obtain⟨⟨⟨⟨⟨_,h2⟩,_⟩,_⟩,_⟩,_⟩:=hok
    exact⟨j,ready_of hsz hl ((hrest j).2 (by rw [idxs_cons];simp [El.idx])) (okPre_mono h2 fun x hx=>by have:=(hrest x).1 hx;rw [idxs_cons] at this;exact this)⟩
  | .grp _ [] []::l,hok,rest,hl,hrest,hne=>by
    rw [grp_iff] at hok
    exact some_ready hsz hok.2 rest hl (fun x=>by rw [hrest x,idxs_cons];rfl) hne
  | .grp _ (c::cs) []::l,hok,rest,hl,hrest,_=>by
    rw [grp_iff] at hok
    have hc:=hok.1.chain
    simp only [okChain,Bool.and_eq_true] at hc
    exact⟨c,ready_of hsz hl ((hrest c).2 (by rw [idxs_cons];simp [El.idx])) (okPre_mono hc.1.1 fun x hx=>by have:=(hrest x).1 hx;rw [idxs_cons] at this;simpa [El.idx] using this)⟩
  | .grp _ cs (n::ns)::l,hok,rest,hl,hrest,_=>by
    rw [grp_iff] at hok
    exact⟨n,ready_of hsz hl ((hrest n).2 (by rw [idxs_cons];simp [El.idx])) (okPre_mono (hok.1.pre n List.mem_cons_self) fun x hx=>by have:=(hrest x).1 hx;rw [idxs_cons] at this;simpa [El.idx] using this)⟩
theorem nothing_left{Q:Act→World→Prop}:∀ {l:List El},idxs l=[]→∀ {a:Act} {w:World},mixL P ops kd S Q l a w→∀ w',Ext w w'→Q a w'
  |[],_,_,_,hm=>hm
  | .one i::l,h,_,_,_=>by rw [idxs_cons] at h;simp [El.idx] at h
  | .grp b cs ns::l,h,_,_,hm=>by
    rw [idxs_cons] at h
    obtain⟨h1,h2⟩:=List.append_eq_nil_iff.1 h
    obtain⟨rfl,rfl⟩:=List.append_eq_nil_iff.1 h1
    exact nothing_left h2 hm.2.2
theorem stOp_ex{o:Oper}{a:Act}{w:World}{K:Value→World→Prop}(h:stOp P o a w K):∃ x w',K x w':=by
  unfold stOp at h
  split at h
  · exact⟨_,_,h⟩
  · exact⟨_,_,h⟩
  · obtain⟨e,w',fr,⟨x,_,hk⟩,_⟩:=h []
    exact⟨x,w',hk⟩
  · obtain⟨e,w',⟨x,_,hk⟩,_⟩:=(h Fence.wide Free.wide).2 (Frame.enter P 0 #[] .normal) [] (Free.wide.room _)
    exact⟨x,w',hk⟩
  · exact h.elim
theorem plain_noenter{o:Oper}(hp:plainOp o.op=true)(ρ:Operand→Value)(w:World)(f:FuncId)(args:Array Value)(w':World):(execOp ρ o).run P w≠ .ok (.enter f args) w':=by
  have key:∀ (s:Sem Value),(do pure (Next.value (←s)):Sem Next).run P w≠ .ok (.enter f args) w':=by
    intro s h
    simp only [Sem.run_bind,Sem.run_pure] at h
    cases hr:s.run P w<;>rw [hr] at h<;>simp [Result.andThen] at h
  intro h
  unfold execOp at h
  cases hop:o.op<;>rw [hop] at hp h<;>simp only [plainOp] at hp<;>first|(cases hp;done)|skip
  all_goals first
    |exact key _ h
    |(simp at h;done)
    | (simp only [Sem.run_bind,Sem.run_pure] at h
       generalize Sem.run P (asBool _) w=r at h
       cases r<;>simp [Result.andThen] at h)
theorem plain_noround{o:Oper}(hp:plainOp o.op=true)(ρ:Operand→Value)(w:World)(l:Nat)(f:FuncId)(args:Array Value)(x y:Code)(w':World):(execOp ρ o).run P w≠ .ok (.round l f args x y) w':=by
  have key:∀ (s:Sem Value),(do pure (Next.value (←s)):Sem Next).run P w≠ .ok (.round l f args x y) w':=by
    intro s h
    simp only [Sem.run_bind,Sem.run_pure] at h
    cases hr:s.run P w<;>rw [hr] at h<;>simp [Result.andThen] at h
  intro h
  unfold execOp at h
  cases hop:o.op<;>rw [hop] at hp h<;>simp only [plainOp] at hp<;>first|(cases hp;done)|skip
  all_goals first
    |exact key _ h
    |(simp at h;done)
    | (simp only [Sem.run_bind,Sem.run_pure] at h
       generalize Sem.run P (asBool _) w=r at h
       cases r<;>simp [Result.andThen] at h)
theorem p_det{o:Oper}(hp:plainOp o.op=true){a:Act}{v v':Value}(h:∀ w',stOp P o a w' fun x w''=>x=v∧w''=w')(h':∀ w',stOp P o a w' fun x w''=>x=v'∧w''=w')(w:World):v=v':=by
  have h1:=h w
  have h2:=h' w
  unfold stOp at h1 h2
  split at h1
  · rename_i e
    rw [e] at h2
    exact h1.1.symm.trans h2.1
  · rename_i e
    rw [e] at h2
    exact h1.1.symm.trans h2.1
  · rename_i e
    exact(plain_noenter hp _ _ _ _ _ e).elim
  · rename_i e
    exact(plain_noround hp _ _ _ _ _ _ _ _ e).elim
  · exact h1.elim
theorem grp_mono{K K':Act→World→Prop}(hK:∀ a w,K a w→K' a w):∀ (f:Nat) {cs ns:List Nat} {a:Act} {w:World},grpL P ops kd S K f cs ns a w→grpL P ops kd S K' f cs ns a w
  |0,_,_,_,_,⟨h1,h2,h3⟩=>⟨h1,h2,hK _ _ h3⟩
  | f +1,_,_,_,_,⟨h1,h2⟩=>⟨fun c cs' e hr=>by
      obtain⟨o,ho,hh⟩:=h1 c cs' e hr
      exact⟨o,ho,fun w' hw' hsw=>st_mono (hh w' hw' hsw) fun x w'' ⟨e1,e2⟩=>⟨e1,grp_mono hK f e2⟩⟩,fun n hn=>by
      obtain⟨o,ho,hh⟩:=h2 n hn
      exact⟨o,ho,fun w' hw'=>st_mono (hh w' hw') fun x w'' ⟨e1,e2⟩=>⟨e1,grp_mono hK f e2⟩⟩⟩

/-- such an operation, ahead of a group -/
theorem mix_swapg {Q:Act→World→Prop} {i:Nat} {oi:Oper} {l:List El} (hi:ops[i]?=some oi) (hg:oi.guard=none) (hp:plainOp oi.op=true) (hk:kd i= .p) (hsel:∀ (k:Nat) (o:Oper) cs b,ops[k]?=some o→o.op≠ .select cs b):∀ (f:Nat) (cs ns:List Nat) (a:Act) (w:World),cs.length+ns.length=f→(∀ c∈cs,kd c≠ .f)→
    (∀ k∈cs++ns,∀ o,ops[k]?=some o→oi.apart ops o=true)→grpL P ops kd S (mixL P ops kd S Q (.one i::l)) f cs ns a w→∃ v,(∀ w',stOp P oi a w' fun x w''=>x=v∧w''=w')∧grpL P ops kd S (mixL P ops kd S Q l) f cs ns (a.put oi.dst v) w
  | 0,cs,ns,a,w,hf,hnf,hap,⟨h1,h2,o,ho,h3⟩=>by
    rw [hi] at ho;cases ho
    rw [if_pos (by simp [Region.wanted,hg]),hk] at h3
    obtain⟨v,g1,g2⟩:=h3
    exact⟨v,g1,h1,h2,g2⟩
  | f + 1,cs,ns,a,w,hf,hnf,hap,⟨h1,h2⟩=>by
    have step:∀ (k:Nat) (cs' ns':List Nat) (o:Oper),k∈cs++ns→ops[k]?=some o→cs'.length+ns'.length=f→(∀ c∈cs',kd c≠ .f)→(∀ x∈cs'++ns',x∈cs++ns)→(∀ w',Ext w w'→stOp P o a w' fun x w''=>Ext w' w''∧grpL P ops kd S (mixL P ops kd S Q (.one i::l)) f cs' ns' (a.put o.dst x) w'')→
        (∃ v,∀ w',stOp P oi a w' fun x w''=>x=v∧w''=w')∧∀ v,(∀ w',stOp P oi a w' fun x w''=>x=v∧w''=w')→∀ w',Ext w w'→stOp P o (a.put oi.dst v) w' fun x w''=>Ext w' w''∧grpL P ops kd S (mixL P ops kd S Q l) f cs' ns' ((a.put oi.dst v).put o.dst x) w'':=by
      intro k cs' ns' o hkm ho hlen hnf' hsub hh
      have hapo:=hap k hkm o ho
      obtain⟨p1,p2,p3⟩:=Oper.apart_spec hapo
      have ih:=fun(x:Value) (w'':World) (h:grpL P ops kd S (mixL P ops kd S Q (.one i::l)) f cs' ns' (a.put o.dst x) w'')=>mix_swapg hi hg hp hk hsel f cs' ns' (a.put o.dst x) w'' hlen hnf' (fun k hk o ho=>hap k (hsub k hk) o ho) h
      have back:∀ (x v:Value),(∀ w',stOp P oi (a.put o.dst x) w' fun y w''=>y=v∧w''=w')→∀ w',stOp P oi a w' fun y w''=>y=v∧w''=w':=fun x v h w'=>
        st_congr (execOp_put oi (fun cs b=>hsel i oi cs b hi) a o.dst x p3).symm (h w')
      refine⟨?_,fun v hv w' hw'=>?_⟩
      · obtain⟨x,w'',_,h3⟩:=stOp_ex (hh w (Below.refl _ _))
        obtain⟨v,g1,_⟩:=ih x w'' h3
        exact⟨v,back x v g1⟩
      · refine st_congr (execOp_put o (fun cs b=>hsel k o cs b ho) a oi.dst v p1) (st_mono (hh w' hw') fun x w'' ⟨e1,h3⟩=>⟨e1,?_⟩)
        obtain⟨v',g1,g2⟩:=ih x w'' h3
        have:=p_det hp hv (back x v' g1) w
        subst this
        rw [Act.put_comm a v x p2]
        exact g2
    have hc:∀ c cs',cs=c::cs'→(∀ n∈ns,reach ops ops.size c n=false)→∃ o,ops[c]?=some o∧_:=fun c cs' e hr=>by
      obtain⟨o,ho,hh⟩:=h1 c cs' e hr
      have hcf:kd c≠ .f:=hnf c (by rw [e];exact List.mem_cons_self)
      exact⟨o,ho,step c cs' ns o (by rw [e];simp) ho (by rw [e] at hf;simp at hf;omega) (fun c hc=>hnf c (by rw [e];exact List.mem_cons_of_mem _ hc)) (fun x hx=>by rw [e];exact List.mem_cons_of_mem _ hx) fun w' hw'=>by
        exact st_mono (hh w' hw' fun e=>(hcf e).elim) fun x w'' ⟨e1,e2⟩=>⟨by rw [if_neg hcf] at e1;exact e1,e2⟩⟩
    have hn:∀ n∈ns,∃ o,ops[n]?=some o∧_:=fun n hn=>by
      obtain⟨o,ho,hh⟩:=h2 n hn
      have:=List.length_erase_of_mem hn
      have h0:0<ns.length:=List.length_pos_of_mem hn
      exact⟨o,ho,step n cs (ns.erase n) o (List.mem_append_right _ hn) ho (by omega) hnf (fun x hx=>by
        rcases List.mem_append.1 hx with q|q
        · exact List.mem_append_left _ q
        · exact List.mem_append_right _ (List.mem_of_mem_erase q)) hh⟩
    have hv:∃ v,∀ w',stOp P oi a w' fun x w''=>x=v∧w''=w':=by
      cases ns with
      |cons n ns'=>obtain⟨o,ho,g1,_⟩:=hn n List.mem_cons_self;exact g1
      | nil=>
        cases cs with
        |cons c cs'=>obtain⟨o,ho,g1,_⟩:=hc c cs' rfl (by simp);exact g1
        |nil=>simp at hf
    obtain⟨v,hv⟩:=hv
    refine⟨v,hv,fun c cs' e hr=>?_,fun n hn'=>?_⟩
    · obtain⟨o,ho,_,g2⟩:=hc c cs' e hr
      have hcf:kd c≠ .f:=hnf c (by rw [e];exact List.mem_cons_self)
      exact⟨o,ho,fun w' hw' _=>st_mono (g2 v hv w' hw') fun x w'' ⟨e1,e2⟩=>⟨by rw [if_neg hcf];exact e1,e2⟩⟩
    · obtain⟨o,ho,_,g2⟩:=hn n hn'
      exact⟨o,ho,g2 v hv⟩
theorem mix_cons'{Q:Act→World→Prop}{e:El}{l l':List El}(h:∀ a w,mixL P ops kd S Q l a w→mixL P ops kd S Q l' a w){a:Act}{w:World}(hm:mixL P ops kd S Q (e::l) a w):mixL P ops kd S Q (e::l') a w:=by
  cases e with
  |one i=>exact mix_cons h hm
  |grp b cs ns=>exact grp_mono h _ hm
theorem mix_frontp{Q:Act→World→Prop}{i:Nat}{oi:Oper}(hi:ops[i]?=some oi)(hg:oi.guard=none)(hp:plainOp oi.op=true)(hk:kd i= .p)(hsel:∀ (k:Nat) (o:Oper) cs b,ops[k]?=some o→o.op≠ .select cs b):∀ (l1 l2:List El),
    (∀ j∈idxs l1,∃ oj,ops[j]?=some oj∧oi.apart ops oj=true)→(∀ j,.one j∈l1→kd j= .p∨kd j= .q)→(∀ j∈idxs l1,kd j≠ .f)→∀ a w,mixL P ops kd S Q (l1++ .one i::l2) a w→mixL P ops kd S Q (.one i::(l1++l2)) a w
  |[],_,_,_,_,_,_,h=>h
  | .one j::l1,l2,hq,ho,hnf,a,w,h=>by
    obtain⟨oj,h3,h4⟩:=hq j (by rw [idxs_cons];simp [El.idx])
    have:=mix_cons' (fun a w=>mix_frontp hi hg hp hk hsel l1 l2 (fun j hj=>hq j (by rw [idxs_cons];exact List.mem_append_right _ hj)) (fun j hj=>ho j (List.mem_cons_of_mem _ hj)) (fun j hj=>hnf j (by rw [idxs_cons];exact List.mem_append_right _ hj)) a w) h
    exact mix_swap hi h3 h4 hsel (ho j List.mem_cons_self) this
  | .grp b cs ns::l1,l2,hq,ho,hnf,a,w,h=>by
    have:=mix_cons' (fun a w=>mix_frontp hi hg hp hk hsel l1 l2 (fun j hj=>hq j (by rw [idxs_cons];exact List.mem_append_right _ hj)) (fun j hj=>ho j (List.mem_cons_of_mem _ hj)) (fun j hj=>hnf j (by rw [idxs_cons];exact List.mem_append_right _ hj)) a w) h
    obtain⟨v,g1,g2⟩:=mix_swapg hi hg hp hk hsel _ cs ns a w rfl (fun c hc=>hnf c (by rw [idxs_cons];exact List.mem_append_left _ (List.mem_append_left _ hc))) (fun k hk o hok=>by
      obtain⟨o',ho',hap⟩:=hq k (by rw [idxs_cons];exact List.mem_append_left _ hk)
      rw [hok] at ho';cases ho'
      exact hap) this
    refine⟨oi,hi,?_⟩
    rw [if_pos (by simp [Region.wanted,hg]),hk]
    exact⟨v,g1,g2⟩
theorem wpAny_of_mix {F:Fence} (hF:Free F) (hS:∀ w w',S w→Ext w w'→S w') {fn:Nat} {Q:Act→World→Prop} {Q':Exit→Act→World→Prop} (hQ:∀ a w,Q a w→Q' .normal a w) (hsel:Region.noSelect ops=true):∀ (n:Nat) (l:List El) (listed:Array Bool) (a:Act) (w w':World),
    (idxs l).length=n→Ext w w'→((∃ i∈idxs l,kd i= .q∨kd i= .f)→S w')→okOrder ops kd l=true→listed.size=ops.size→(∀ i,i∈idxs l↔i<ops.size∧listed.getD i true=false)→Closed ops listed→mixL P ops kd S Q l a w→wpAnyIn F fn P .any ops Q' n listed a w'
  | 0,l,listed,a,w,w',hn,hw,_,hok,hsz,hl,_,hm=>by
    have hnil:idxs l=[]:=List.eq_nil_of_length_eq_zero hn
    refine⟨?_,hQ _ _ (nothing_left hnil hm w' hw)⟩
    rw [List.eq_nil_iff_forall_not_mem]
    intro i hi
    obtain⟨h1,o,h2,_⟩:=mem_ready.1 hi
    have:=(hl i).2 ⟨(Array.getElem?_eq_some_iff.1 h2).1,h1⟩
    rw [hnil] at this
    cases this
  | n + 1, l, listed,a,w,w',hn,hw,hB,hok,hsz,hl,hcl,hm=>by
    constructor
    · intro hr
      exfalso
      obtain⟨i0,h⟩:=some_ready hsz hok (idxs l) hl (fun _=>Iff.rfl) (fun e=>by rw [e] at hn;simp at hn)
      rw [hr] at h
      cases h
    · intro i hi
      obtain⟨hun,oi,hoi,hpre⟩:=mem_ready.1 hi
      have hmem:i∈idxs l:=(hl i).2 ⟨(Array.getElem?_eq_some_iff.1 hoi).1,hun⟩
      have hunl:∀ k∈idxs l,reach ops ops.size i k=false:=by
        intro k hk
        have hkl:=(hl k).1 hk
        cases hx:reach ops ops.size i k with
        |false=>rfl
        | true=>
          exfalso
          have h4:=reach_listed hcl ops.size i k oi hoi hpre hx
          have hlt:k<listed.size:=by rw [hsz];exact hkl.1
          have h5:=hkl.2
          simp only [Array.getD,hlt,dif_pos] at h4 h5
          rw [h4] at h5
          cases h5
      obtain⟨l1,e,l2,r,rfl,hrem⟩:=(rem_of_mem hok hmem).resolve_right (by rintro⟨c,hc,hx⟩;rw [hunl c hc] at hx;cases hx)
      obtain⟨g1,g2,g3,g4,g5⟩:=okOrder_rem hrem hok
      have hnr:∀ k∈idxs l1,reach ops ops.size i k=false:=fun k hk=>hunl k (by rw [idxs_append];exact List.mem_append_left _ hk)
      have hpq0:∀ k∈idxs l1,((kd k= .p∨(kd k= .q∧kd i≠ .w))∨(hoist ops kd i=true∧kd k≠ .f))∧∃ ok,ops[k]?=some ok∧oi.apart ops ok=true:=by
        intro k hk
        have h1:=g2 k hk
        unfold okPairG okPair at h1
        rw [hnr k hk,Bool.false_or,Bool.or_eq_true,Bool.and_eq_true,Bool.and_eq_true,Bool.and_eq_true,Bool.and_eq_true] at h1
        have hx:apartB ops i k=true:=by
          rcases h1 with h1|h1
          · exact h1.1
          · exact h1.2.1.1
        refine⟨?_,?_⟩
        · rcases h1 with h1|h1
          · left;simpa using h1.2
          · exact .inr ⟨h1.2.2,by simpa using h1.1⟩
        · unfold apartB at hx
          rw [hoi] at hx
          split at hx
          · rename_i o1 o2 e1 e2
            cases e1
            exact⟨_,e2,hx⟩
          · cases hx
      have hlen:(idxs (l1++(r++l2))).length=n:=by
        have hr1:e.idx.length=(idxs r).length+1:=by
          cases hrem with
          |one=>simp [El.idx,idxs]
          |call=>simp [El.idx,idxs]
          | make _ _ cs ns h=>
            have:=List.length_erase_of_mem h
            have:0<ns.length:=List.length_pos_of_mem h
            simp [El.idx,idxs];omega
        rw [idxs_append,List.length_append,idxs_cons,List.length_append] at hn
        rw [idxs_append,idxs_append,List.length_append,List.length_append]
        omega
      have hilt:i<listed.size:=by rw [hsz];exact(Array.getElem?_eq_some_iff.1 hoi).1
      have hset:∀ (k:Nat) (d:Bool),k≠i→(listed.setIfInBounds i true).getD k d=listed.getD k d:=fun k d hne=>by
        simp only [Array.getD_eq_getD_getElem?,Array.getElem?_setIfInBounds]
        rw [if_neg (fun e=>hne e.symm)]
      have hseti:∀ d:Bool,(listed.setIfInBounds i true).getD i d=true:=fun d=>by
        simp [Array.getD_eq_getD_getElem?,Array.getElem?_setIfInBounds,hilt]
      have hl':∀ k,k∈idxs (l1++(r++l2))↔k<ops.size∧(listed.setIfInBounds i true).getD k true=false:=by
        intro k
        by_cases hki:k=i
        · subst hki
          rw [hseti]
          simp [g3]
        · rw [hset k true hki,←hl k,g4 k]
          simp [hki]
      have hcl':Closed ops (listed.setIfInBounds i true):=by
        intro k o hk hlk e he hb
        have up:listed.getD e.on false=true→(listed.setIfInBounds i true).getD e.on false=true:=fun h=>by
          by_cases hei:e.on=i
          · rw [hei];exact hseti _
          · rw [hset _ _ hei];exact h
        by_cases hki:k=i
        · subst hki
          rw [hoi] at hk
          cases hk
          exact up (hpre e he hb)
        · rw [hset k true hki] at hlk
          exact up (hcl k o hk hlk e he hb)
      have hsubq:(∃ k∈idxs (l1++(r++l2)),kd k= .q∨kd k= .f)→∃ k∈idxs (l1++e::l2),kd k= .q∨kd k= .f:=fun⟨k,hk,h⟩=>⟨k,(g4 k).2 (.inr hk),h⟩
      have ih:=fun(a:Act) (w w':World) (h1:Ext w w') (h2:(∃ k∈idxs (l1++(r++l2)),kd k= .q∨kd k= .f)→S w') (h3:mixL P ops kd S Q (l1++(r++l2)) a w)=>wpAny_of_mix (fn:=fn) hF hS hQ hsel n (l1++(r++l2)) (listed.setIfInBounds i true) a w w' hlen h1 h2 g1 (by simp [hsz]) hl' hcl' h3
      by_cases hh:hoist ops kd i=true
      · unfold hoist at hh
        rw [hoi] at hh
        simp only [Bool.and_eq_true,decide_eq_true_eq,Option.isNone_iff_eq_none] at hh
        obtain⟨hki,hgi,hpi⟩:=hh
        have hone:e= .one i∧r=[]:=by
          have hg:=okOrder_tail hok
          cases hrem with
          |one=>exact⟨rfl,rfl⟩
          |call _ _ cs ns=>rcases(grp_iff.1 hg).1.ka i List.mem_cons_self with q|q<;>rw [q] at hki<;>cases hki
          |make _ _ cs ns h=>rw [(grp_iff.1 hg).1.kn i h] at hki;cases hki
        obtain⟨rfl,rfl⟩:=hone
        have hones:∀ j,El.one j∈l1→kd j= .p∨kd j= .q:=by
          intro j hj
          obtain⟨x,y,hxy⟩:=List.append_of_mem hj
          rw [hxy,List.append_assoc] at hok
          have h2:=okOrder_tail hok
          simp only [List.cons_append,okOrder,Bool.and_eq_true] at h2
          obtain⟨⟨⟨⟨⟨h2,_⟩,_⟩,_⟩,_⟩,_⟩:=h2
          rw [List.all_eq_true] at h2
          have h3:=h2 i (by rw [idxs_append,idxs_cons];simp [El.idx])
          unfold okPair at h3
          rw [hnr j (by rw [hxy,idxs_append,idxs_cons];simp [El.idx]),Bool.false_or,Bool.and_eq_true] at h3
          have h4:=h3.2
          simp only [Bool.or_eq_true,Bool.and_eq_true,decide_eq_true_eq] at h4
          rcases h4 with h4|h4
          · exact .inl h4
          · exact .inr h4.1
        have hnf:∀ k∈idxs l1,kd k≠ .f:=by
          intro k hk e
          rcases(hpq0 k hk).1 with (q|q)|q
          · rw [e] at q;cases q
          · rw [e] at q;cases q.1
          · exact q.2 e
        have hm':=mix_frontp hoi hgi hpi hki (Region.noSelect_spec hsel) l1 l2 (fun k hk=>(hpq0 k hk).2) hones hnf a w hm
        obtain⟨o',ho',hm'⟩:=hm'
        rw [hoi] at ho'
        cases ho'
        rw [if_pos (by simp [Region.wanted,hgi]),hki] at hm'
        obtain⟨v,h1,h2⟩:=hm'
        unfold wpOpIn
        simp only [hoi]
        rw [if_pos (by simp [Region.wanted,hgi])]
        refine(wp_of_st hF (h1 w') ?_)
        rintro x w'' ⟨hx1,hx2⟩
        subst hx1;subst hx2
        exact ih _ w _ hw (fun h=>hB (hsubq h)) h2
      have hpq:∀ k∈idxs l1,(kd k= .p∨(kd k= .q∧kd i≠ .w))∧∃ ok,ops[k]?=some ok∧oi.apart ops ok=true:=fun k hk=>⟨(hpq0 k hk).1.resolve_right (fun q=>hh q.1),(hpq0 k hk).2⟩
      have hpq':∀ k∈idxs l1,kd k= .p∨kd k= .q:=fun k hk=>by
        rcases(hpq k hk).1 with q|q
        · exact .inl q
        · exact .inr q.1
      have hm1:=ones_of hok hpq' hm
      have grp:∀ (b:Bool) (cs ns cs' ns':List Nat),e= .grp b cs ns→r=[.grp b cs' ns']→i∈cs++ns→((cs=i::cs'∧ns'=ns∧∀ n∈ns,reach ops ops.size i n=false)∨(i∈ns∧cs'=cs∧ns'=ns.erase i))→wpOpIn F fn P ops Q' i (wpAnyIn F fn P .any ops Q' n (listed.setIfInBounds i true)) a w':=by
        intro b cs ns cs' ns' he hr hin hcase
        subst he
        have hg:=(grp_iff.1 (okOrder_tail hok)).1
        have hx:=mix_execg hoi (Region.noSelect_spec hsel) hcase (fun h=>hg.kn i h) (idxs l1) l2 (fun k hk=>⟨hpq' k hk,(hpq k hk).2⟩) a w hm1 w' hw (fun e=>hB ⟨i,hmem,.inr e⟩)
        unfold wpOpIn
        simp only [hoi]
        rw [if_pos (by simp [Region.wanted,noGuard_of (hg.ng i hin) hoi])]
        refine(wp_of_st hF hx ?_)
        rintro x w'' ⟨h3,h4⟩
        refine ih _ w'' w'' (Below.refl _ _) (fun h=>?_) ?_
        · split at h3
          · exact h3
          · exact hS _ _ (hB (hsubq h)) h3
        rw [hr]
        exact ones_back hok hpq' h4
      cases hrem with
      |call _ _ cs ns h=>exact grp _ _ _ _ _ rfl rfl List.mem_cons_self (.inl ⟨rfl,rfl,h⟩)
      |make _ _ cs ns h=>exact grp _ _ _ _ _ rfl rfl (List.mem_append_right _ h) (.inr ⟨h,rfl,rfl⟩)
      | one =>
        have hm':=mix_front hoi (Region.noSelect_spec hsel) (idxs l1) l2 (fun k hk=>⟨hpq' k hk,(hpq k hk).2⟩) a w hm1
        obtain⟨o',ho',hm'⟩:=hm'
        have shut:∀ {a:Act} {w:World},mixL P ops kd S Q ((idxs l1).map .one++l2) a w→mixL P ops kd S Q (l1++([]++l2)) a w:=fun h=>ones_back hok hpq' h
        rw [hoi] at ho'
        cases ho'
        unfold wpOpIn
        simp only [hoi]
        split
        · rename_i hwn
          rw [if_pos hwn] at hm'
          cases hk:kd i with
          | p=>
            rw [hk] at hm'
            obtain⟨v,h1,h2⟩:=hm'
            refine wp_of_st hF (h1 w') ?_
            rintro x w'' ⟨rfl,rfl⟩
            exact ih _ w w'' hw (fun h=>hB (hsubq h)) (shut h2)
          | q=>
            rw [hk] at hm'
            obtain⟨v,h1,h2⟩:=hm'
            have hb:=hB ⟨i,hmem,.inl hk⟩
            refine wp_of_st hF (h1 w' hb) ?_
            rintro x w'' ⟨rfl,h3⟩
            exact ih _ w w'' (hw.trans h3) (fun _=>hS _ _ hb h3) (shut h2)
          | a=>
            rw [hk] at hm'
            refine wp_of_st hF (hm' w' hw) ?_
            rintro x w'' ⟨h3,h4⟩
            exact ih _ w'' w'' (Below.refl _ _) (fun h=>hS _ _ (hB (hsubq h)) h3) (shut h4)
          | f=>
            rw [hk] at hm'
            refine wp_of_st hF (hm' w' hw (hB ⟨i,hmem,.inr hk⟩)) ?_
            rintro x w'' ⟨h3,h4⟩
            exact ih _ w'' w'' (Below.refl _ _) (fun _=>h3) (shut h4)
          | w =>
            rw [hk] at hm'
            refine wp_of_st hF (hm' w' hw) ?_
            intro x w'' h4
            obtain⟨q2,q3,_⟩:=g5 hk
            refine ih _ w'' w'' (Below.refl _ _) ?_ (shut h4)
            rintro⟨k,hkk,hkq⟩
            exfalso
            rw [List.nil_append,idxs_append] at hkk
            rcases List.mem_append.1 hkk with hkk|hkk
            · have hp:kd k= .p:=by
                rcases(hpq k hkk).1 with q|q
                · exact q
                · exact(q.2 hk).elim
              rcases hkq with h|h<;>rw [hp] at h<;>cases h
            · unfold noQ at q2
              unfold noF at q3
              rw [List.all_eq_true] at q2 q3
              have a2:=q2 k hkk
              have a3:=q3 k hkk
              rcases hkq with h|h
              · simp [h] at a2
              · simp [h] at a3
        · rename_i hwn
          rw [if_neg hwn] at hm'
          exact⟨fun f _=>hF.fn f,ih _ w w' hw (fun h=>hB (hsubq h)) (shut hm')⟩

/-- ONE WALK IN AN ORDER OF OUR CHOICE SERVES EVERY ORDER -/
theorem wp_region_mix{F:Fence}(hF:Free F){n:Nat}{id:Nat}{l:List Oper}{Q:Exit→Act→World→Prop}{a:Act}{w:World}(order:List El)(hm:P.follows .mixedOrders=true)(hok:okMix l.toArray kd order=true)(S:World→Prop)(hS:∀ w w',S w→Ext w w'→S w')(hS0:S w)
    (h:mixL P l.toArray kd S (fun a w=>Q .normal a w) order a w):(Code.region id l.toArray true).wpIn F n P Q a w:=by
  simp only [okMix,Bool.and_eq_true,beq_iff_eq] at hok
  obtain⟨⟨⟨h1,h2⟩,h3⟩,h4⟩:=hok
  refine wpIn_region_any hm ?_
  rw [←h2]
  refine wpAny_of_mix hF hS (fun _ _ h=>h) h4 (idxs order).length order (Array.replicate (idxs order).length false) a w _ rfl (Below.drew (Below.refl _ _)) (fun _=>hS _ _ hS0 (Below.drew (Below.refl _ _))) h1 (by simpa using h2) ?_ ?_ h
  · intro i
    constructor
    · intro hi
      have h5:i<l.toArray.size:=order_lt h1 i hi
      exact ⟨h5, by have h6:i<l.length:=by simpa using h5
                    simp [Array.getD,h2,h6]⟩
    · rintro⟨hi,_⟩
      rw [List.all_eq_true] at h3
      simpa using h3 i (List.mem_range.2 hi)
  · intro k o hk hlk
    have:k<l.toArray.size:=(Array.getElem?_eq_some_iff.1 hk).1
    rw [h2] at hlk
    have h6:k<l.length:=by simpa using this
    have h7:(Array.replicate l.toArray.size false).getD k true=false:=by simp [Array.getD,h6]
    rw [h7] at hlk
    exact absurd hlk (by simp)
end
end Go.Proofs.YtomkbpoicjabfaaGreatDoor
namespace Go.Proofs.YtomkbpoicjabfaaGreatDoor
open Go.RowKit

/-- it gives one value in every world, or none at all -/
def Rd(P:Program){α:Type}(s:Sem α):Prop:=(∃ x,∀ w,s.run P w= .ok x w)∨∀ w x w1,s.run P w≠ .ok x w1
section
variable {P:Program}
theorem Rd.pure{α:Type}(x:α):Rd P (Pure.pure x:Sem α):= .inl ⟨x,fun _=>rfl⟩
theorem Rd.halt{α:Type}(h:Halt):Rd P (Sem.halt h:Sem α):= .inr fun w x w1 e=>by cases e
theorem Rd.bind{α β:Type}{s:Sem α}{f:α→Sem β}(h:Rd P s)(k:∀ x,Rd P (f x)):Rd P (s >>= f):=by
  rcases h with ⟨x,h⟩|h
  · rcases k x with ⟨y,k⟩|k
    · exact .inl ⟨y,fun w=>by rw [Sem.run_bind,h];exact k w⟩
    · exact .inr fun w y w1=>by rw [Sem.run_bind,h];exact k w y w1
  · refine .inr fun w y w1=>?_
    rw [Sem.run_bind]
    cases hs:s.run P w with
    |ok a w2=>exact absurd hs (h w a w2)
    |halt e w2=>intro q;cases q
theorem Rd.listMapM{α β:Type}{f:α→Sem β}(h:∀ x,Rd P (f x)):∀ l:List α,Rd P (l.mapM f)
  |[]=>by rw [List.mapM_nil];exact .pure _
  | a::l=>by
    rw [List.mapM_cons]
    exact(h a).bind fun _=>(Rd.listMapM h l).bind fun _=> .pure _
theorem Rd.mapM{α β:Type}{f:α→Sem β}(l:Array α)(h:∀ x,Rd P (f x)):Rd P (l.mapM f):=by
  rw [Array.mapM_eq_mapM_toList]
  exact(Rd.listMapM h _).bind fun _=> .pure _
theorem Rd.program:Rd P program:= .inl ⟨P,fun _=>rfl⟩
theorem Rd.underlying(t:TypeId):Rd P (underlying t):=by
  unfold Go.underlying
  refine Rd.program.bind fun p=>?_
  split
  · exact .pure _
  · exact .halt _
theorem Rd.typeInfo(t:TypeId):Rd P (typeInfo t):=by
  unfold Go.typeInfo
  refine Rd.program.bind fun p=>?_
  split
  · exact .pure _
  · exact .halt _
theorem Rd.sizeOf(t:TypeId):Rd P (Go.sizeOf t):=(Rd.typeInfo t).bind fun _=> .pure _
theorem Rd.isAgg(t:TypeId):Rd P (isAgg t):=by
  unfold Go.isAgg
  refine(Rd.underlying t).bind fun p=>?_
  split<;>exact .pure _
theorem Rd.part(t:TypeId)(cs:Array Value)(o:Nat):Rd P (part t cs o):=by
  unfold Go.part
  refine(Rd.isAgg t).bind fun b=>?_
  split
  · exact(Rd.sizeOf t).bind fun _=> .pure _
  · split
    · exact .pure _
    · exact .halt _
theorem Rd.boundsPanic{α:Type}(k:IntKind)(x y:Int)(c:BoundsCode):Rd P (boundsPanic k x y c:Sem α):=by
  refine .inr fun w v w1=>?_
  have key:∀ (b:Bool) w2,(runtimePanic (.bounds (IntKind.i64.wrap x) y b c):Sem α).run P w2≠ .ok v w1:=by
    intro b w2 e
    cases e
  unfold Go.boundsPanic
  dsimp only
  split
  · rw [Sem.run_bind]
    cases Sem.run P _ w with
    |ok b w2=>exact key b w2
    |halt e w2=>intro q;cases q
  · exact key _ _
theorem Rd.asIntOf(v:Value):Rd P (asIntOf v):=by
  unfold Go.asIntOf;split<;>first|exact .pure _|exact .halt _
theorem Rd.asBool(v:Value):Rd P (asBool v):=by
  unfold Go.asBool;split<;>first|exact .pure _|exact .halt _
theorem Rd.asAgg(v:Value):Rd P (asAgg v):=by
  unfold Go.asAgg;split<;>first|exact .pure _|exact .halt _
theorem Rd.sureAddr(v:Value):Rd P (Instr.sureAddr v):=by
  unfold Instr.sureAddr;split<;>first|exact .pure _|exact .halt _

theorem Rd.sliceBound(x:Value)(y:Nat)(c:BoundsCode):Rd P (Instr.sliceBound x y c):=by
  unfold Instr.sliceBound
  refine(Rd.asIntOf _).bind fun q=>?_
  obtain⟨k,i⟩:=q
  dsimp only
  split
  · exact .pure _
  · exact Rd.boundsPanic _ _ _ _
theorem Rd.sliceBounds(b:Bool)(l c:Nat)(lo hi mx:Option Value):Rd P (Instr.sliceBounds b l c lo hi mx):=by
  unfold Instr.sliceBounds
  cases mx<;>cases hi<;>cases lo<;>dsimp only
  all_goals first
    |exact Rd.bind (.pure _) fun _=>Rd.bind (.pure _) fun _=>Rd.bind (.pure _) fun _=> .pure _
    |exact Rd.bind (.pure _) fun _=>Rd.bind (.pure _) fun _=>Rd.bind (Rd.sliceBound _ _ _) fun _=> .pure _
    |exact Rd.bind (.pure _) fun _=>Rd.bind (Rd.sliceBound _ _ _) fun _=>Rd.bind (.pure _) fun _=> .pure _
    |exact Rd.bind (.pure _) fun _=>Rd.bind (Rd.sliceBound _ _ _) fun _=>Rd.bind (Rd.sliceBound _ _ _) fun _=> .pure _
    |exact Rd.bind (Rd.sliceBound _ _ _) fun _=>Rd.bind (Rd.sliceBound _ _ _) fun _=>Rd.bind (.pure _) fun _=> .pure _
    |exact Rd.bind (Rd.sliceBound _ _ _) fun _=>Rd.bind (Rd.sliceBound _ _ _) fun _=>Rd.bind (Rd.sliceBound _ _ _) fun _=> .pure _
    |exact Rd.bind (Rd.sliceBound _ _ _) fun _=>Rd.bind (.halt _) fun _=>Rd.bind (.pure _) fun _=> .pure _
    |exact Rd.bind (Rd.sliceBound _ _ _) fun _=>Rd.bind (.halt _) fun _=>Rd.bind (Rd.sliceBound _ _ _) fun _=> .pure _
theorem Rd.asAddr(v:Value):Rd P (asAddr v):=by
  unfold Go.asAddr
  split
  · exact .pure _
  · exact .inr fun w v w1 e=>by cases e
  · exact .halt _
theorem Rd.slice(T:TypeId)(x:Value)(lo hi mx:Option Value):Rd P (Instr.slice T x lo hi mx):=by
  unfold Instr.slice
  refine(Rd.underlying T).bind fun d=>?_
  split
  · split
    · exact .halt _
    · exact(Rd.sliceBounds _ _ _ _ _ _).bind fun _=> .pure _
  · exact(Rd.sliceBounds _ _ _ _ _ _).bind fun _=>(Rd.sizeOf _).bind fun _=> .pure _
  · refine(Rd.asAddr _).bind fun a=>(Rd.underlying _).bind fun u=>?_
    split
    · exact(Rd.sliceBounds _ _ _ _ _ _).bind fun _=>(Rd.sizeOf _).bind fun _=> .pure _
    · exact .halt _
  · exact .halt _
theorem Rd.sliceAt(T:TypeId)(x:Value)(lo hi mx:Option Value):Rd P (Instr.sliceAt T x lo hi mx):=by
  unfold Instr.sliceAt
  refine(Rd.underlying T).bind fun d=>?_
  split
  · exact(Rd.sureAddr _).bind fun a=>(Rd.sliceBounds _ _ _ _ _ _).bind fun _=>(Rd.sizeOf _).bind fun _=> .pure _
  · exact Rd.slice _ _ _ _ _
def isRd:Op→Bool
  | .move _| .assign _| .pick .. | .extract .. | .fieldAddr .. | .field .. | .indexAddr .. | .index .. | .makeFunc .. | .build .. | .slice .. =>true
  |_=>false

theorem rd_op {t:List (Nat×V)} {m:Mem} {o:Oper} (hr:isRd o.op=true) {r:Prop×V×Mem} (h:evA P t m o.op=some r) (ρ:Operand→Value):Rd P (execOp ρ o):=by
  have V1:∀ {s:Sem Value},Rd P s→Rd P (do pure (Next.value (←s)):Sem Next):=fun h=>h.bind fun _=> .pure _
  unfold execOp
  cases ho:o.op<;>rw [ho] at hr h<;>try(cases hr;done)
  case move x=>exact .pure _
  case assign x=>exact .pure _
  case pick c a b=>exact(Rd.asBool _).bind fun _=> .pure _
  case extract x i=>
    refine V1 ?_
    unfold Instr.extract
    split
    · split
      · exact .pure _
      · exact .halt _
    · exact .halt _
  case fieldAddr T x j=>
    refine V1 ?_
    simp only [evA,evOp] at h
    have hf:∃ off ft,fdT P T j=some (off,ft):=by
      split at h
      · rename_i off ft _ _ hf _;exact⟨_,_,hf⟩
      · rename_i off ft _ _ _ hf _;exact⟨_,_,hf⟩
      · cases h
    obtain⟨off,ft,hf⟩:=hf
    obtain⟨fs,f,h1,h2,h3,h4,h5⟩:=fdT_spec hf
    subst h3;subst h4
    have hne:¬ szT P f.type=0:=by omega
    rcases Rd.sureAddr (P:=P) (ρ x) with ⟨a,ha⟩|ha
    · refine .inl ⟨.pointer (some (a.add f.offset)),fun w=>?_⟩
      simp only [Instr.fieldAt,Sem.run_bind,run_underlying h1,Result.andThen_ok,h2,ha,Sem.run_pure,fieldPlace,run_sizeOf h5,if_neg hne]
    · refine .inr fun w y w1=>?_
      simp only [Instr.fieldAt,Sem.run_bind,run_underlying h1,Result.andThen_ok,h2]
      cases hs:(Instr.sureAddr (ρ x)).run P w with
      |ok a w2=>exact absurd hs (ha w a w2)
      |halt e w2=>intro q;cases q
  case field T x j=>
    refine V1 ?_
    unfold Instr.field
    refine(Rd.underlying T).bind fun d=>?_
    split
    · split
      · exact(Rd.asAgg _).bind fun _=>Rd.part _ _ _
      · exact .halt _
    · exact .halt _
  case indexAddr T x ix=>
    refine V1 ?_
    unfold Instr.indexAt
    refine(Rd.asIntOf _).bind fun q=>?_
    obtain⟨k,i⟩:=q
    refine(Rd.underlying T).bind fun d=>?_
    have jp :∀ q:Option Addr×Nat×TypeId,Rd P (match q with
      | (base,len,elem)=>do
        let u←underlying T
        let tiny:=decide (len≤1) && (match u with| .array .. =>true|_=>false)
        match base with
        | some a=>
          if 0≤i∧i<(len:Int) then Pure.pure (Value.pointer (some (a.add (i.toNat * (←Go.sizeOf elem)))))
          else if tiny=true then unsupported (.noEntry "op/indexAddr.an index out of range at an array of length 0 or 1 (ledger 616)") else Go.boundsPanic k i len .index
        |none=>Go.boundsPanic k i 0 .index:Sem Value):=by
      rintro⟨base,len,elem⟩
      refine(Rd.underlying T).bind fun u=>?_
      dsimp only
      split
      · split
        · exact(Rd.sizeOf _).bind fun _=> .pure _
        · split
          · split
            · exact .halt _
            · exact Rd.boundsPanic _ _ _ _
          · split
            · exact .halt _
            · exact Rd.boundsPanic _ _ _ _
      · exact Rd.boundsPanic _ _ _ _
    dsimp only
    split
    · exact(Rd.sureAddr _).bind fun _=>Rd.bind (.pure _) fun q=>jp q
    · exact Rd.bind (.pure _) fun q=>jp q
    · exact Rd.bind (.halt _) fun q=>jp q
  case index T x ix=>
    refine V1 ?_
    unfold Instr.index
    refine(Rd.asIntOf _).bind fun q=>?_
    obtain⟨k,i⟩:=q
    refine(Rd.underlying T).bind fun d=>?_
    split
    · split
      · exact(Rd.sizeOf _).bind fun _=>Rd.part _ _ _
      · exact Rd.boundsPanic _ _ _ _
    · split
      · exact .pure _
      · exact Rd.boundsPanic _ _ _ _
    · exact .halt _
  case makeFunc fn f c=>exact V1 (.pure _)
  case slice T x lo hi mx=>exact V1 (Rd.sliceAt _ _ _ _ _)
  case build T parts=>
    refine V1 ?_
    unfold Instr.build
    refine Rd.bind ?_ fun z=>?_
    · unfold zeroValue
      refine(Rd.typeInfo T).bind fun i=>?_
      split<;>first|exact .pure _|exact .halt _
    · refine(Rd.underlying T).bind fun d=>?_
      split
      · refine Rd.bind ?_ fun ps=>?_
        · exact Rd.mapM _ fun f=>(Rd.sizeOf _).bind fun _=> .pure _
        · split<;>first|exact .pure _|exact .halt _
      · refine(Rd.sizeOf _).bind fun _=>?_
        split<;>first|exact .pure _|exact .halt _
      · exact .halt _
end

mutual
/-- one value alone is so read -/
def V.det:V→Bool
  | .agg cs=>detL cs
  | .tup cs=>detL cs
  | .lst _=>false
  | .bp _ _=>false
  | .ptr _ _ _=>false
  | .sl _ _=>false
  | .mp _=>false
  | .clo _ _ _=>false
  | .any=>false
  | .ifv=>false
  | .anyi _=>false
  | .tab _=>false
  |_=>true
def detL:List V→Bool
  |[]=>true
  |v::r=>v.det && detL r
end
theorem detL_mem{l:List V}(h:detL l=true):∀ v∈l,v.det=true:=by
  induction l with
  |nil=>intro v hv;cases hv
  | cons a l ih=>
    simp only [detL,Bool.and_eq_true] at h
    intro v hv
    rcases List.mem_cons.1 hv with rfl|hv
    · exact h.1
    · exact ih h.2 v hv
theorem det_eq {w w':World} {ρ:List Re} {B B':Nat→Prop} {v:V} {x y:Value} (h:RelV w ρ B v x) (hp:v.det=true) (k:RelV w' ρ B' v y):y=x:=by
  induction h generalizing y with
  |any x=>simp [V.det] at hp
  |str s b h=>cases k with|str _ b' h'=>exact congrArg Value.string (ByteArray.ext (Array.toList_inj.1 (h'.trans h.symm)))
  | agg cs xs hl _ ih=>
    simp only [V.det] at hp
    cases k with
    | agg _ ys hl' h'=>
      have:ys=xs:=by
        apply Array.ext (by omega)
        intro i h1 h2
        exact ih i cs[i] xs[i] (List.getElem?_eq_getElem (by omega)) (by simp [h2]) (detL_mem hp _ (List.getElem_mem _)) (h' i cs[i] ys[i] (List.getElem?_eq_getElem (by omega)) (by simp [h1]))
      rw [this]
  | tup cs xs hl _ ih=>
    simp only [V.det] at hp
    cases k with
    | tup _ ys hl' h'=>
      have:ys=xs:=by
        apply Array.ext (by omega)
        intro i h1 h2
        exact ih i cs[i] xs[i] (List.getElem?_eq_getElem (by omega)) (by simp [h2]) (detL_mem hp _ (List.getElem_mem _)) (h' i cs[i] ys[i] (List.getElem?_eq_getElem (by omega)) (by simp [h1]))
      rw [this]
  |lst=>simp [V.det] at hp
  |lnil=>simp [V.det] at hp
  |bp=>simp [V.det] at hp
  |clo=>simp [V.det] at hp
  |ptr b i o r hr=>simp [V.det] at hp
  |sl b n r hr hn hm=>simp [V.det] at hp
  |mp b r hr=>simp [V.det] at hp
  |ifv=>simp [V.det] at hp
  |anyi=>simp [V.det] at hp
  |tab=>simp [V.det] at hp
  |_=>cases k;rfl
mutual
/-- .. and this one is -/
def V.real:V→Value
  | .int k n=> .int k n
  | .bool b=> .bool b
  | .str s=> .string ⟨s.toArray⟩
  | .nilptr=> .pointer none
  | .nilsl=> .slice none 0 0
  | .nilmap=> .map none
  | .nilfn=> .nilFunc
  | .nilif=> .nilIface
  | .agg cs=> .agg (realL cs).toArray
  | .tup cs=> .tuple (realL cs).toArray
  |_=>undef
def realL:List V→List Value
  |[]=>[]
  |v::r=>v.real::realL r
end
theorem realL_map:∀ l:List V,realL l=l.map V.real
  |[]=>rfl
  |v::l=>by simp [realL,realL_map l]
mutual
theorem real_rel{w:World}{ρ:List Re}{B:Nat→Prop}:∀ {v:V},v.det=true→RelV w ρ B v v.real
  | .int k n,_=> .int k n
  | .bool b,_=> .bool b
  | .str s,_=> .str s _ (by simp)
  | .nilptr,_=> .nilptr
  | .nilsl,_=> .nilsl
  | .nilmap,_=> .nilmap
  | .nilfn,_=> .nilfn
  | .nilif,_=> .nilif
  | .agg cs,h=>by
    simp only [V.real]
    simp only [V.det] at h
    exact .agg cs _ (by simp [realL_map]) (fun i c x h1 h2=>realL_rel h i c x h1 (by simpa using h2))
  | .tup cs,h=>by
    simp only [V.real]
    simp only [V.det] at h
    exact .tup cs _ (by simp [realL_map]) (fun i c x h1 h2=>realL_rel h i c x h1 (by simpa using h2))
  | .any,h| .lst _,h| .bp _ _,h| .ptr _ _ _,h| .sl _ _,h| .mp _,h| .clo _ _ _,h=>by simp [V.det] at h
theorem realL_rel{w:World}{ρ:List Re}{B:Nat→Prop}:∀ {l:List V},detL l=true→∀ (i:Nat) c x,l[i]?=some c→(realL l)[i]?=some x→RelV w ρ B c x
  |[],_,i,c,x,h1,_=>by simp at h1
  | v::l,h,0,c,x,h1,h2=>by
    simp [realL] at h1 h2
    subst h1;subst h2
    simp only [detL,Bool.and_eq_true] at h
    exact real_rel h.1
  | v::l,h,i+1,c,x,h1,h2=>by
    simp only [detL,Bool.and_eq_true] at h
    exact realL_rel h.2 i c x (by simpa using h1) (by simpa [realL] using h2)
end

def isLd:Op→Bool
  | .load .. =>true
  |_=>false
theorem partV_run {P:Program} {S:World→Prop} {T:TypeId} {cs:List V} {o b off:Nat} {Y:Nat→Value} {v:V}
    (hY:∀ (j:Nat) c,cs[j]?=some c→∀ w,S w→w.cell? ⟨b,off+j,none⟩=some (Y j)) (h:partV P T cs o=some v):∃ x,∀ w,S w→(loadVar T ⟨b,off+o,none⟩).run P w= .ok x w:=by
  unfold partV at h
  cases ha:agT P T with
  |none=>rw [ha] at h;cases h
  | some q=>
    rw [ha] at h
    cases q with
    | true=>
      simp only at h
      split at h
      · rename_i hle
        cases h
        refine⟨.agg ((List.range (szT P T)).map fun j=>Y (o+j)).toArray,fun w hw=>?_⟩
        have hc:∀ j,j<szT P T→w.cell? ((⟨b,off+o,none⟩:Addr).add j)=some (Y (o+j)):=by
          intro j hj
          rw [addr_add,Nat.add_assoc]
          exact hY (o+j) _ (List.getElem?_eq_getElem (by omega)) w hw
        simp only [loadVar,Sem.run_bind,run_isAgg ha,Result.andThen_ok,if_true,run_sizeOf_ag ha,run_loadCells w _ _ (fun j=>Y (o+j)) hc,Sem.run_pure]
      · cases h
    | false=>
      simp only at h
      exact⟨Y o,fun w hw=>by simp only [loadVar,Sem.run_bind,run_isAgg ha,Result.andThen_ok,Bool.false_eq_true,if_false];simp [run_load,hY o v h w hw]⟩
/-- bounds of a region that draws its order: how many blocks there were when it began; the type of the blocks that its calls may write; the memory when it began -/
structure Lim where
  n:Nat
  ty:Option Nat
  m:Mem
/-- a block that the region's calls may write -/
def wrTy(T ty:Nat):Bool:=ty==T || (decide (100000≤T) && (ty==T / 1000 - 100 || ty==T % 1000))
def wrB:Option Nat→Blk→Bool
  |some T,.cells .own ty _ _=>wrTy T ty
  |_,_=>false
theorem wrB_own{T:Option Nat}{b:Blk}(h:wrB T b=true):b.own=true:=by
  unfold wrB at h
  split at h
  · rfl
  · cases h
theorem wrB_none(b:Blk):wrB none b=false:=by unfold wrB;split<;>first|rfl|simp_all
/-- .. without those -/
def killM(T:Option Nat)(m:Mem):Mem:=match T with
  |none=>m
  |some T=>m.map fun b=>if wrB (some T) b=true then .dead else b
theorem kill_len(T:Option Nat)(m:Mem):(killM T m).length=m.length:=by
  unfold killM;split<;>simp
theorem kill_get{T:Option Nat}{m:Mem}{b:Nat}{blk:Blk}(h:(killM T m)[b]?=some blk)(hd:blk≠ .dead):m[b]?=some blk∧wrB T blk=false:=by
  unfold killM at h
  split at h
  · exact⟨h,wrB_none _⟩
  · rw [List.getElem?_map,Option.map_eq_some_iff] at h
    obtain⟨b0,h1,h2⟩:=h
    split at h2
    · exact(hd h2.symm).elim
    · rename_i hw
      subst h2
      exact⟨h1,by simpa using hw⟩
def ldB (T:Option Nat) (m:Mem):V→Bool
  | .ptr b _ _=>match m[b]? with
    |some blk=>!wrB T blk
    |none=>true
  |_=>true
theorem ldB_none(m:Mem)(v:V):ldB none m v=true:=by
  unfold ldB;split
  · split
    · rw [wrB_none];rfl
    · rfl
  · rfl
/-- a load reads the same in every world that keeps what it reads -/
theorem load_det {P:Program} {D:Nat→Prop} {w:World} {ρ:List Re} {m:Mem} {a:Act} {t:List (Nat×V)} {o:Oper} {v:V} {m':Mem} {p:Prop} {L:Option Nat} (hM:RelM w ρ m) (hT:RelT w ρ m t a) {T:TypeId} {x:Operand} (ho:o.op= .load T x) (h:evOp P t m (.load T x)=some (p,v,m'))
    (hD:∀ k,D k→has (wrB L) m ρ k) (hl:ldB L m (evO t x)=true):
    ∃ y,∀ w',Keep D w w'→(execOp a.eval o).run P w'= .ok (.value y) w':=by
  have hx:=evO_rel hT x
  simp only [evOp] at h
  generalize he:a.eval x=ex at hx
  cases hv:evO t x<;>rw [hv] at h hx hl<;>try(simp at h;done)
  case bp cs q=>
    cases hx with
    | bp _ _ b off Y h1 h2 h3 h4 h5=>
      simp only [okO] at h
      split at h
      · rename_i u hu
        have hnd:¬ D b:=fun hd=>h2 (by
          obtain⟨d,blk,r,g1,g2,g3,g4⟩:=hD b hd
          exact⟨d,blk,r,g1,Blk.bad_of_own (wrB_own g2),g3,g4⟩)
        obtain⟨y,hr⟩:=partV_run (S:=Keep D w) (Y:=Y) (fun j c hc w' hw=>(World.cell?_of_block (w:=w) (hw.block b h1 hnd)).trans (h3 j c hc)) hu
        refine⟨y,fun w' hw=>?_⟩
        simp only [execOp,ho,he]
        exact run_v (by simpa [Instr.loadAt,Instr.sureAddr,go_sem] using hr w' hw)
      · cases h
  case ptr b i q=>
    cases hx with
    | ptr _ _ _ r hr=>
      simp only at h
      split at h
      · rename_i wr ty sz es hb
        split at h
        · rename_i e hes
          simp only [okO] at h
          split at h
          · rename_i u hu
            obtain⟨r0,cur,k1,k2,k3,k4,k5,k6,k7,k8,k9⟩:=hM.cells b wr ty sz es hb
            rw [hr] at k1
            cases k1
            have hnd:¬ D r.blk:=fun hd=>by
              obtain⟨d,blk,r',g1,g2,g3,g4⟩:=hD _ hd
              have:=hM.inj b d _ _ _ _ hb (by simp) g1 (Blk.bad_of_own (wrB_own g2)) hr g3 g4.symm
              subst this
              rw [hb] at g1
              cases g1
              simp only [ldB,hb] at hl
              rw [g2] at hl
              cases hl
            have hcell:∀ j,w.cell? ⟨r.blk,i * r.sz+j,none⟩=cur[i * r.sz+j]?:=fun j=>by simp [World.cell?,k4]
            obtain⟨y,hrun⟩:=partV_run (P:=P) (S:=Keep D w) (b:=r.blk) (off:=i * r.sz) (Y:=fun j=>(cur[i * r.sz+j]?).getD undef)
              (fun j c hc w' hw=>by
                obtain⟨_,y,hy,_⟩:=k9 i j e c hes hc
                refine(World.cell?_of_block (w:=w) (hw.block _ (heap_lt k4) hnd)).trans ?_
                rw [hcell,k2,hy];rfl) hu
            refine⟨y,fun w' hw=>?_⟩
            simp only [execOp,ho,he]
            exact run_v (by simpa [Instr.loadAt,Instr.sureAddr,go_sem] using hrun w' hw)
          · cases h
        · cases h
      · cases h

/-- a call that writes one block, d, and that is all; v is its result -/
def CallW(P:Program)(g:FuncId)(args:List V)(d:Nat)(blk0 blk':Blk)(v:V):Prop:=∀ M:Mem,M[d]?=some blk0→CallA P g args M (fun v' mo=>v'=v∧mo=some (M.set d blk'))
/-- the block d is one that the region's calls may write -/
def mayW(L:Lim)(d:Nat):Prop:=∃ b0,L.m[d]?=some b0∧wrB L.ty b0=true
/-- what an operation of a kind may do -/
def kOk(P:Program)(L:Lim)(k:Kd)(t:List (Nat×V))(op:Op)(m m':Mem)(v:V):Prop:=match k with
  | .p=>(isRd op=true∧m'=m)∨(∃ o T x y T' k a j b,op= .binOp o T x y T'∧evO t x= .int k a∧evO t y= .int j b∧v.det=true∧m'=m)∨∃ x,op= .nilCheck x∧m'=m
  | .q=>isPure op=true∧m'=m∧(isRd op=true∨(isLd op=true∧(L.ty=none∨∃ U x,op= .load U x∧ldB L.ty m (evO t x)=true))∨(v.det=true∧(L.ty=none∨∃ p,evA P t (killM L.ty m) op=some (p,v,killM L.ty m)∧p)))
  | .a=>isPure op=true∨isFresh op=true
  | .f=>isPure op=true∨(∃ T x y b i o,op= .store T x y∧evO t x= .ptr b i o∧(L.n≤b∨mayW L b))∨∃ T x y b n,op= .call ⟨.builtin .append,⟨[x,y]⟩,⟨[T,T]⟩⟩∧(evO t x= .nilsl∨evO t x= .sl b n∧(L.n≤b∨mayW L b))
  | .w=>True
def kCall (P:Program) (L:Lim) (k:Kd) (g:FuncId) (args:List V) (m:Mem) (K:V→Mem→Prop):Prop:=match k with
  | .q=>∃ v0,v0.det=true∧CallA P g args (killM L.ty m) (fun v mo=>v=v0∧mo=none)∧K v0 m
  | .a=>CallA P g args m (fun v mo=>mo=none∧K v m)∨
    ∃ (n:Nat) (T:TypeId) (sz:Nat) (es:List (List V)) (Y:Mem),es.all detL=true∧CallA P g args (lend m) (fun v mo=>v= .sl (m.length+Y.length) n∧mo=some (lend m++(Y++[.cells .own T sz es])))∧K (.sl m.length n) (m++[.cells .own T sz es])
  | .w=>CallA P g args m (fun v mo=>K v (mo.getD m))
  | .f=>∃ d blk0 blk' v,m[d]?=some blk0∧mayW L d∧blk0.own=true∧CallW P g args d blk0 blk' v∧K v (m.set d blk')
  |_=>False
/-- one operation of a region that draws its order -/
def WDop (P:Program) (N:Nat) (L:Lim) (kd:Kd) (t:List (Nat×V)) (m:Mem) (op:Op) (dst:Option Nat) (K:List (Nat×V)→Mem→Prop):Prop:=
  dOk N dst∧
  match op with
  | .call ⟨.value f,args,_⟩=>match evO t f with
    | .clo (.func g) fs cs=>kCall P L kd g (fs++args.toList.map (evO t)++cs) m (fun v m'=>K (tput t dst v) m')
    | .clo (.yield l) [] []=>kd= .w∧YieldA P l (args.toList.map (evO t)) m (fun v mo=>K (tput t dst v) (mo.getD m))
    |_=>False
  | op=>match evA P t m op with
    |some (p,v,m')=>p∧kOk P L kd t op m m' v∧K (tput t dst v) m'
    |none=>kd= .w∧XOp P t m op fun v m'=>K (tput t dst v) m'
inductive TV where
  |v (x:V)
  |ptr (i a o:Nat)
  |sl (i n:Nat)
  |mp (i:Nat)
def TV.inst(f:Nat→Nat):TV→V
  | .v x=>x
  | .ptr i a o=> .ptr (f i) a o
  | .sl i n=> .sl (f i) n
  | .mp i=> .mp (f i)
def Blk.flat:Blk→Bool
  | .cells _ _ _ es=>es.all plainL
  | .obj _ vs _=>vs.isEmpty
  | .dead=>false
def deadB(X:Mem):Mem:=X.map fun _=> .dead
/-- an operation that makes one block, whatever there is -/
def Maker(op:Op)(v:TV)(blk:Blk):Prop:=isFresh op=true∧blk.flat=true∧((∃ n,v= .sl 0 n)∨∃ a o,v= .ptr 0 a o)
def MakerEv(P:Program)(t:List (Nat×V))(op:Op)(v:TV)(blk:Blk)(p:Prop):Prop:=∀ m,evA P t m op=some (p,v.inst (fun _=>m.length),m++[blk])

def dstOf(ops:Array Oper)(i:Nat):Option Nat:=(ops[i]?).bind (·.dst)
def callsT(ops:Array Oper):List Nat→List V→List (Nat×V)→List (Nat×V)
  |c::cs,v::vs,t=>callsT ops cs vs (tput t (dstOf ops c) v)
  |_,_,t=>t
def mksT(ops:Array Oper)(tv:Nat→TV):List Nat→Nat→List (Nat×V)→List (Nat×V)
  |n::ns,k,t=>mksT ops tv ns (k+1) (tput t (dstOf ops n) ((tv n).inst fun _=>k))
  |[],_,t=>t
/-- a step of a group: a call that leaves what it sees alone; an operation that reads its slots; a call that writes one block -/
def GStep(P:Program)(kd:Nat→Kd)(L:Lim)(c:Nat)(op:Op)(t:List (Nat×V))(m:Mem)(v:V)(m1:Mem):Prop:=
  (kd c= .a∧m1=m∧∃ f args ts g fs cc,op= .call ⟨.value f,args,ts⟩∧evO t f= .clo (.func g) fs cc∧∀ m',Gives P g (fs++args.toList.map (evO t)++cc) m' v)∨
  (kd c= .a∧m1=m∧isPure op=true∧∃ p,p∧∀ m',evA P t m' op=some (p,v,m'))∨
  (kd c= .f∧∃ f args ts g fs cc d blk0 blk',op= .call ⟨.value f,args,ts⟩∧evO t f= .clo (.func g) fs cc∧m[d]?=some blk0∧mayW L d∧blk0.own=true∧CallW P g (fs++args.toList.map (evO t)++cc) d blk0 blk' v∧m1=m.set d blk')
/-- the steps of a group, in their order -/
def CallsOk(P:Program)(N:Nat)(ops:Array Oper)(kd:Nat→Kd)(L:Lim):List Nat→List V→List (Nat×V)→Mem→Mem→Prop
  |[],vs,_,m,mf=>vs=[]∧mf=m
  |c::cs,vs,t,m,mf=>∃ v vs' m1,vs=v::vs'∧(∃ o,ops[c]?=some o∧dOk N o.dst∧GStep P kd L c o.op t m v m1)∧CallsOk P N ops kd L cs vs' (tput t (dstOf ops c) v) m1 mf
theorem callsOk_len{P:Program}{N:Nat}{ops:Array Oper}{kd:Nat→Kd}{L:Lim}:∀ {cs:List Nat} {vs:List V} {t:List (Nat×V)} {m mf:Mem},CallsOk P N ops kd L cs vs t m mf→mf.length=m.length
  |[],_,_,_,_,h=>by rw [h.2]
  | c::cs,vs,t,m,mf,⟨v,vs',m1,_,⟨o,_,_,hs⟩,h⟩=>by
    rw [callsOk_len h]
    rcases hs with ⟨_,h,_⟩|⟨_,h,_⟩|⟨_,_,_,_,_,_,_,_,_,_,_,_,_,_,_,_,h⟩
    · rw [h]
    · rw [h]
    · rw [h,List.length_set]
def MkOk(P:Program)(N:Nat)(ops:Array Oper)(t:List (Nat×V))(n:Nat)(v:TV)(blk:Blk):Prop:=∃ o p,ops[n]?=some o∧dOk N o.dst∧Maker o.op v blk∧MakerEv P t o.op v blk p∧p
/-- a group, each of its orders walked -/
def WDg (P:Program) (N:Nat) (ops:Array Oper) (kd:Nat→Kd) (L:Lim) (K:List (Nat×V)→Mem→Prop):Nat→List Nat→List Nat→List (Nat×V)→Mem→Prop
  |0,cs,ns,t,m=>cs=[]∧ns=[]∧K t m
  | f+1,cs,ns,t,m=>(∀ c cs',cs=c::cs'→(∀ n∈ns,reach ops ops.size c n=false)→∃ o,ops[c]?=some o∧WDop P N L (kd c) t m o.op o.dst (fun t m=>WDg P N ops kd L K f cs' ns t m))∧
    (∀ n∈ns,∃ o,ops[n]?=some o∧WDop P N L (kd n) t m o.op o.dst (fun t m=>WDg P N ops kd L K f cs (ns.erase n) t m))
/-- .. in our order -/
def WDs (P:Program) (N:Nat) (ops:Array Oper) (kd:Nat→Kd) (L:Lim):List El→List (Nat×V)→Mem→(List (Nat×V)→Mem→Prop)→Prop
  |[],t,m,Q=>Q t m
  | .one i::l,t,m,Q=>match ops[i]? with
    | some o=>match o.guard with
      |none=>WDop P N L (kd i) t m o.op o.dst (fun t m=>WDs P N ops kd L l t m Q)
      | some (j,want)=>match (ops[j]?).bind (·.dst) with
        | some d=>match tget t d with
          | .bool c=>(c=want→WDop P N L (kd i) t m o.op o.dst (fun t m=>WDs P N ops kd L l t m Q))∧(¬ c=want→dOk N o.dst∧WDs P N ops kd L l (tput t o.dst (.tup [])) m Q)
          | .tup []=>dOk N o.dst∧WDs P N ops kd L l (tput t o.dst (.tup [])) m Q
          |_=>False
        |none=>False
    |none=>False
  | .grp false cs ns::l,t,m,Q=>WDg P N ops kd L (fun t m=>WDs P N ops kd L l t m Q) (cs.length+ns.length) cs ns t m
  | .grp true cs ns::l,t,m,Q=>∃ (vs:List V) (tv:Nat→TV) (bl:Nat→Blk) (mf:Mem),CallsOk P N ops kd L cs vs t m mf∧(∀ n∈ns,MkOk P N ops t n (tv n) (bl n))∧
      WDs P N ops kd L l (mksT ops tv ns (m.length+ns.length) (callsT ops cs vs t)) ((mf++List.replicate ns.length .dead)++ns.map bl) Q

theorem pre_get{α:Type}{a b:List α}{i:Nat}{x:α}(h:a[i]?=some x):(a++b)[i]?=some x:=by
  rw [List.getElem?_append_left (List.getElem?_eq_some_iff.1 h).1];exact h
theorem renorm {w:World} {ρ:List Re} {B X E:Mem} {js:List Nat} (hM:RelM w ρ (B++X)) (hl:js.length=E.length) (hn:js.Nodup)
    (hb:∀ (i j:Nat),js[i]?=some j→X[j]?=E[i]?) (hf:E.all Blk.flat=true):
    ∃ ρ',RelM w ρ' ((B++deadB X)++E)∧After w ρ (B++X) w ρ' ((B++deadB X)++E)∧(∀ (i j:Nat) r,js[i]?=some j→ρ[B.length+j]?=some r→ρ'[(B++deadB X).length+i]?=some r):=by
  have hlen:=hM.len
  rw [List.length_append] at hlen
  have hBX:(B++deadB X).length=ρ.length:=by simp [deadB,hlen]
  -- the new list of real blocks
  have hX:∀ (i j:Nat),js[i]?=some j→∃ blk,E[i]?=some blk∧X[j]?=some blk:=by
    intro i j h
    have hi:i<E.length:=by rw [←hl];exact(List.getElem?_eq_some_iff.1 h).1
    have h1:E[i]?=some E[i]:=List.getElem?_eq_getElem hi
    exact⟨_,h1,(hb i j h).trans h1⟩
  have hr:∀ (i j:Nat),js[i]?=some j→∃ r,ρ[B.length+j]?=some r:=by
    intro i j h
    obtain⟨blk,_,h2⟩:=hX i j h
    have hj:j<X.length:=(List.getElem?_eq_some_iff.1 h2).1
    exact⟨_,List.getElem?_eq_getElem (by omega)⟩
  refine⟨ρ++js.map (fun j=>(ρ[B.length+j]?).getD ⟨0,0,0⟩),?_⟩
  have hnew:∀ (i j:Nat) r,js[i]?=some j→ρ[B.length+j]?=some r→(ρ++js.map (fun j=>(ρ[B.length+j]?).getD ⟨0,0,0⟩))[(B++deadB X).length+i]?=some r:=by
    intro i j r h1 h2
    rw [hBX,List.getElem?_append_right (by omega),Nat.add_sub_cancel_left,List.getElem?_map,h1]
    simp [h2]
  have hold:∀ (b:Nat) r,b<ρ.length→(ρ++js.map (fun j=>(ρ[B.length+j]?).getD ⟨0,0,0⟩))[b]?=some r→ρ[b]?=some r:=by
    intro b r h1 h2
    rwa [List.getElem?_append_left h1] at h2
  -- where a block of the new memory stood
  have key:∀ (b:Nat) blk r,((B++deadB X)++E)[b]?=some blk→blk≠ .dead→(ρ++js.map (fun j=>(ρ[B.length+j]?).getD ⟨0,0,0⟩))[b]?=some r→
      (b<B.length∧(B++X)[b]?=some blk∧ρ[b]?=some r)∨(∃ i j,b=(B++deadB X).length+i∧js[i]?=some j∧E[i]?=some blk∧(B++X)[B.length+j]?=some blk∧ρ[B.length+j]?=some r):=by
    intro b blk r h1 h2 h3
    rcases Nat.lt_or_ge b (B++deadB X).length with q|q
    · rw [List.getElem?_append_left q] at h1
      rcases Nat.lt_or_ge b B.length with p|p
      · rw [List.getElem?_append_left p] at h1
        exact .inl ⟨p,pre_get h1,hold b r (by omega) h3⟩
      · rw [List.getElem?_append_right p] at h1
        simp only [deadB,List.getElem?_map,Option.map_eq_some_iff] at h1
        obtain⟨_,_,rfl⟩:=h1
        exact(h2 rfl).elim
    · rw [List.getElem?_append_right q] at h1
      have hi:b - (B++deadB X).length<js.length:=by rw [hl];exact(List.getElem?_eq_some_iff.1 h1).1
      have hj:js[b - (B++deadB X).length]?=some (js[b - (B++deadB X).length]):=List.getElem?_eq_getElem hi
      obtain⟨r',hr'⟩:=hr _ _ hj
      have:=hnew _ _ _ hj hr'
      rw [show(B++deadB X).length+(b - (B++deadB X).length)=b by omega,h3] at this
      cases this
      refine .inr ⟨_,_,by omega,hj,h1,?_,hr'⟩
      rw [List.getElem?_append_right (by omega),Nat.add_sub_cancel_left]
      exact(hb _ _ hj).trans h1
  have hhas:∀ {p:Blk→Bool} (_:∀ b,p b=true→b≠ .dead) k,has p ((B++deadB X)++E) (ρ++js.map (fun j=>(ρ[B.length+j]?).getD ⟨0,0,0⟩)) k→has p (B++X) ρ k:=by
    intro p hp k h
    obtain⟨b,blk,r,h1,h2,h3,h4⟩:=h
    rcases key b blk r h1 (hp _ h2) h3 with ⟨_,q1,q2⟩|⟨i,j,_,_,_,q1,q2⟩
    · exact⟨b,blk,r,q1,h2,q2,h4⟩
    · exact⟨_,blk,r,q1,h2,q2,h4⟩
  have hbd:∀ k,bad ((B++deadB X)++E) (ρ++js.map (fun j=>(ρ[B.length+j]?).getD ⟨0,0,0⟩)) k→bad (B++X) ρ k:=hhas (fun b h=>Blk.live_of_bad h)
  have hpre:∀ (b:Nat) r,ρ[b]?=some r→(ρ++js.map (fun j=>(ρ[B.length+j]?).getD ⟨0,0,0⟩))[b]?=some r:=fun b r h=>pre_get h
  have hE:∀ (i:Nat) blk,E[i]?=some blk→blk.flat=true:=fun i blk h=>List.all_eq_true.1 hf _ (List.mem_of_getElem? h)
  have hmem:RelM w (ρ++js.map (fun j=>(ρ[B.length+j]?).getD ⟨0,0,0⟩)) ((B++deadB X)++E):=by
    refine⟨by rw [List.length_append,List.length_append,hBX,List.length_map,hl],?_,?_,?_,hM.glob.mono fun v x g3=>g3.mono (Nat.le_refl _) (fun _ _ _=>rfl) (fun k _ h=>hbd k h) hpre⟩
    · intro b st ty sz es h
      have hlt:b<(ρ++js.map (fun j=>(ρ[B.length+j]?).getD ⟨0,0,0⟩)).length:=by
        have:=(List.getElem?_eq_some_iff.1 h).1
        simp only [List.length_append,List.length_map] at this ⊢
        simp only [List.length_append] at hBX
        omega
      have hx:=List.getElem?_eq_getElem hlt
      rcases key b _ _ h (by simp) hx with ⟨_,q1,q2⟩|⟨i,j,_,_,q0,q1,q2⟩
      · obtain⟨r,cur,k1,k2,k3,k4,k5,k6,k7,k8,k9⟩:=hM.cells b st ty sz es q1
        rw [q2] at k1;cases k1
        refine⟨_,cur,hx,k2,k3,k4,k5,k6,k7,k8,fun i j e v e1 e2=>?_⟩
        obtain⟨g1,y,g2,g3⟩:=k9 i j e v e1 e2
        exact⟨g1,y,g2,g3.mono (Nat.le_refl _) (fun _ _ _=>rfl) (fun k _ h=>hbd k h) hpre⟩
      · obtain⟨r,cur,k1,k2,k3,k4,k5,k6,k7,k8,k9⟩:=hM.cells _ st ty sz es q1
        rw [q2] at k1;cases k1
        refine⟨_,cur,hx,k2,k3,k4,k5,k6,k7,k8,fun i j e v e1 e2=>?_⟩
        obtain⟨g1,y,g2,g3⟩:=k9 i j e v e1 e2
        have:=hE _ _ q0
        simp only [Blk.flat,List.all_eq_true] at this
        exact⟨g1,y,g2,plain_rel (fun k _ h=>hbd k h) g3 (plainL_mem (this e (List.mem_of_getElem? e1)) v (List.mem_of_getElem? e2))⟩
    · intro b b' blk blk' r r' h1 h2 h3 h4 h5 h6 h7
      rcases key b blk r h1 h2 h5 with ⟨a0,a1,a2⟩|⟨i,j,rfl,aj,a0,a1,a2⟩<;>rcases key b' blk' r' h3 (Blk.live_of_bad h4) h6 with ⟨c0,c1,c2⟩|⟨i',j',rfl,cj,c0,c1,c2⟩
      · exact hM.inj b b' blk blk' r r' a1 h2 c1 h4 a2 c2 h7
      · have:=hM.inj _ _ blk blk' r r' a1 h2 c1 h4 a2 c2 h7;omega
      · have:=hM.inj _ _ blk blk' r r' a1 h2 c1 h4 a2 c2 h7;omega
      · have:=hM.inj _ _ blk blk' r r' a1 h2 c1 h4 a2 c2 h7
        have hjj:j=j':=by omega
        subst hjj
        have hi:i<js.length:=(List.getElem?_eq_some_iff.1 aj).1
        have:i=i':=(List.getElem?_inj hi hn).1 (aj.trans cj.symm)
        rw [this]
    · intro b st vs φ h
      have hlt:b<(ρ++js.map (fun j=>(ρ[B.length+j]?).getD ⟨0,0,0⟩)).length:=by
        have:=(List.getElem?_eq_some_iff.1 h).1
        simp only [List.length_append,List.length_map] at this ⊢
        simp only [List.length_append] at hBX
        omega
      have hx:=List.getElem?_eq_getElem hlt
      rcases key b _ _ h (by simp) hx with ⟨_,q1,q2⟩|⟨i,j,_,_,q0,q1,q2⟩
      · obtain⟨r,k1,k2⟩:=hM.objs b st vs φ q1
        rw [q2] at k1;cases k1
        exact⟨_,hx,k2.mono (fun _=>rfl) fun v x g3=>g3.mono (Nat.le_refl _) (fun _ _ _=>rfl) (fun k _ h=>hbd k h) hpre⟩
      · have:=hE _ _ q0
        simp only [Blk.flat,List.isEmpty_iff] at this
        subst this
        obtain⟨r,k1,k2⟩:=hM.objs _ st [] φ q1
        rw [q2] at k1;cases k1
        obtain⟨o,xs,g1,g2,g3,g4,_⟩:=k2
        exact⟨_,hx,o,xs,g1,g2,g3,g4,fun i v x h=>by simp at h⟩
  exact⟨hmem,⟨Keep.refl _ _,hpre,hmem,fun k _ h=>hhas (fun b h=>Blk.live_of_bad (Blk.bad_of_own h)) k h,fun k _ h=>hbd k h⟩,hnew⟩

section
variable {P:Program} {N:Nat} {z:Zr}
theorem Rel.later{w w':World}{ρ:List Re}{m:Mem}{t:List (Nat×V)}{a:Act}(h:Rel N z w ρ m t a)(hb:Ext w w'):Rel N z w' ρ m t a:=
  ⟨h.mem.mono hb,h.tm.after (After.of_same h.mem hb),h.size,h.defers.after (After.of_same h.mem hb)⟩
theorem Rel.putv{w w':World}{ρ ρ':List Re}{m m':Mem}{t:List (Nat×V)}{a:Act}(hR:Rel N z w ρ m t a){dst:Option Nat}(hd:dOk N dst){v:V}{x:Value}(af:After w ρ m w' ρ' m')(rv:RelV w' ρ' (bad m' ρ') v x):Rel N z w' ρ' m' (tput t dst v) (a.put dst x):=by
  refine⟨af.mem,tput_rel (hR.tm.after af) rv (fun k e=>by rw [hR.size];exact dOk_lt hd k e),?_,?_⟩
  · cases dst<;>simp [Act.put,hR.size]
  · rw [put_defers];exact hR.defers.after af

theorem call_args {w:World} {ρ:List Re} {m:Mem} {t:List (Nat×V)} {a:Act} (hR:Rel N z w ρ m t a) {o:Oper} {f:Operand} {args:Array Operand} {ts:Array TypeId} (ho:o.op= .call ⟨.value f,args,ts⟩) {g:FuncId} {fs cs:List V} (hf:evO t f= .clo (.func g) fs cs) (hgo:isGo P g=true):
    ∃ xs,(∀ w',(execOp a.eval o).run P w'= .ok (.enter g xs) w')∧RelAs w ρ m (fs++args.toList.map (evO t)++cs) xs:=by
  have hfr:=evO_rel hR.tm f hR.mem
  rw [hf] at hfr
  generalize hef:a.eval f=ef at hfr
  cases hfr with
  | clo _ _ _ f2 c2 hlf hlc hrf hrc=>
    refine⟨f2++args.map a.eval++c2,fun w'=>by simp only [execOp,ho,resolve,hef,Deferred.ofValue,invoke,Sem.run_bind,Sem.run_pure,Result.andThen_ok,run_callFunc hgo],?_⟩
    have e2:(f2++args.map a.eval++c2).toList=f2.toList++args.toList.map a.eval++c2.toList:=by simp
    refine⟨by simp;omega,fun i v x h1 h2=>?_⟩
    have h2':(f2.toList++args.toList.map a.eval++c2.toList)[i]?=some x:=by rw [←e2,Array.getElem?_toList];exact h2
    have hl1:fs.length=f2.toList.length:=by simpa using hlf
    by_cases q1:i<fs.length
    · rw [List.append_assoc,List.getElem?_append_left q1] at h1
      rw [List.append_assoc,List.getElem?_append_left (by omega)] at h2'
      exact hrf i v x h1 (by simpa using h2')
    · by_cases q2:i<(fs++args.toList.map (evO t)).length
      · rw [List.getElem?_append_left q2,List.getElem?_append_right (by omega)] at h1
        rw [List.getElem?_append_left (by simp at q2 ⊢;simp at hl1;omega),List.getElem?_append_right (by omega),←hl1] at h2'
        simp only [List.getElem?_map,Option.map_eq_some_iff] at h1 h2'
        obtain⟨o1,g1,rfl⟩:=h1
        obtain⟨o2,g2,rfl⟩:=h2'
        rw [g1] at g2
        cases g2
        exact evO_rel hR.tm _ hR.mem
      · rw [List.getElem?_append_right (by omega)] at h1
        have hl2:(fs++args.toList.map (evO t)).length=(f2.toList++args.toList.map a.eval).length:=by simp at hl1 ⊢;omega
        rw [List.getElem?_append_right (by omega),←hl2] at h2'
        exact hrc _ v x h1 (by simpa using h2')

theorem RelAs.later{w w':World}{ρ:List Re}{m:Mem}{vs:List V}{xs:Array Value}(hM:RelM w ρ m)(h:RelAs w ρ m vs xs)(hb:Ext w w'):RelAs w' ρ m vs xs:=
  ⟨h.1,fun i v x h1 h2=>(After.of_same hM hb).rel (h.2 i v x h1 h2)⟩

theorem fresh_shape {t:List (Nat×V)} {m:Mem} {op:Op} {p:Prop} {v:V} {m':Mem} (hf:isFresh op=true) (h:evA P t m op=some (p,v,m')):∃ T sz es,m'=m++[.cells .own T sz es]:=by
  cases op<;>simp only [isFresh] at hf<;>try(cases hf;done)
  case alloc T=>
    simp only [evA,evOp] at h
    split at h
    · split at h
      · cases h;exact⟨_,_,_,rfl⟩
      · cases h
    · cases h
  case box T x=>
    simp only [evA,evOp] at h
    split at h
    · split at h
      · cases h;exact⟨_,_,_,rfl⟩
      · cases h
    · cases h
  case makeSlice T l c=>
    simp only [evA,evMake] at h
    split at h
    · split at h
      · split at h
        · cases h;exact⟨_,_,_,rfl⟩
        · cases h
      · cases h
    · cases h
  case buildSlice T n parts=>
    simp only [evA,evBuildSl] at h
    split at h
    · split at h
      · split at h
        · split at h
          · cases h;exact⟨_,_,_,rfl⟩
          · cases h
        · cases h
      · cases h
    · cases h

/-- a block that has come, lies behind what there was -/
theorem new_behind{w w1:World}{ρ ρ1:List Re}{m:Mem}{T:TypeId}{sz:Nat}{es:List (List V)}(hM:RelM w ρ m)(af:After w ρ m w1 ρ1 (m++[.cells .own T sz es])){r:Re}(hr:ρ1[m.length]?=some r):w.heap.size≤r.blk:=by
  rcases Nat.lt_or_ge r.blk w.heap.size with q|q
  · exfalso
    have hg:(m++[Blk.cells .own T sz es])[m.length]?=some (.cells .own T sz es):=by simp
    obtain⟨b,blk,r',h1,h2,h3,h4⟩:=af.own r.blk q ⟨m.length,_,r,hg,rfl,hr,rfl⟩
    have hb:b<m.length:=(List.getElem?_eq_some_iff.1 h1).1
    have:=af.mem.inj b m.length blk _ r' r (pre_get h1) (Blk.live_of_bad (Blk.bad_of_own h2)) hg rfl (af.pre b r' h3) hr h4
    omega
  · exact q

theorem WDop_cases{L:Lim}{kd:Kd}{t:List (Nat×V)}{m:Mem}{op:Op}{dst:Option Nat}{K:List (Nat×V)→Mem→Prop}(h:WDop P N L kd t m op dst K):
    dOk N dst∧((∃ f args ts g fs cs,op= .call ⟨.value f,args,ts⟩∧evO t f= .clo (.func g) fs cs∧kCall P L kd g (fs++args.toList.map (evO t)++cs) m (fun v m'=>K (tput t dst v) m'))∨
      (∃ p v m',evA P t m op=some (p,v,m')∧p∧kOk P L kd t op m m' v∧K (tput t dst v) m')∨(kd= .w∧XOp P t m op fun v m'=>K (tput t dst v) m')∨∃ f args ts l,op= .call ⟨.value f,args,ts⟩∧evO t f= .clo (.yield l) [] []∧kd= .w∧YieldA P l (args.toList.map (evO t)) m (fun v mo=>K (tput t dst v) (mo.getD m))):=by
  obtain⟨hd,h⟩:=h
  refine⟨hd,?_⟩
  split at h
  · rename_i f args ts
    split at h
    · rename_i g fs cs hf
      exact .inl ⟨_,_,_,_,_,_,rfl,hf,h⟩
    · rename_i l hf
      exact .inr (.inr (.inr ⟨_,_,_,_,rfl,hf,h⟩))
    · exact h.elim
  · split at h
    · rename_i p v m' he
      exact .inr (.inl ⟨_,_,_,he,h⟩)
    · exact .inr (.inr (.inl h))

theorem RelM.kill{D:Nat→Prop}{T:Option Nat}{w w':World}{ρ:List Re}{m:Mem}(h:RelM w ρ m)(hD:∀ k,D k→has (wrB T) m ρ k)(hk:Keep D w w'):
    RelM w' ρ (killM T m)∧∀ v x,RelV w ρ (bad m ρ) v x→RelV w' ρ (bad (killM T m) ρ) v x:=by
  have hDb:∀ k,D k→bad m ρ k:=fun k hd=>by
    obtain⟨d,blk,r,g1,g2,g3,g4⟩:=hD k hd
    exact⟨d,blk,r,g1,Blk.bad_of_own (wrB_own g2),g3,g4⟩
  have hbad:∀ k,bad (killM T m) ρ k→bad m ρ k:=by
    rintro k ⟨b,blk,r,h1,h2,h3,h4⟩
    exact⟨b,blk,r,(kill_get h1 (Blk.live_of_bad h2)).1,h2,h3,h4⟩
  have hV:∀ v x,RelV w ρ (bad m ρ) v x→RelV w' ρ (bad (killM T m) ρ) v x:=fun v x hr=>
    hr.mono hk.size (fun k hlt hn=>hk.block k hlt fun hd=>hn (hDb k hd)) (fun k _ h=>hbad k h) fun _ _ h=>h
  have hnD:∀ (b:Nat) (blk:Blk) (r:Re),(killM T m)[b]?=some blk→blk≠ .dead→ρ[b]?=some r→¬ D r.blk:=by
    intro b blk r h1 h2 h3 hd
    obtain⟨g1,g2⟩:=kill_get h1 h2
    obtain⟨d,blk',r',q1,q2,q3,q4⟩:=hD _ hd
    have:=h.inj b d _ _ _ _ g1 h2 q1 (Blk.bad_of_own (wrB_own q2)) h3 q3 q4.symm
    subst this
    rw [g1] at q1
    cases q1
    rw [g2] at q2
    cases q2
  refine⟨⟨h.len.trans (kill_len T m).symm,fun b st ty sz es hm=>?_,fun b b' blk blk' r r' h1 h2 h3 h4 h5 h6 h7=>?_,fun b st vs φ hm=>?_,h.glob.mono hV⟩,hV⟩
  · have g1:=(kill_get hm (by simp)).1
    obtain⟨r,cur,k1,k2,k3,k4,k5,k6,k7,k8,k9⟩:=h.cells b st ty sz es g1
    refine⟨r,cur,k1,k2,k3,(hk.block _ (heap_lt k4) (hnD b _ r hm (by simp) k1)).trans k4,k5,k6,k7,k8,fun i j e v a1 a2=>?_⟩
    obtain⟨b1,y,b2,b3⟩:=k9 i j e v a1 a2
    exact⟨b1,y,b2,hV _ _ b3⟩
  · exact h.inj b b' blk blk' r r' (kill_get h1 h2).1 h2 (kill_get h3 (Blk.live_of_bad h4)).1 h4 h5 h6 h7
  · have g1:=(kill_get hm (by simp)).1
    obtain⟨r,k1,k2⟩:=h.objs b st vs φ g1
    exact⟨r,k1,k2.mono (fun hlt=>hk.block _ hlt (hnD b _ r hm (by simp) k1)) hV⟩
/-- all is lent but one block -/
def lendX(m:Mem)(d:Nat)(blk0:Blk):Mem:=(lend m).set d blk0
theorem lendX_get{m:Mem}{d:Nat}{blk0:Blk}(hd:m[d]?=some blk0){b:Nat}{blk:Blk}(h:(lendX m d blk0)[b]?=some blk):∃ b0,m[b]?=some b0∧((b=d∧blk=b0)∨(b≠d∧blk=lendB b0)):=by
  unfold lendX at h
  rw [List.getElem?_set] at h
  split at h
  · rename_i e
    subst e
    split at h
    · cases h;exact⟨_,hd,.inl ⟨rfl,rfl⟩⟩
    · cases h
  · rename_i e
    obtain⟨b0,g1,rfl⟩:=lend_get h
    exact⟨b0,g1,.inr ⟨fun q=>e q.symm,rfl⟩⟩
theorem lendX_of{m:Mem}{d:Nat}{blk0:Blk}{b:Nat}{b0:Blk}(hd:m[d]?=some blk0)(h:m[b]?=some b0):∃ blk,(lendX m d blk0)[b]?=some blk∧blk.bad=b0.bad∧(b0≠ .dead→blk≠ .dead):=by
  by_cases e:b=d
  · subst e
    refine⟨blk0,?_,?_,?_⟩
    · unfold lendX
      rw [List.getElem?_set,if_pos rfl,if_pos (by simp [lend];exact(List.getElem?_eq_some_iff.1 hd).1)]
    · rw [hd] at h;cases h;rfl
    · rw [hd] at h;cases h;exact fun h=>h
  · refine⟨lendB b0,?_,lendB_bad b0,?_⟩
    · unfold lendX
      rw [List.getElem?_set,if_neg (fun q=>e q.symm)]
      simp [lend,h]
    · intro hn
      cases b0 with
      |cells st ty sz es=>cases st<;>simp [lendB]
      |obj st vs φ=>cases st<;>simp [lendB]
      |dead=>exact(hn rfl).elim
theorem lendX_bad{m:Mem}{ρ:List Re}{d:Nat}{blk0:Blk}(hd:m[d]?=some blk0){k:Nat}:bad (lendX m d blk0) ρ k↔bad m ρ k:=by
  constructor
  · rintro⟨b,blk,r,h1,h2,h3,h4⟩
    obtain⟨b0,g1,g2⟩:=lendX_get hd h1
    rcases g2 with ⟨_,rfl⟩|⟨_,rfl⟩
    · exact⟨b,_,r,g1,h2,h3,h4⟩
    · exact⟨b,_,r,g1,(lendB_bad _).symm.trans h2,h3,h4⟩
  · rintro⟨b,blk,r,h1,h2,h3,h4⟩
    obtain⟨b1,g1,g2,_⟩:=lendX_of hd h1
    exact⟨b,b1,r,g1,g2.trans h2,h3,h4⟩
theorem lendB_cells{b0:Blk}{st:Sta}{ty sz:Nat}{es:List (List V)}(h:lendB b0= .cells st ty sz es):∃ st0,b0= .cells st0 ty sz es:=by
  cases b0 with
  |cells st' ty' sz' es'=>cases st'<;>simp [lendB] at h<;>exact⟨_,by rw [h.2.1,h.2.2.1,h.2.2.2]⟩
  |obj st' vs' φ'=>cases st'<;>simp [lendB] at h
  |dead=>simp [lendB] at h
theorem lendB_obj{b0:Blk}{st:Sta}{vs:List V}{φ:Nat→Obj→List Value→Prop}(h:lendB b0= .obj st vs φ):∃ st0,b0= .obj st0 vs φ:=by
  cases b0 with
  |cells st' ty' sz' es'=>cases st'<;>simp [lendB] at h
  |obj st' vs' φ'=>cases st'<;>simp [lendB] at h<;>exact⟨_,by rw [h.2.1,h.2.2]⟩
  |dead=>simp [lendB] at h
theorem lendB_own(b:Blk):(lendB b).own=false:=by
  cases b with
  |cells st ty sz es=>cases st<;>rfl
  |obj st vs φ=>cases st<;>rfl
  |dead=>rfl
theorem RelM.lendX{w:World}{ρ:List Re}{m:Mem}(h:RelM w ρ m){d:Nat}{blk0:Blk}(hd:m[d]?=some blk0):RelM w ρ (lendX m d blk0):=by
  have hV:∀ {v:V} {x:Value},RelV w ρ (bad m ρ) v x→RelV w ρ (bad (Go.Proofs.YtomkbpoicjabfaaGreatDoor.lendX m d blk0) ρ) v x:=fun hr=>hr.mono (Nat.le_refl _) (fun _ _ _=>rfl) (fun _ _ h=>(lendX_bad hd).1 h) (fun _ _ h=>h)
  refine⟨by simp [Go.Proofs.YtomkbpoicjabfaaGreatDoor.lendX,Go.Proofs.YtomkbpoicjabfaaGreatDoor.lend,h.len],fun b st ty sz es hm=>?_,fun b b' blk blk' r r' h1 h2 h3 h4 h5 h6 h7=>?_,fun b st vs φ hm=>?_,h.glob.mono fun v x b3=>hV b3⟩
  · obtain⟨b0,g1,g2⟩:=lendX_get hd hm
    have:∃ st0,b0= .cells st0 ty sz es:=by
      rcases g2 with ⟨_,g2⟩|⟨_,g2⟩
      · exact⟨st,g2.symm⟩
      · exact lendB_cells g2.symm
    obtain⟨st0,rfl⟩:=this
    obtain⟨r,cur,k1,k2,k3,k4,k5,k6,k7,k8,k9⟩:=h.cells b st0 ty sz es g1
    refine⟨r,cur,k1,k2,k3,k4,k5,k6,k7,k8,fun i j e v a1 a2=>?_⟩
    obtain⟨b1,y,b2,b3⟩:=k9 i j e v a1 a2
    exact⟨b1,y,b2,hV b3⟩
  · obtain⟨b0,g1,g2⟩:=lendX_get hd h1
    obtain⟨b1,g3,g4⟩:=lendX_get hd h3
    refine h.inj b b' b0 b1 r r' g1 (fun e=>?_) g3 ?_ h5 h6 h7
    · subst e
      rcases g2 with ⟨_,g2⟩|⟨_,g2⟩<;>exact h2 g2
    · rcases g4 with ⟨_,rfl⟩|⟨_,rfl⟩
      · exact h4
      · exact(lendB_bad b1).symm.trans h4
  · obtain⟨b0,g1,g2⟩:=lendX_get hd hm
    have:∃ st0,b0= .obj st0 vs φ:=by
      rcases g2 with ⟨_,g2⟩|⟨_,g2⟩
      · exact⟨st,g2.symm⟩
      · exact lendB_obj g2.symm
    obtain⟨st0,rfl⟩:=this
    obtain⟨r,k1,k2⟩:=h.objs b st0 vs φ g1
    exact⟨r,k1,k2.mono (fun _=>rfl) fun v x b3=>hV b3⟩
theorem lendX_self{m:Mem}{d:Nat}{blk0:Blk}(hd:m[d]?=some blk0):(lendX m d blk0)[d]?=some blk0:=by
  unfold lendX
  rw [List.getElem?_set,if_pos rfl,if_pos (by simp [lend];exact(List.getElem?_eq_some_iff.1 hd).1)]
/-- a call that writes one block: all else lies as it lay -/
theorem fcall_after {w w1:World} {ρ ρ1:List Re} {m:Mem} {d:Nat} {blk0 blk':Blk} (hM:RelM w ρ m) (hd:m[d]?=some blk0) (h0:blk0.own=true) (af:After w ρ (lendX m d blk0) w1 ρ1 ((lendX m d blk0).set d blk')):
    ρ1=ρ∧After w ρ m w1 ρ (m.set d blk')∧∀ k,k<w.heap.size→(∀ r,ρ[d]?=some r→r.blk≠k)→w1.heap[k]?=w.heap[k]?:=by
  have hdl:d<m.length:=(List.getElem?_eq_some_iff.1 hd).1
  have hlen:(lendX m d blk0).length=m.length:=by simp [lendX,lend]
  have hρ:ρ1=ρ:=by
    have l1:=af.mem.len
    have l2:=hM.len
    rw [List.length_set,hlen] at l1
    apply List.ext_getElem?
    intro i
    rcases Nat.lt_or_ge i ρ.length with h|h
    · rw [List.getElem?_eq_getElem h];exact af.pre i _ (List.getElem?_eq_getElem h)
    · rw [List.getElem?_eq_none h,List.getElem?_eq_none (by omega)]
  subst hρ
  have hown:∀ k,owned (lendX m d blk0) ρ1 k→∃ r,ρ1[d]?=some r∧r.blk=k:=by
    rintro k ⟨b,blk,r,h1,h2,h3,h4⟩
    obtain⟨b0,g1,g2⟩:=lendX_get hd h1
    rcases g2 with ⟨rfl,rfl⟩|⟨_,rfl⟩
    · exact⟨r,h3,h4⟩
    · rw [lendB_own] at h2;cases h2
  have hsame:∀ k,k<w.heap.size→(∀ r,ρ1[d]?=some r→r.blk≠k)→w1.heap[k]?=w.heap[k]?:=fun k hk hn=>af.keep.block k hk fun ho=>by
    obtain⟨r,g1,g2⟩:=hown k ho
    exact hn r g1 g2
  have hX:∀ (b:Nat) blk,((lendX m d blk0).set d blk')[b]?=some blk→(b=d∧blk=blk')∨(b≠d∧∃ b0,m[b]?=some b0∧blk=lendB b0):=by
    intro b blk h
    rw [List.getElem?_set] at h
    split at h
    · rename_i e
      split at h
      · cases h;exact .inl ⟨e.symm,rfl⟩
      · cases h
    · rename_i e
      obtain⟨b0,g1,g2⟩:=lendX_get hd h
      rcases g2 with ⟨q,_⟩|⟨q,rfl⟩
      · exact(e q.symm).elim
      · exact .inr ⟨q,b0,g1,rfl⟩
  have hY:∀ (b:Nat) blk,(m.set d blk')[b]?=some blk→(b=d∧blk=blk')∨(b≠d∧m[b]?=some blk):=by
    intro b blk h
    by_cases e:d=b
    · subst e
      rw [List.getElem?_set,if_pos rfl,if_pos hdl] at h
      cases h;exact .inl ⟨rfl,rfl⟩
    · rw [List.getElem?_set,if_neg e] at h
      exact .inr ⟨fun q=>e q.symm,h⟩
  have hXd:((lendX m d blk0).set d blk')[d]?=some blk':=by rw [List.getElem?_set,if_pos rfl,if_pos (by omega)]
  have hXo:∀ (b:Nat) b0,b≠d→m[b]?=some b0→((lendX m d blk0).set d blk')[b]?=some (lendB b0):=by
    intro b b0 hne h
    rw [List.getElem?_set,if_neg (fun q=>hne q.symm)]
    unfold lendX
    rw [List.getElem?_set,if_neg (fun q=>hne q.symm)]
    simp [lend,h]
  have hbad:∀ k,bad (m.set d blk') ρ1 k→bad ((lendX m d blk0).set d blk') ρ1 k:=by
    rintro k ⟨b,blk,r,h1,h2,h3,h4⟩
    rcases hY b blk h1 with ⟨rfl,rfl⟩|⟨hne,g⟩
    · exact⟨_,_,r,hXd,h2,h3,h4⟩
    · exact⟨b,_,r,hXo b _ hne g,(lendB_bad _).trans h2,h3,h4⟩
  have hV0:∀ {v:V} {x:Value},RelV w ρ1 (bad m ρ1) v x→RelV w1 ρ1 (bad (m.set d blk') ρ1) v x:=fun hr=>by
    have h1:RelV w ρ1 (bad (lendX m d blk0) ρ1) _ _:=hr.mono (Nat.le_refl _) (fun _ _ _=>rfl) (fun _ _ h=>(lendX_bad hd).1 h) (fun _ _ h=>h)
    exact(af.rel h1).mono (Nat.le_refl _) (fun _ _ _=>rfl) (fun k _ h=>hbad k h) (fun _ _ h=>h)
  have hne':∀ (b:Nat) (blk:Blk) (r:Re),b≠d→m[b]?=some blk→blk≠ .dead→ρ1[b]?=some r→∀ r',ρ1[d]?=some r'→r'.blk≠r.blk:=by
    intro b blk r hne h1 h2 h3 r' h4 e
    exact hne (hM.inj b d _ _ r r' h1 h2 hd (Blk.bad_of_own h0) h3 h4 e.symm)
  have hmem:RelM w1 ρ1 (m.set d blk'):=by
    refine⟨by rw [List.length_set];exact hM.len,fun b st ty sz es h=>?_,fun b b' blk blk1 r r' h1 h2 h3 h4 h5 h6 h7=>?_,fun b st vs φ h=>?_,hM.glob.mono fun v x h=>hV0 h⟩
    · rcases hY b _ h with ⟨rfl,e⟩|⟨hne,g⟩
      · obtain⟨r,cur,k1,k2,k3,k4,k5,k6,k7,k8,k9⟩:=af.mem.cells b st ty sz es (by rw [e];exact hXd)
        refine⟨r,cur,k1,k2,k3,k4,k5,k6,k7,k8,fun i j e v a1 a2=>?_⟩
        obtain⟨b1,y,b2,b3⟩:=k9 i j e v a1 a2
        exact⟨b1,y,b2,b3.mono (Nat.le_refl _) (fun _ _ _=>rfl) (fun k _ h=>hbad k h) (fun _ _ h=>h)⟩
      · obtain⟨r,cur,k1,k2,k3,k4,k5,k6,k7,k8,k9⟩:=hM.cells b st ty sz es g
        refine⟨r,cur,k1,k2,k3,(hsame _ (heap_lt k4) (hne' b _ r hne g (by simp) k1)).trans k4,k5,k6,k7,k8,fun i j e v a1 a2=>?_⟩
        obtain⟨b1,y,b2,b3⟩:=k9 i j e v a1 a2
        exact⟨b1,y,b2,hV0 b3⟩
    · have conv:∀ (b:Nat) blk,(m.set d blk')[b]?=some blk→∃ blk2,((lendX m d blk0).set d blk')[b]?=some blk2∧(blk≠ .dead→blk2≠ .dead)∧blk2.bad=blk.bad:=by
        intro b blk h
        rcases hY b blk h with ⟨rfl,rfl⟩|⟨hne,g⟩
        · exact⟨_,hXd,fun h=>h,rfl⟩
        · refine⟨_,hXo b _ hne g,fun hn=>?_,lendB_bad _⟩
          cases blk with
          |cells st ty sz es=>cases st<;>simp [lendB]
          |obj st vs φ=>cases st<;>simp [lendB]
          |dead=>exact(hn rfl).elim
      obtain⟨c1,q1,q2,_⟩:=conv b blk h1
      obtain⟨c2,q3,_,q4⟩:=conv b' blk1 h3
      exact af.mem.inj b b' c1 c2 r r' q1 (q2 h2) q3 (q4.trans h4) h5 h6 h7
    · rcases hY b _ h with ⟨rfl,e⟩|⟨hne,g⟩
      · obtain⟨r,k1,k2⟩:=af.mem.objs b st vs φ (by rw [e];exact hXd)
        exact⟨r,k1,k2.mono (fun _=>rfl) fun v x h=>h.mono (Nat.le_refl _) (fun _ _ _=>rfl) (fun k _ h=>hbad k h) (fun _ _ h=>h)⟩
      · obtain⟨r,k1,k2⟩:=hM.objs b st vs φ g
        exact⟨r,k1,k2.mono (fun hlt=>hsame _ hlt (hne' b _ r hne g (by simp) k1)) fun v x h=>hV0 h⟩
  refine⟨rfl,⟨⟨af.keep.os,af.keep.tape,af.keep.output,af.keep.size,fun k hk hn=>hsame k hk fun r hr e=>hn ⟨d,blk0,r,hd,h0,hr,e⟩⟩,fun _ _ h=>h,hmem,fun k hk ho=>?_,fun k hk ho=>?_⟩,hsame⟩
  · obtain⟨b,blk,r,h1,h2,h3,h4⟩:=ho
    rcases hY b blk h1 with ⟨rfl,rfl⟩|⟨hne,g⟩
    · exact⟨b,blk0,r,hd,h0,h3,h4⟩
    · exact⟨b,blk,r,g,h2,h3,h4⟩
  · obtain⟨b,blk,r,h1,h2,h3,h4⟩:=ho
    rcases hY b blk h1 with ⟨rfl,rfl⟩|⟨hne,g⟩
    · exact⟨b,blk0,r,hd,Blk.bad_of_own h0,h3,h4⟩
    · exact⟨b,blk,r,g,h2,h3,h4⟩

theorem fcall_val{w'':World}{ρ:List Re}{m:Mem}{d:Nat}{blk0 blk':Blk}{v:V}{x:Value}(hd0:m[d]?=some blk0)(rv:RelV w'' ρ (bad ((lendX m d blk0).set d blk') ρ) v x):RelV w'' ρ (bad (m.set d blk') ρ) v x:=by
  refine rv.mono (Nat.le_refl _) (fun _ _ _=>rfl) (fun k _ h=>?_) (fun _ _ h=>h)
  obtain⟨b,blk,r,h1,h2,h3,h4⟩:=h
  have hdl:d<m.length:=(List.getElem?_eq_some_iff.1 hd0).1
  have hlx:(lendX m d blk0).length=m.length:=by simp [lendX,lend]
  by_cases e:d=b
  · subst e
    rw [List.getElem?_set,if_pos rfl,if_pos hdl] at h1
    cases h1
    exact⟨d,_,r,by rw [List.getElem?_set,if_pos rfl,if_pos (by omega)],h2,h3,h4⟩
  · rw [List.getElem?_set,if_neg e] at h1
    refine⟨b,lendB blk,r,?_,(lendB_bad blk).trans h2,h3,h4⟩
    rw [List.getElem?_set,if_neg e]
    unfold lendX
    rw [List.getElem?_set,if_neg e]
    simp [lend,h1]
/-- a call that hands over what it has made, and leaves alone what there was -/
theorem acall_after{w w1:World}{ρ ρ1:List Re}{m Y:Mem}{T:TypeId}{sz n:Nat}{es:List (List V)}{x:Value}(hM:RelM w ρ m)(hes:es.all detL=true)(af:After w ρ (lend m) w1 ρ1 (lend m++(Y++[.cells .own T sz es])))(rv:RelV w1 ρ1 (bad (lend m++(Y++[.cells .own T sz es])) ρ1) (.sl (m.length+Y.length) n) x):
    ∃ r:Re,Below w.heap.size w w1∧After w ρ m w1 (ρ++[r]) (m++[.cells .own T sz es])∧RelV w1 (ρ++[r]) (bad (m++[.cells .own T sz es]) (ρ++[r])) (.sl m.length n) x∧w.heap.size≤r.blk:=by
  have hno:∀ k,¬ owned (lend m) ρ k:=by
    rintro k ⟨b,blk,r,h1,h2,_,_⟩
    unfold lend at h1
    rw [List.getElem?_map,Option.map_eq_some_iff] at h1
    obtain⟨b0,_,rfl⟩:=h1
    rw [lendB_own] at h2
    cases h2
  have hb:Below w.heap.size w w1:=⟨af.keep.os,af.keep.tape,af.keep.output,af.keep.size,fun k hk=>af.keep.block k hk (hno k)⟩
  have hlm:(lend m).length=m.length:=by simp [lend]
  have hg:(lend m++(Y++[Blk.cells .own T sz es]))[m.length+Y.length]?=some (.cells .own T sz es):=by
    rw [List.getElem?_append_right (by rw [hlm];omega),hlm,Nat.add_sub_cancel_left,List.getElem?_append_right (Nat.le_refl _),Nat.sub_self]
    rfl
  obtain⟨r,cur,k1,k2,k3,k4,k5,k6,k7,k8,k9⟩:=af.mem.cells _ _ _ _ _ hg
  have hr:w.heap.size≤r.blk:=by
    refine Nat.le_of_not_lt fun hlt=>?_
    exact hno _ (af.own r.blk hlt ⟨_,_,r,hg,rfl,k1,rfl⟩)
  have hM2:=hM.push hb r.blk r.cap T sz es cur hr k3 k4 k5 k6 k7 k8 fun i j e v a1 a2=>by
    obtain⟨b1,y,b2,b3⟩:=k9 i j e v a1 a2
    have hde:=detL_mem (List.all_eq_true.1 hes e (List.mem_of_getElem? a1)) v (List.mem_of_getElem? a2)
    have:=det_eq (real_rel (w:=w) (ρ:=ρ1) (B:=bad m ρ) hde) hde b3
    subst this
    exact⟨b1,_,b2,real_rel hde⟩
  have af2:=After.of_push hM hb hr hM2
  have hre:(⟨r.blk,r.cap,sz⟩:Re)=r:=by rw [←k2]
  rw [hre] at af2
  refine⟨r,hb,af2,?_,hr⟩
  cases rv with
  | sl _ _ r' hr' hn hm'=>
    rw [k1] at hr'
    cases hr'
    exact .sl m.length n r (by rw [←hM.len];simp) hn hm'
/-- what has come within the region lies behind what there was when it began -/
def Behind(B:World)(D:Nat→Prop)(L:Nat)(ρ:List Re):Prop:=∀ (b:Nat) r,L≤b→ρ[b]?=some r→B.heap.size≤r.blk∨D r.blk

/-- what is known while operations of kind f are still to come -/
structure Fk(B:World)(D:Nat→Prop)(L:Lim)(w:World)(ρ:List Re)(m:Mem):Prop where
  keep:Keep D B w
  beh:Behind B D L.n ρ
  len:L.n≤m.length
  may:L.m.length≤m.length
  dd:∀ (d:Nat) r,mayW L d→ρ[d]?=some r→D r.blk
theorem mayW_lt{L:Lim}{d:Nat}(h:mayW L d):d<L.m.length:=by
  obtain⟨b0,h1,_⟩:=h
  exact(List.getElem?_eq_some_iff.1 h1).1
theorem Fk.later{B:World}{D:Nat→Prop}{L:Lim}{w w':World}{ρ ρ':List Re}{m m':Mem}(h:Fk B D L w ρ m)(hl:ρ.length=m.length)(hk:Keep D B w')(hb:Behind B D L.n ρ')(hm:m.length≤m'.length)(hp:∀ (b:Nat) r,ρ[b]?=some r→ρ'[b]?=some r):Fk B D L w' ρ' m':=by
  refine⟨hk,hb,Nat.le_trans h.len hm,Nat.le_trans h.may hm,fun d r h1 h2=>?_⟩
  have hd:d<ρ.length:=by have:=mayW_lt h1;have:=h.may;omega
  have h3:ρ[d]?=some ρ[d]:=List.getElem?_eq_getElem hd
  have:=hp d _ h3
  rw [h2] at this
  cases this
  exact h.dd d _ h1 h3
theorem Keep.ext{D:Nat→Prop}{B w w':World}(h:Keep D B w)(k:Ext w w'):Keep D B w':=h.trans (Keep.of_below (B:=fun _=>False) k) fun _ _ h=>h.elim

theorem WDop_sound {B : World} {D :Nat→Prop} {L:Lim} {w:World} {ρ:List Re} {m:Mem} {t:List (Nat×V)} {a:Act} {o:Oper} {k:Kd} {K:List (Nat×V)→Mem→Prop} (hR:Rel N z w ρ m t a) (hB:k= .q→w=B∧∀ k,D k→has (wrB L.ty) m ρ k) (hTy:L.ty=none→∀ k,¬ D k) {F:Prop} (hF:F→Fk B D L w ρ m) (hkf:k= .f→F) (hkw:k= .w→¬ F) (h:WDop P N L k t m o.op o.dst K) {K':Act→World→Prop}
    (hK:∀ t' m' a' w' ρ',K t' m'→Rel N z w' ρ' m' t' a'→After w ρ m w' ρ' m'→((k= .p∨k= .q)→w'=w∧ρ'=ρ∧m'=m)→(F→Fk B D L w' ρ' m')→K' a' w'):
    kPost P (Keep D B) o a w k K':=by
  obtain⟨hd,h⟩:=WDop_cases h
  rcases h with ⟨f,args,ts,g,fs,cs,ho,hf,h⟩|⟨p,v,m',he,hp,hk,hKK⟩|⟨rfl,hnd,hx⟩|⟨f,args,ts,l,ho,hf,rfl,hy⟩
  rotate_left 2
  rotate_left 1
  · intro w' hw
    have hR':=hR.later hw
    have hfr:=evO_rel hR.tm f hR.mem
    rw [hf] at hfr
    have hef:a.eval f= .func (.yield l) #[] #[]:=by
      generalize a.eval f=ef at hfr
      cases hfr with
      | clo _ _ _ f2 c2 hlf hlc hrf hrc=>
        have e1:f2= #[]:=by apply Array.eq_empty_of_size_eq_zero;simpa using hlf.symm
        have e2:c2= #[]:=by apply Array.eq_empty_of_size_eq_zero;simpa using hlc.symm
        subst e1 e2
        rfl
    have hargs:RelAs w' ρ m (args.toList.map (evO t)) (args.map a.eval):=by
      refine⟨by simp,fun i v x h1 h2=>?_⟩
      simp only [Array.getElem?_map,List.getElem?_map,Option.map_eq_some_iff,Array.getElem?_toList] at h1 h2
      obtain⟨o1,g1,rfl⟩:=h1
      obtain⟨o2,g2,rfl⟩:=h2
      rw [g1] at g2
      cases g2
      exact evO_rel hR'.tm _ hR'.mem
    obtain⟨fn,tmps,assign,body,hrun,_⟩:=hy Fence.wide Free.wide w' ρ _ hR'.mem hargs
    have hrun2:(execOp a.eval o).run P w'= .ok (.round l fn tmps assign body) w':=by
      simp only [execOp,ho,resolve,hef,Deferred.ofValue,invoke,Sem.run_bind,Sem.run_pure,Result.andThen_ok,Array.append_empty,Array.empty_append]
      exact hrun
    unfold stOp
    rw [hrun2]
    intro F hF
    obtain⟨fn2,tmps2,assign2,body2,hrun3,hc⟩:=hy F hF w' ρ _ hR'.mem hargs
    rw [hrun] at hrun3
    cases hrun3
    refine hc.mono ?_
    rintro e w'' ⟨v,mo,x,rfl,hKK,hh⟩
    rcases hh with ⟨rfl,hb,rv⟩|⟨m',ρ',rfl,af,rv⟩
    · have af:=(After.of_same hR.mem hw).trans (After.of_same (hR.mem.mono hw) hb)
      exact⟨x,rfl,hK _ _ _ _ _ hKK (hR.putv hd af rv) af (fun e=>by rcases e with e|e<;>cases e) (fun f=>(hkw rfl f).elim)⟩
    · have af:=(After.of_same hR.mem hw).trans af
      exact⟨x,rfl,hK _ _ _ _ _ hKK (hR.putv hd af rv) af (fun e=>by rcases e with e|e<;>cases e) (fun f=>(hkw rfl f).elim)⟩
  rotate_left 2
  · intro w' hw
    have hR':=hR.later hw
    obtain⟨nx,w1,v,m',ρ',h1,h2,af,h3⟩:=hx w' ρ a o rfl hR'.mem hR'.tm
    have afw:=(After.of_same hR.mem hw).trans af
    unfold stOp
    rw [h1]
    rcases h3 with ⟨x,rfl,rv⟩|⟨rfl,rfl⟩
    · exact hK _ _ _ _ _ h2 (hR.putv hd afw rv) afw (fun e=>by rcases e with e|e<;>cases e) (fun f=>(hkw rfl f).elim)
    · exact hK _ _ _ _ _ h2 (hR.putv hd afw (.any _)) afw (fun e=>by rcases e with e|e<;>cases e) (fun f=>(hkw rfl f).elim)
  · have st : ∀ {w':World} {xs:Array Value} {Z:Value→World→Prop},(execOp a.eval o).run P w'= .ok (.enter g xs) w'→Calls P g xs w' (fun e w''=>∃ x,e= .returned x∧Z x w'')→stOp P o a w' Z:=by
      intro w' xs Z h1 h2
      unfold stOp
      rw [h1]
      exact h2
    cases k with
    |p=>exact h.elim
    | f =>
      obtain⟨d,blk0,blk',v,hd0,hmay,h0,hW,hKK⟩:=h
      obtain⟨xs,hrun,hargs⟩:=call_args hR ho hf (hW (lendX m d blk0) (lendX_self hd0)).1
      intro w' hw hBw'
      have hR':=hR.later hw
      have hargs':RelAs w' ρ (lendX m d blk0) (fs++args.toList.map (evO t)++cs) xs:=⟨hargs.1,fun i v x h1 h2=>((hargs.later hR.mem hw).2 i v x h1 h2).mono (Nat.le_refl _) (fun _ _ _=>rfl) (fun _ _ h=>(lendX_bad hd0).1 h) (fun _ _ h=>h)⟩
      refine st (hrun w') (((hW (lendX m d blk0) (lendX_self hd0)).2 w' ρ xs (hR'.mem.lendX hd0) hargs').mono ?_)
      rintro e w'' ⟨v',mo,x,rfl,⟨rfl,rfl⟩,hh⟩
      rcases hh with ⟨e,_⟩|⟨m',ρ',e,af,rv⟩
      · cases e
      · cases e
        obtain⟨hρ,af',hsame⟩:=fcall_after hR'.mem hd0 h0 af
        subst hρ
        have fk:=hF (hkf rfl)
        have hkeep:Keep D B w'':=by
          refine⟨af'.keep.os.trans hBw'.os,af'.keep.tape.trans hBw'.tape,af'.keep.output.trans hBw'.output,Nat.le_trans hBw'.size af'.keep.size,fun k hk hn=>?_⟩
          rw [hsame k (Nat.lt_of_lt_of_le hk hBw'.size) fun r hr e=>hn (e ▸ fk.dd d r hmay hr)]
          exact hBw'.block k hk hn
        have rv':=fcall_val hd0 rv
        have afw:=(After.of_same hR.mem hw).trans af'
        exact⟨x,rfl,hkeep,hK _ _ _ _ _ hKK (hR.putv hd afw rv') afw (fun e=>by rcases e with e|e<;>cases e) (fun _=>fk.later hR.mem.len hkeep fk.beh (by simp) fun _ _ h=>h)⟩
    | q=>
      obtain⟨v0,hdet,hc,hKK⟩:=h
      obtain⟨xs,hrun,hargs⟩:=call_args hR ho hf hc.1
      obtain⟨hwB,hDw⟩:=hB rfl
      subst hwB
      refine⟨v0.real,fun w' hw=>st (hrun w') (((hc.2 w' ρ xs (hR.mem.kill hDw hw).1 ⟨hargs.1,fun i v x h1 h2=>(hR.mem.kill hDw hw).2 v x (hargs.2 i v x h1 h2)⟩)).mono ?_),hK _ _ _ _ _ hKK (hR.putv hd (After.refl hR.mem) (real_rel hdet)) (After.refl hR.mem) (fun _=>⟨rfl,rfl,rfl⟩) hF⟩
      rintro e w'' ⟨v,mo,x,rfl,⟨rfl,rfl⟩,hh⟩
      rcases hh with ⟨_,hb,rv⟩|⟨m',ρ',e,_⟩
      · exact⟨x,rfl,det_eq (real_rel (w:=w) (ρ:=ρ) (B:=bad m ρ) hdet) hdet rv,hb⟩
      · cases e
    | a =>
      rcases h with h|⟨n,T,sz,es,Y,hes,h,hKK⟩
      · obtain⟨xs,hrun,hargs⟩:=call_args hR ho hf h.1
        intro w' hw
        refine st (hrun w') ((h.2 w' ρ xs (hR.mem.mono hw) (hargs.later hR.mem hw)).mono ?_)
        rintro e w'' ⟨v,mo,x,rfl,⟨rfl,hKK⟩,hh⟩
        rcases hh with ⟨_,hb,rv⟩|⟨m',ρ',e,_⟩
        · have af:=(After.of_same hR.mem hw).trans (After.of_same (hR.mem.mono hw) hb)
          exact⟨x,rfl,hb,hK _ _ _ _ _ hKK (hR.putv hd af rv) af (fun e=>by rcases e with e|e<;>cases e) (fun f=>(hF f).later hR.mem.len (((hF f).keep.ext hw).ext hb) (hF f).beh (Nat.le_refl _) fun _ _ h=>h)⟩
        · cases e
      · obtain⟨xs,hrun,hargs⟩:=call_args hR ho hf h.1
        intro w' hw
        have hM':=hR.mem.mono hw
        have hargs2:=hargs.later hR.mem hw
        have hbl:∀ k,bad (lend m) ρ k→bad m ρ k:=by
          rintro k ⟨b,blk,r,h1,h2,h3,h4⟩
          unfold lend at h1
          rw [List.getElem?_map,Option.map_eq_some_iff] at h1
          obtain⟨b0,g1,rfl⟩:=h1
          exact⟨b,b0,r,g1,(lendB_bad b0).symm.trans h2,h3,h4⟩
        refine st (hrun w') ((h.2 w' ρ xs hM'.lend ⟨hargs2.1,fun i v x h1 h2=>(hargs2.2 i v x h1 h2).mono (Nat.le_refl _) (fun _ _ _=>rfl) (fun k _ h=>hbl k h) (fun _ _ h=>h)⟩).mono ?_)
        rintro e w'' ⟨v,mo,x,rfl,⟨rfl,rfl⟩,hh⟩
        rcases hh with ⟨e,_⟩|⟨m',ρ',e,af,rv⟩
        · cases e
        · cases e
          obtain⟨r,hb,af2,rv2,hr⟩:=acall_after hM' hes af rv
          have afw:=(After.of_same hR.mem hw).trans af2
          refine⟨x,rfl,hb,hK _ _ _ _ _ hKK (hR.putv hd afw rv2) afw (fun e=>by rcases e with e|e<;>cases e) (fun f=>(hF f).later hR.mem.len (((hF f).keep.ext hw).ext hb) (fun b q h1 h2=>?_) (by simp) fun _ _ h=>prefix_get h)⟩
          rcases Nat.lt_or_ge b ρ.length with hlt|hge
          · rw [List.getElem?_append_left hlt] at h2
            exact(hF f).beh b q h1 h2
          · rw [List.getElem?_append_right hge] at h2
            rcases hbm:b - ρ.length with _|k
            · rw [hbm] at h2
              cases h2
              exact .inl (Nat.le_trans ((hF f).keep.ext hw).size hr)
            · rw [hbm] at h2
              simp at h2
    | w =>
      obtain⟨xs,hrun,hargs⟩:=call_args hR ho hf h.1
      intro w' hw
      refine st (hrun w') ((h.2 w' ρ xs (hR.mem.mono hw) (hargs.later hR.mem hw)).mono ?_)
      rintro e w'' ⟨v,mo,x,rfl,hKK,hh⟩
      rcases hh with ⟨rfl,hb,rv⟩|⟨m',ρ',rfl,af,rv⟩
      · have af:=(After.of_same hR.mem hw).trans (After.of_same (hR.mem.mono hw) hb)
        exact⟨x,rfl,hK _ _ _ _ _ hKK (hR.putv hd af rv) af (fun e=>by rcases e with e|e<;>cases e) (fun f=>(hkw rfl f).elim)⟩
      · have af:=(After.of_same hR.mem hw).trans af
        exact⟨x,rfl,hK _ _ _ _ _ hKK (hR.putv hd af rv) af (fun e=>by rcases e with e|e<;>cases e) (fun f=>(hkw rfl f).elim)⟩
  · have gen : ∀ w', Ext w w' → ∃ n w1 ρ1 x,(execOp a.eval o).run P w'= .ok n w1∧After w' ρ m w1 ρ1 m'∧RelV w1 ρ1 (bad m' ρ1) v x∧(n= .value x∨(n= .skip∧x=undef))∧Gentle o.op w' ρ w1 ρ1:=by
      intro w' hw
      have hR':=hR.later hw
      obtain⟨n,w1,ρ1,h1,af,h2,hg⟩:=evA_sound hR'.mem hR'.tm he hp
      rcases h2 with ⟨x,rfl,rv⟩|⟨rfl,rfl⟩
      · exact⟨_,w1,ρ1,x,h1,af,rv,.inl rfl,hg⟩
      · exact⟨_,w1,ρ1,undef,h1,af,.any _,.inr ⟨rfl,rfl⟩,hg⟩
    have st:∀ {w':World} {n:Next} {w1:World} {x:Value} {Z:Value→World→Prop},(execOp a.eval o).run P w'= .ok n w1→(n= .value x∨(n= .skip∧x=undef))→Z x w1→stOp P o a w' Z:=by
      intro w' n w1 x Z h1 h2 hz
      unfold stOp
      rw [h1]
      rcases h2 with rfl|⟨rfl,rfl⟩
      · exact hz
      · exact hz
    have rdv:isRd o.op=true→isPure o.op=true→∃ x,(∀ w',stOp P o a w' fun y w''=>y=x∧w''=w')∧RelV w ρ (bad m' ρ) v x∧After w ρ m w ρ m':=by
      intro hrd hpu
      obtain⟨n,w1,ρ1,x,h1,af,rv,hn,hg⟩:=gen w (Below.refl _ _)
      obtain⟨rfl,rfl⟩:=hg.1 hpu
      refine⟨x,fun w'=>?_,rv,af⟩
      rcases rd_op hrd he a.eval with ⟨z,hz⟩|hz
      · have e1:=hz w1
        rw [h1] at e1
        cases e1
        exact st (hz w') hn ⟨rfl,rfl⟩
      · exact absurd h1 (hz _ _ _)
    have pur:∀ op,isRd op=true→isPure op=true:=by
      intro op h
      cases op<;>simp only [isRd] at h<;>first|rfl|(cases h;done)|skip
      all_goals simp_all [isPure]
    cases k with
    | p =>
      rcases hk with ⟨hrd,rfl⟩|⟨bo,T,y,z,T',k1,a1,k2,a2,hop,hy,hz,hdet,rfl⟩|⟨y,hop,rfl⟩
      rotate_left 2
      · have hr:=evO_rel hR.tm y hR.mem
        have hv:v=evO t y∧∃ ad,a.eval y= .pointer (some ad):=by
          rw [hop] at he
          simp only [evA,evOp] at he
          generalize a.eval y=ex at hr
          split at he
          · rename_i h1
            rw [h1] at hr ⊢
            simp only [okR,Option.some.injEq,Prod.mk.injEq] at he
            refine⟨he.2.1.symm,?_⟩
            cases hr;exact⟨_,rfl⟩
          · rename_i h1
            rw [h1] at hr ⊢
            simp only [okR,Option.some.injEq,Prod.mk.injEq] at he
            refine⟨he.2.1.symm,?_⟩
            cases hr;exact⟨_,rfl⟩
          · cases he
        obtain⟨rfl,ad,had⟩:=hv
        refine⟨a.eval y,fun w'=>?_,hK _ _ _ _ _ hKK (hR.putv hd (After.refl hR.mem) hr) (After.refl hR.mem) (fun _=>⟨rfl,rfl,rfl⟩) hF⟩
        unfold stOp
        simp only [execOp,hop,had]
        exact⟨rfl,rfl⟩
      · obtain⟨x,h1,rv,af⟩:=rdv hrd (pur _ hrd)
        exact⟨x,h1,hK _ _ _ _ _ hKK (hR.putv hd af rv) af (fun _=>⟨rfl,rfl,rfl⟩) hF⟩
      · have hev:evBin bo (.int k1 a1) (.int k2 a2)=some (p,v):=by
          rw [hop] at he
          have hn:evEq P bo T (.int k1 a1) (.int k2 a2)=none:=by cases bo<;>rfl
          simp only [evA,hy,hz,hn,evOp] at he
          split at he
          · rename_i q u hb
            rw [hb]
            simp only [Option.some.injEq,Prod.mk.injEq] at he
            rw [he.1,he.2.1]
          · cases he
        have ey:a.eval y= .int k1 a1:=by
          have:=evO_rel hR.tm y hR.mem
          rw [hy] at this
          generalize a.eval y=q at this
          cases this;rfl
        have ez:a.eval z= .int k2 a2:=by
          have:=evO_rel hR.tm z hR.mem
          rw [hz] at this
          generalize a.eval z=q at this
          cases this;rfl
        refine⟨v.real,fun w'=>?_,hK _ _ _ _ _ hKK (hR.putv hd (After.refl hR.mem) (real_rel hdet)) (After.refl hR.mem) (fun _=>⟨rfl,rfl,rfl⟩) hF⟩
        obtain⟨x,h1,h2⟩:=evBin_sound (P:=P) (w:=w') (ρ:=[]) (B:=fun _=>False) (T:=T) (o1:=y) (o2:=z) hev hp (.int k1 a1) (.int k2 a2)
        have hrun:(execOp a.eval o).run P w'= .ok (.value x) w':=by
          simp only [execOp,hop,ey,ez]
          exact run_v h1
        exact st hrun (.inl rfl) ⟨det_eq (real_rel (w:=w') (ρ:=[]) (B:=fun _=>False) hdet) hdet h2,rfl⟩
    | q =>
      obtain⟨hpu,rfl,hrd⟩:=hk
      obtain⟨hwB,hDw⟩:=hB rfl
      subst hwB
      obtain⟨n,w1,ρ1,x,h1,af,rv,hn,hg⟩:=gen w (Below.refl _ _)
      obtain⟨rfl,rfl⟩:=hg.1 hpu
      refine⟨x,fun w' hw=>?_,hK _ _ _ _ _ hKK (hR.putv hd af rv) af (fun _=>⟨rfl,rfl,rfl⟩) hF⟩
      rcases hrd with hrd|⟨hld,hl⟩|⟨hdet,hkill⟩
      · obtain⟨y,hy,_,_⟩:=rdv hrd hpu
        have hyx:y=x:=by
          have:=hy w1
          unfold stOp at this
          rw [h1] at this
          rcases hn with rfl|⟨rfl,rfl⟩
          · exact this.1.symm
          · exact this.1.symm
        subst hyx
        exact st_mono (hy w') fun z w'' ⟨e1,e2⟩=>⟨e1,by rw [e2];exact Below.refl _ _⟩
      · obtain⟨T,y,hop⟩:∃ T y,o.op= .load T y:=by
          cases hop:o.op<;>rw [hop] at hld<;>first|exact⟨_,_,rfl⟩|cases hld
        have he':evOp P t m' (.load T y)=some (p,v,m'):=by rw [hop] at he;exact he
        have hl':ldB L.ty m' (evO t y)=true:=by
          rcases hl with hl|⟨U,z,hz,hl⟩
          · rw [hl];exact ldB_none _ _
          · rw [hop] at hz;cases hz;exact hl
        obtain⟨z,hz⟩:=load_det hR.mem hR.tm hop he' hDw hl'
        have hzx:z=x:=by
          have:=hz w1 (Keep.refl _ _)
          rw [h1] at this
          cases this
          rcases hn with e|⟨e,_⟩<;>cases e
          rfl
        subst hzx
        exact st (hz w' hw) (.inl rfl) ⟨rfl,Below.refl _ _⟩
      · have hkl:∃ p,evA P t (killM L.ty m') o.op=some (p,v,killM L.ty m')∧p:=by
          rcases hkill with hkill|hkill
          · rw [hkill];exact⟨p,he,hp⟩
          · exact hkill
        obtain⟨p2,he2,hp2⟩:=hkl
        obtain⟨hM2,hV2⟩:=hR.mem.kill hDw hw
        obtain⟨n',w2,ρ2,g1,g2,g3,g4⟩:=evA_sound hM2 (fun i=>hV2 _ _ (hR.tm i)) he2 hp2
        obtain⟨rfl,rfl⟩:=g4.1 hpu
        rcases g3 with ⟨y,rfl,rv'⟩|⟨rfl,hv⟩
        · exact st g1 (.inl rfl) ⟨det_eq rv hdet rv',Below.refl _ _⟩
        · rw [hv] at hdet;simp [V.det] at hdet
    | a =>
      intro w' hw
      obtain⟨n,w1,ρ1,x,h1,af,rv,hn,hg⟩:=gen w' hw
      have af':=(After.of_same hR.mem hw).trans af
      have hext:Ext w' w1:=by
        rcases hk with hk|hk
        · obtain⟨rfl,_⟩:=hg.1 hk
          exact Below.refl _ _
        · exact hg.2 hk
      refine st h1 hn ⟨hext,hK _ _ _ _ _ hKK (hR.putv hd af' rv) af' (fun e=>by rcases e with e|e<;>cases e) ?_⟩
      intro f
      have fk:=hF f
      have hI':=fk.beh
      have hL:=fk.len
      have hB':=fk.keep.ext hw
      refine fk.later hR.mem.len (hB'.ext hext) ?_ ?_ af'.pre
      · rcases hk with hk|hk
        · obtain⟨_,rfl⟩:=hg.1 hk
          exact hI'
        · obtain⟨T,sz,es,rfl⟩:=fresh_shape hk he
          intro b r hb hr
          rcases Nat.lt_or_ge b m.length with q|q
          · have hlt:b<ρ.length:=by rw [hR.mem.len];exact q
            have h3:ρ[b]?=some ρ[b]:=List.getElem?_eq_getElem hlt
            have:=af.pre b _ h3
            rw [hr] at this
            cases this
            exact hI' b _ hb h3
          · have hlt:b<ρ1.length:=(List.getElem?_eq_some_iff.1 hr).1
            rw [af.mem.len] at hlt
            simp at hlt
            have:b=m.length:=by omega
            subst this
            exact .inl (Nat.le_trans hB'.size (new_behind (hR.mem.mono hw) af hr))
      · rcases hk with hk|hk
        · have hl1:=af.mem.len
          obtain⟨_,rfl⟩:=hg.1 hk
          rw [hR.mem.len] at hl1
          omega
        · obtain⟨T,sz,es,rfl⟩:=fresh_shape hk he
          simp
    | f =>
      intro w' hw hBw'
      obtain⟨n,w1,ρ1,x,h1,af,rv,hn,hg⟩:=gen w' hw
      have af':=(After.of_same hR.mem hw).trans af
      have fk:=hF (hkf rfl)
      have hI':=fk.beh
      have hL:=fk.len
      rcases hk with hk|⟨T,y,z,b,i,q,ho,hb,hLb⟩|⟨T,s,y,b,i,ho,hbn⟩
      · have hl1:=af.mem.len
        obtain⟨rfl,rfl⟩:=hg.1 hk
        refine st h1 hn ⟨hBw',hK _ _ _ _ _ hKK (hR.putv hd af' rv) af' (fun e=>by rcases e with e|e<;>cases e) (fun _=>fk.later hR.mem.len hBw' hI' ?_ fun _ _ h=>h)⟩
        rw [hR.mem.len] at hl1
        omega
      · have hR':=hR.later hw
        have he':evOp P t m (.store T y z)=some (p,v,m'):=by rw [ho] at he;exact he
        obtain⟨w2,r,g1,g2,g3,g4⟩:=store_frame (P:=P) hR'.mem hR'.tm ho he' hb
        rw [g1] at h1
        cases h1
        have hbel:Keep D B w1:=by
          refine⟨?_,?_,?_,?_,fun k hk hn=>?_⟩
          · exact af.keep.os.trans hBw'.os
          · exact af.keep.tape.trans hBw'.tape
          · exact af.keep.output.trans hBw'.output
          · rw [g3];exact hBw'.size
          · have := hLb.elim (fun h=>hI' b r h g2) (fun h=> .inr (fk.dd b r h g2))
            rw [g4 k (fun e => by rcases this with q|q
                                  · omega
                                  · exact hn (e ▸ q))]
            exact hBw'.block k hk hn
        have hlen:m'.length=m.length:=by
          simp only [evOp] at he'
          split at he'
          · split at he'
            · split at he'
              · split at he'
                · cases he';simp
                · cases he'
              · cases he'
            · cases he'
          · cases he'
        have hpre:Behind B D L.n ρ1:=by
          intro b' r' hb' hr'
          have hlt:b'<ρ.length:=by
            have:=(List.getElem?_eq_some_iff.1 hr').1
            rw [af.mem.len,hlen] at this
            rw [hR.mem.len];exact this
          have h3:ρ[b']?=some ρ[b']:=List.getElem?_eq_getElem hlt
          have:=af.pre b' _ h3
          rw [hr'] at this
          cases this
          exact hI' b' _ hb' h3
        exact st g1 hn ⟨hbel,hK _ _ _ _ _ hKK (hR.putv hd af' rv) af' (fun e=>by rcases e with e|e<;>cases e) (fun _=>fk.later hR.mem.len hbel hpre (by omega) af'.pre)⟩
      · have hR':=hR.later hw
        have he':evAppend P t m T s y=some (p,v,m'):=by
          have e:evA P t m (.call ⟨.builtin .append,⟨[s,y]⟩,⟨[T,T]⟩⟩)=if T=T then evAppend P t m T s y else none:=rfl
          rw [ho,e,if_pos rfl] at he
          exact he
        obtain⟨x,w1,ρ1,g1,af,rv,fr,fn⟩:=append_frame hR'.mem hR'.tm ho he' hp
        have af':=(After.of_same hR.mem hw).trans af
        have hcore:(∀ r',ρ1[m.length]?=some r'→B.heap.size≤r'.blk∨D r'.blk)∧∀ k,k<B.heap.size→¬ D k→w1.heap[k]?=w'.heap[k]?:=by
          rcases hbn with hbn|⟨hb,hLb⟩
          · obtain⟨g3,g4⟩:=fn hbn
            exact⟨fun r' hr'=> .inl (Nat.le_trans hBw'.size (g3 r' hr')),fun k hk hn=>g4 k (Nat.lt_of_lt_of_le hk hBw'.size)⟩
          · obtain⟨r,g2,g3,g4⟩:=fr b i hb
            have hrb:B.heap.size≤r.blk∨D r.blk:=by
              rcases hLb with hLb|hLb
              · exact hI' b r hLb g2
              · exact .inr (fk.dd b r hLb g2)
            refine⟨fun r' hr'=>?_,fun k hk hn=>g4 k (Nat.lt_of_lt_of_le hk hBw'.size) fun e=>?_⟩
            · rcases g3 r' hr' with q|q
              · rw [q];exact hrb
              · exact .inl (Nat.le_trans hBw'.size q)
            · rcases hrb with q|q
              · omega
              · exact hn (e ▸ q)
        have hbel:Keep D B w1:=by
          refine⟨af.keep.os.trans hBw'.os,af.keep.tape.trans hBw'.tape,af.keep.output.trans hBw'.output,Nat.le_trans hBw'.size af.keep.size,fun k hk hn=>?_⟩
          rw [hcore.2 k hk hn]
          exact hBw'.block k hk hn
        have hlen :m.length≤m'.length∧m'.length≤m.length+1:=by
          unfold evAppend at he'
          rcases hbn with hb|⟨hb,_⟩<;>rw [hb] at he'
          · split at he'
            · split at he'
              · simp only at he'
                split at he'
                · simp only [okR,Option.some.injEq,Prod.mk.injEq] at he'
                  rw [←he'.2.2];omega
                · cases he';simp
              · cases he'
            · cases he'
          · split at he'
            · split at he'
              · simp only at he'
                split at he'
                · split at he'
                  · cases he';simp
                  · cases he'
                · cases he'
              · cases he'
            · cases he'
        have hpre:Behind B D L.n ρ1:=by
          intro b' r' hb' hr'
          have hlt:b'<m.length+1:=by
            have:=(List.getElem?_eq_some_iff.1 hr').1
            rw [af.mem.len] at this
            omega
          rcases Nat.lt_or_ge b' m.length with q|q
          · have h3:ρ[b']?=some (ρ[b']'(by rw [hR.mem.len];exact q)):=List.getElem?_eq_getElem _
            have:=af.pre b' _ h3
            rw [hr'] at this
            cases this
            exact hI' b' _ hb' h3
          · have e:b'=m.length:=by omega
            subst e
            exact hcore.1 r' hr'
        exact st g1 (.inl rfl) ⟨hbel,hK _ _ _ _ _ hKK (hR.putv hd af' rv) af' (fun e=>by rcases e with e|e<;>cases e) (fun _=>fk.later hR.mem.len hbel hpre (by omega) af'.pre)⟩
    | w=>
      intro w' hw
      obtain⟨n,w1,ρ1,x,h1,af,rv,hn,hg⟩:=gen w' hw
      have af':=(After.of_same hR.mem hw).trans af
      exact st h1 hn (hK _ _ _ _ _ hKK (hR.putv hd af' rv) af' (fun e=>by rcases e with e|e<;>cases e) (fun f=>(hkw rfl f).elim))

theorem maker_run{w:World}{ρ:List Re}{m:Mem}{t:List (Nat×V)}{a:Act}{o:Oper}{v:TV}{blk:Blk}{p:Prop}(hR:Rel N z w ρ m t a)(h1:Maker o.op v blk)(h2:MakerEv P t o.op v blk p)(hp:p):
    ∃ w1 ρ1 x,(execOp a.eval o).run P w= .ok (.value x) w1∧After w ρ m w1 ρ1 (m++[blk])∧RelV w1 ρ1 (bad (m++[blk]) ρ1) (v.inst fun _=>m.length) x∧Ext w w1:=by
  obtain⟨n,w1,ρ1,g1,af,g2,hg⟩:=evA_sound hR.mem hR.tm (h2 m) hp
  rcases g2 with ⟨x,rfl,rv⟩|⟨rfl,hv⟩
  · exact⟨w1,ρ1,x,g1,af,rv,hg.2 h1.1⟩
  · exfalso
    rcases h1.2.2 with ⟨n,rfl⟩|⟨q,z,rfl⟩<;>cases hv
theorem rel_inst{w:World}{ρ:List Re}{Bd:Nat→Prop}{v:TV}{x:Value}{f g:Nat→Nat}{ρ':List Re}{Bd':Nat→Prop}(hv:(∃ n,v= .sl 0 n)∨∃ a o,v= .ptr 0 a o)(h:RelV w ρ Bd (v.inst f) x)(hr:∀ r,ρ[f 0]?=some r→ρ'[g 0]?=some r):RelV w ρ' Bd' (v.inst g) x:=by
  rcases hv with ⟨n,rfl⟩|⟨a,o,rfl⟩
  · simp only [TV.inst] at h ⊢
    cases h with|sl _ _ r h1 h2 h3=>exact .sl _ _ r (hr r h1) h2 h3
  · simp only [TV.inst] at h ⊢
    cases h with|ptr _ _ _ r h1=>exact .ptr _ _ _ r (hr r h1)

def putsOf(ops:Array Oper)(xv:Nat→Value)(D:List Nat)(a:Act):Act:=D.foldl (fun a n=>a.put (dstOf ops n) (xv n)) a
theorem putsOf_snoc(ops:Array Oper)(xv:Nat→Value)(D:List Nat)(n:Nat)(a:Act):putsOf ops xv (D++[n]) a=(putsOf ops xv D a).put (dstOf ops n) (xv n):=by simp [putsOf]
theorem putsOf_congr{ops:Array Oper}{xv xv':Nat→Value}:∀ {D:List Nat} {a:Act},(∀ n∈D,xv n=xv' n)→putsOf ops xv D a=putsOf ops xv' D a
  |[],_,_=>rfl
  | n::D,a,h=>by
    show putsOf ops xv D (a.put _ (xv n))=putsOf ops xv' D (a.put _ (xv' n))
    rw [h n List.mem_cons_self]
    exact putsOf_congr fun k hk=>h k (List.mem_cons_of_mem _ hk)
theorem putsOf_put{ops:Array Oper}{xv:Nat→Value}{d:Option Nat}{x:Value}:∀ {D:List Nat} {a:Act},(∀ n∈D,∀ k,dstOf ops n=some k→d≠some k)→putsOf ops xv D (a.put d x)=(putsOf ops xv D a).put d x
  |[],_,_=>rfl
  | n::D,a,h=>by
    show putsOf ops xv D ((a.put d x).put _ (xv n))=(putsOf ops xv D (a.put _ (xv n))).put d x
    rw [Act.put_comm a x (xv n) (fun k e e'=>h n List.mem_cons_self k e' e)]
    exact putsOf_put fun k hk=>h k (List.mem_cons_of_mem _ hk)
theorem execOp_puts{ops:Array Oper}{xv:Nat→Value}{o:Oper}(hsel:∀ cs b,o.op≠ .select cs b):∀ {D:List Nat} {a:Act},(∀ n∈D,∀ d,dstOf ops n=some d→d ∉ o.looksAt ops)→execOp (putsOf ops xv D a).eval o=execOp a.eval o
  |[],_,_=>rfl
  | n::D,a,h=>by
    show execOp (putsOf ops xv D (a.put _ (xv n))).eval o=_
    rw [execOp_puts hsel (fun k hk=>h k (List.mem_cons_of_mem _ hk))]
    exact execOp_put o hsel a _ _ (h n List.mem_cons_self)

theorem call_run{w:World}{ρ:List Re}{m:Mem}{t:List (Nat×V)}{a:Act}{o:Oper}{f:Operand}{args:Array Operand}{ts:Array TypeId}{g:FuncId}{fs cc:List V}{v:V}(hR:Rel N z w ρ m t a)(ho:o.op= .call ⟨.value f,args,ts⟩)(hf:evO t f= .clo (.func g) fs cc)
    (hc:Gives P g (fs++args.toList.map (evO t)++cc) m v):stOp P o a w fun x w'=>Ext w w'∧RelV w' ρ (bad m ρ) v x:=by
  obtain⟨xs,hrun,hargs⟩:=call_args hR ho hf hc.1
  unfold stOp
  rw [hrun w]
  refine(hc.2 w ρ xs hR.mem hargs).mono ?_
  rintro e w'' ⟨v',mo,x,rfl,⟨rfl,rfl⟩,hh⟩
  rcases hh with ⟨_,hb,rv⟩|⟨m',ρ',e,_⟩
  · exact⟨x,rfl,hb,rv⟩
  · cases e

theorem maker_own{ops:Array Oper}{t:List (Nat×V)}{n:Nat}{v:TV}{blk:Blk}(h:MkOk P N ops t n v blk):∃ T sz es,blk= .cells .own T sz es:=by
  obtain⟨o,p,_,_,h1,h2,_⟩:=h
  obtain⟨T,sz,es,h⟩:=fresh_shape h1.1 (h2 [])
  exact⟨T,sz,es,by simpa using h⟩

theorem set_app{m X:Mem}{d:Nat}{b:Blk}(h:d<m.length):(m++X).set d b=m.set d b++X:=by
  rw [List.set_append_left _ _ h]
/-- a group, in whichever order it comes -/
theorem grp_sound {ops:Array Oper} {kd:Nat→Kd} {rest:List Nat} {B:World} {Dd:Nat→Prop} {L:Lim} {F:Prop} {w0:World} {ρ0:List Re} {m:Mem} {t0:List (Nat×V)} {a0:Act} (hsel:Region.noSelect ops=true) {cs0 ns0:List Nat} (hg:GrpOk ops kd true cs0 ns0 rest) (hFc:(∃ c∈cs0,kd c= .f)→F) {tv:Nat→TV} {bl:Nat→Blk} (hmk:∀ n∈ns0,MkOk P N ops t0 n (tv n) (bl n))
    {tf:List (Nat×V)} {mf:Mem} {K:Act→World→Prop}
    (hfin:∀ (w:World) (ρ:List Re) (a:Act) (xv:Nat→Value) (D:List Nat),Rel N z w ρ (mf++D.map bl) tf a→After w0 ρ0 m w ρ (mf++D.map bl)→(F→Fk B Dd L w ρ (mf++D.map bl))→D.Nodup→(∀ n,n∈D↔n∈ns0)→(∀ (k n:Nat),D[k]?=some n→RelV w ρ (bad (mf++D.map bl) ρ) ((tv n).inst fun _=>m.length+k) (xv n))→
      K (putsOf ops xv D a) w):
    ∀ (f:Nat) (cs ns D:List Nat) (vs:List V) (w:World) (ρ:List Re) (tc:List (Nat×V)) (mc:Mem) (ac:Act) (xv:Nat→Value),cs.length+ns.length=f→mc.length=m.length→(∀ c∈cs,c∈cs0)→(∀ n,n∈ns↔n∈ns0∧n ∉ D)→(∀ n∈D,n∈ns0)→D.Nodup→ns.Nodup→callsT ops cs vs tc=tf→CallsOk P N ops kd L cs vs tc mc mf→
      Rel N z w ρ (mc++D.map bl) tc ac→Rel N z w ρ (mc++D.map bl) t0 a0→After w0 ρ0 m w ρ (mc++D.map bl)→(F→Fk B Dd L w ρ (mc++D.map bl))→(∀ n∈ns0,∀ o,ops[n]?=some o→execOp ac.eval o=execOp a0.eval o)→
      (∀ (k n:Nat),D[k]?=some n→RelV w ρ (bad (mc++D.map bl) ρ) ((tv n).inst fun _=>m.length+k) (xv n))→
      grpL P ops kd (Keep Dd B) K f cs ns (putsOf ops xv D ac) w
  | 0,cs,ns,D,vs,w,ρ,tc,mc,ac,xv,hf,hml,hcs,hns,hD,hnd,hnn,htf,hco,hR,hR0,haf,hfk,hex,hxv=>by
    have h1:cs=[]:=List.eq_nil_of_length_eq_zero (by omega)
    have h2:ns=[]:=List.eq_nil_of_length_eq_zero (by omega)
    subst h1;subst h2
    obtain⟨_,hmf⟩:=hco
    subst hmf
    refine⟨rfl,rfl,hfin w ρ ac xv D ?_ haf hfk hnd (fun n=>⟨hD n,fun h=>?_⟩) hxv⟩
    · have:tc=tf:=by
        cases vs<;>exact htf
      rw [←this];exact hR
    · by_cases hd:n∈D
      · exact hd
      · exact absurd ((hns n).2 ⟨h,hd⟩) (by simp)
  | f + 1,cs,ns,D,vs,w,ρ,tc,mc,ac,xv,hf,hml,hcs,hns,hD,hnd,hnn,htf,hco,hR,hR0,haf,hfk,hex,hxv=>by
    have hsel':=Region.noSelect_spec hsel
    have apart_of:∀ {n i:Nat} {on oi:Oper},ops[n]?=some on→ops[i]?=some oi→apartB ops n i=true→on.apart ops oi=true:=by
      intro n i on oi h1 h2 h3
      unfold apartB at h3
      rw [h1,h2] at h3
      exact h3
    have dst_of:∀ {n:Nat} {o:Oper},ops[n]?=some o→dstOf ops n=o.dst:=fun h=>by unfold dstOf;rw [h];rfl
    have laterD:∀ {w':World},Ext w w'→Rel N z w' ρ (mc++D.map bl) tc ac∧Rel N z w' ρ (mc++D.map bl) t0 a0∧After w0 ρ0 m w' ρ (mc++D.map bl)∧(∀ (k n:Nat),D[k]?=some n→RelV w' ρ (bad (mc++D.map bl) ρ) ((tv n).inst fun _=>m.length+k) (xv n)):=fun h=>
      ⟨hR.later h,hR0.later h,haf.trans (After.of_same hR.mem h),fun k n hk=>(After.of_same hR.mem h).rel (hxv k n hk)⟩
    constructor
    · intro c cs' hc _
      subst hc
      obtain⟨v,vs',m1,rfl,⟨o,ho,hd,hs⟩,hco'⟩:=hco
      have hm1:m1.length=mc.length:=by
        rcases hs with ⟨_,h,_⟩|⟨_,h,_⟩|⟨_,_,_,_,_,_,_,_,_,_,_,_,_,_,_,_,h⟩
        · rw [h]
        · rw [h]
        · rw [h,List.length_set]
      refine⟨o,ho,fun w' hw' hSw'=>?_⟩
      obtain⟨q1,q2,q3,q4⟩:=laterD hw'
      have hcm:c∈cs0++ns0:=List.mem_append_left _ (hcs c List.mem_cons_self)
      have hne:∀ n∈ns0,n≠c:=by
        intro n hn e
        subst e
        have:=hg.nd
        rw [List.nodup_append] at this
        exact this.2.2 n (hcs n List.mem_cons_self) n hn rfl
      have hap:∀ n∈ns0,∀ on,ops[n]?=some on→on.apart ops o=true∧o.apart ops on=true:=fun n hn on hon=>by
        obtain⟨a1,a2⟩:=hg.ap rfl n hn c hcm (hne n hn)
        exact⟨apart_of hon ho a1,apart_of ho hon a2⟩
      have hDl:∀ n∈D,∀ d,dstOf ops n=some d→d ∉ o.looksAt ops∧o.dst≠some d:=by
        intro n hn d hdd
        obtain⟨on,p,hon,_⟩:=hmk n (hD n hn)
        rw [dst_of hon] at hdd
        obtain⟨p1,p2,p3⟩:=Oper.apart_spec (hap n (hD n hn) on hon).1
        exact⟨p1 d hdd,p2 d hdd⟩
      have hexc:execOp (putsOf ops xv D ac).eval o=execOp ac.eval o:=execOp_puts (fun cs b=>hsel' c o cs b ho) fun n hn d hdd=>(hDl n hn d hdd).1
      have hput:∀ x,(putsOf ops xv D ac).put o.dst x=putsOf ops xv D (ac.put o.dst x):=fun x=>(putsOf_put fun n hn d hdd=>(hDl n hn d hdd).2).symm
      rw [dst_of ho] at hco'
      have hstep:stOp P o ac w' fun x w''=>(if kd c= .f then Keep Dd B w'' else Ext w' w'')∧After w' ρ (mc++D.map bl) w'' ρ (m1++D.map bl)∧RelV w'' ρ (bad (m1++D.map bl) ρ) v x∧(F→Fk B Dd L w'' ρ (m1++D.map bl)):=by
        have fk':∀ {w'':World} {mm:Mem},mm.length=mc.length→Ext w' w''→F→Fk B Dd L w'' ρ (mm++D.map bl):=fun hmm hx hF=>(hfk hF).later hR.mem.len (((hfk hF).keep.ext hw').ext hx) (hfk hF).beh (by simp [hmm]) fun _ _ h=>h
        rcases hs with ⟨hka,rfl,fo,args,ts,g,fs,cc,hop,hfo,hgv⟩|⟨hka,rfl,hpu,p,hp,hev⟩|⟨hka,fo,args,ts,g,fs,cc,d,blk0,blk',hop,hfo,hd0,hmay,h0,hW,rfl⟩
        · refine st_mono (call_run q1 hop hfo (hgv _)) fun x w'' ⟨e1,rv⟩=>⟨by rw [hka,if_neg (by decide)];exact e1,After.of_same q1.mem e1,rv,fk' rfl e1⟩
        · obtain⟨n,w1,ρ1,g1,af,g2,hge⟩:=evA_sound q1.mem q1.tm (hev _) hp
          obtain⟨rfl,rfl⟩:=hge.1 hpu
          unfold stOp
          rw [g1]
          rcases g2 with ⟨x,rfl,rv⟩|⟨rfl,rfl⟩
          · exact⟨by rw [hka,if_neg (by decide)];exact Below.refl _ _,af,rv,fk' rfl (Below.refl _ _)⟩
          · exact⟨by rw [hka,if_neg (by decide)];exact Below.refl _ _,af,.any _,fk' rfl (Below.refl _ _)⟩
        · have hF:F:=hFc ⟨c,hcs c List.mem_cons_self,hka⟩
          have fk:=hfk hF
          have hBw':=hSw' hka
          have hdl:d<mc.length:=(List.getElem?_eq_some_iff.1 hd0).1
          have hd0':(mc++D.map bl)[d]?=some blk0:=pre_get hd0
          have hWM:=hW (lendX (mc++D.map bl) d blk0) (lendX_self hd0')
          obtain⟨xs,hrun,hargs⟩:=call_args q1 hop hfo hWM.1
          have hargs':RelAs w' ρ (lendX (mc++D.map bl) d blk0) (fs++args.toList.map (evO tc)++cc) xs:=⟨hargs.1,fun i v x h1 h2=>(hargs.2 i v x h1 h2).mono (Nat.le_refl _) (fun _ _ _=>rfl) (fun _ _ h=>(lendX_bad hd0').1 h) (fun _ _ h=>h)⟩
          unfold stOp
          rw [hrun w']
          refine(hWM.2 w' ρ xs (q1.mem.lendX hd0') hargs').mono ?_
          rintro e w'' ⟨v',mo,x,rfl,⟨rfl,rfl⟩,hh⟩
          rcases hh with ⟨e,_⟩|⟨m',ρ',e,af,rv⟩
          · cases e
          · cases e
            obtain⟨hρ,af',hsame⟩:=fcall_after q1.mem hd0' h0 af
            subst hρ
            have hkeep:Keep Dd B w'':=by
              refine⟨af'.keep.os.trans hBw'.os,af'.keep.tape.trans hBw'.tape,af'.keep.output.trans hBw'.output,Nat.le_trans hBw'.size af'.keep.size,fun k hk hn=>?_⟩
              rw [hsame k (Nat.lt_of_lt_of_le hk hBw'.size) fun r hr e=>hn (e ▸ fk.dd d r hmay hr)]
              exact hBw'.block k hk hn
            have rv':=fcall_val hd0' rv
            rw [set_app hdl] at af' rv'
            exact⟨x,rfl,by rw [hka,if_pos rfl];exact hkeep,af',rv',fun _=>fk.later hR.mem.len hkeep fk.beh (by simp) fun _ _ h=>h⟩
      refine st_mono (st_congr hexc hstep) fun x w'' ⟨e1,af,rv,fk2⟩=>⟨e1,?_⟩
      rw [hput]
      have relAll:∀ {t:List (Nat×V)} {a:Act},Rel N z w' ρ (mc++D.map bl) t a→Rel N z w'' ρ (m1++D.map bl) t a:=fun h=>⟨af.mem,h.tm.after af,h.size,h.defers.after af⟩
      have hRc:=q1.putv hd af rv
      refine grp_sound hsel hg hFc hmk hfin f cs' ns D vs' w'' ρ _ m1 (ac.put o.dst x) xv (by simp at hf;omega) (by omega) (fun c hc=>hcs c (List.mem_cons_of_mem _ hc)) hns hD hnd hnn ?_ hco' hRc (relAll q2) (q3.trans af) fk2 ?_ (fun k n hk=>af.rel (q4 k n hk))
      · have:=htf
        simp only [callsT,dst_of ho] at this
        exact this
      · intro n hn on hon
        rw [execOp_put on (fun cs b=>hsel' n on cs b hon) ac o.dst x]
        · exact hex n hn on hon
        · exact(Oper.apart_spec (hap n hn on hon).2).1
    · intro n hn
      obtain⟨hn0,hnD⟩:=(hns n).1 hn
      obtain⟨o,p,ho,hd,hm1,hm2,hp⟩:=hmk n hn0
      refine⟨o,ho,fun w' hw'=>?_⟩
      obtain⟨q1,q2,q3,q4⟩:=laterD hw'
      have hap:∀ k∈D,∀ ok,ops[k]?=some ok→ok.apart ops o=true:=fun k hk ok hok=>by
        have hne:k≠n:=fun e=>hnD (e ▸ hk)
        exact apart_of hok ho (hg.ap rfl k (hD k hk) n (List.mem_append_right _ hn0) hne).1
      have hexc:execOp (putsOf ops xv D ac).eval o=execOp a0.eval o:=by
        rw [execOp_puts (fun cs b=>hsel' n o cs b ho),hex n hn0 o ho]
        intro k hk d hdd
        obtain⟨ok,pk,hok,_⟩:=hmk k (hD k hk)
        rw [dst_of hok] at hdd
        exact(Oper.apart_spec (hap k hk ok hok)).1 d hdd
      obtain⟨w1,ρ1,x,r1,af1,rv1,x1⟩:=maker_run q2 hm1 hm2 hp
      have hst:stOp P o a0 w' fun y w''=>y=x∧w''=w1:=by
        unfold stOp
        rw [r1]
        exact⟨rfl,rfl⟩
      refine st_mono (st_congr hexc hst) ?_
      rintro y w'' ⟨hyx,hww⟩
      rw [hyx,hww]
      clear hyx hww y w''
      have ha:(mc++D.map bl)++[bl n]=mc++(D++[n]).map bl:=by simp
      rw [ha] at af1 rv1
      refine⟨x1,?_⟩
      let xv':Nat→Value:=fun k=>if k=n then x else xv k
      have hxvD:∀ k∈D,xv k=xv' k:=fun k hk=>by
        have:¬ k=n:=fun e=>hnD (e ▸ hk)
        simp [xv',this]
      have hput:(putsOf ops xv D ac).put o.dst x=putsOf ops xv' (D++[n]) ac:=by
        rw [putsOf_snoc,putsOf_congr hxvD,dst_of ho]
        simp [xv']
      rw [hput]
      have hlen:(mc++D.map bl).length=m.length+D.length:=by simp [hml]
      have relAll:∀ {t:List (Nat×V)} {a:Act},Rel N z w' ρ (mc++D.map bl) t a→Rel N z w1 ρ1 (mc++(D++[n]).map bl) t a:=fun h=>⟨af1.mem,h.tm.after af1,h.size,h.defers.after af1⟩
      refine grp_sound hsel hg hFc hmk hfin f cs (ns.erase n) (D++[n]) vs w1 ρ1 tc mc ac xv' ?_ hml hcs ?_ ?_ ?_ (hnn.erase n) htf hco (relAll q1) (relAll q2) (q3.trans af1) ?_ hex ?_
      · have:=List.length_erase_of_mem hn
        have:0<ns.length:=List.length_pos_of_mem hn
        omega
      · intro k
        rw [mem_erase_iff' hnn,hns k]
        simp only [List.mem_append,List.mem_singleton,not_or]
        constructor
        · rintro⟨h1,h2,h3⟩;exact⟨h2,h3,h1⟩
        · rintro⟨h2,h3,h1⟩;exact⟨h1,h2,h3⟩
      · intro k hk
        rcases List.mem_append.1 hk with hk|hk
        · exact hD k hk
        · rw [List.mem_singleton.1 hk];exact hn0
      · rw [List.nodup_append]
        refine⟨hnd,by simp,fun a ha b hb e=>?_⟩
        rw [List.mem_singleton.1 hb] at e
        exact hnD (e ▸ ha)
      · intro hF
        have fk:=hfk hF
        refine fk.later hR.mem.len ((fk.keep.ext hw').ext x1) ?_ (by simp) af1.pre
        intro b r hb hr
        obtain⟨T1,s1,es1,hown⟩:=maker_own (hmk n hn0)
        rcases Nat.lt_or_ge b (m.length+D.length) with q|q
        · have hlt:b<ρ.length:=by rw [q1.mem.len,hlen];exact q
          have h3:ρ[b]?=some ρ[b]:=List.getElem?_eq_getElem hlt
          have:=af1.pre b _ h3
          rw [hr] at this
          rw [Option.some.inj this]
          exact fk.beh b _ hb h3
        · have hlt:b<ρ1.length:=(List.getElem?_eq_some_iff.1 hr).1
          rw [af1.mem.len] at hlt
          simp at hlt
          have hbe:b=(mc++D.map bl).length:=by rw [hlen];omega
          subst hbe
          rw [←ha,hown] at af1
          exact Or.inl (Nat.le_trans (Nat.le_trans fk.keep.size hw'.size) (new_behind q1.mem af1 hr))
      · intro k n' hk
        rcases Nat.lt_or_ge k D.length with q|q
        · rw [List.getElem?_append_left q] at hk
          rw [←hxvD n' (List.mem_of_getElem? hk)]
          exact af1.rel (q4 k n' hk)
        · rw [List.getElem?_append_right q] at hk
          have hk0:k - D.length=0:=by
            rcases hx:k - D.length with _|z
            · rfl
            · rw [hx] at hk;simp at hk
          rw [hk0] at hk
          simp at hk
          subst hk
          have hkD:k=D.length:=by omega
          subst hkD
          rw [hlen] at rv1
          simpa [xv'] using rv1

theorem mksT_rel{ops:Array Oper}{w:World}{ρ:List Re}{m:Mem}{tv:Nat→TV}{xv:Nat→Value}:∀ (ns:List Nat) (k:Nat) (t:List (Nat×V)) (a:Act),(∀ n∈ns,dOk N (dstOf ops n))→Rel N z w ρ m t a→(∀ (i n:Nat),ns[i]?=some n→RelV w ρ (bad m ρ) ((tv n).inst fun _=>k+i) (xv n))→
    Rel N z w ρ m (mksT ops tv ns k t) (putsOf ops xv ns a)
  |[],_,_,_,_,hR,_=>hR
  | n ::ns,k,t,a,hd1,hR,hx=>by
    have h0:=hx 0 n rfl
    have hR':=hR.putv (hd1 n List.mem_cons_self) (After.refl hR.mem) h0
    exact mksT_rel ns (k+1) _ _ (fun n hn=>hd1 n (List.mem_cons_of_mem _ hn)) hR' fun i n' hi=>by
      have:=hx (i+1) n' (by simpa using hi)
      rw [show k+1+i=k+(i+1) by omega]
      exact this

/-- a group, each of its orders walked -/
theorem WDg_sound {ops:Array Oper} {kd:Nat→Kd} {B:World} {D:Nat→Prop} {L:Lim} (hTy:L.ty=none→∀ k,¬ D k) {F:Prop} {K:List (Nat×V)→Mem→Prop} {K':Act→World→Prop}:∀ (f:Nat) (cs ns:List Nat) {w:World} {ρ:List Re} {m:Mem} {t:List (Nat×V)} {a:Act},(∀ c∈cs,kd c= .a∨kd c= .f)→(∀ c∈cs,kd c= .f→F)→(∀ n∈ns,kd n= .a)→
    Rel N z w ρ m t a→(F→Fk B D L w ρ m)→WDg P N ops kd L K f cs ns t m→(∀ t' m' a' w' ρ',K t' m'→Rel N z w' ρ' m' t' a'→After w ρ m w' ρ' m'→(F→Fk B D L w' ρ' m')→K' a' w')→grpL P ops kd (Keep D B) K' f cs ns a w
  |0,cs,ns,w,ρ,m,t,a,_,_,_,hR,hF,⟨h1,h2,h3⟩,hK=>⟨h1,h2,hK _ _ _ _ _ h3 hR (After.refl hR.mem) hF⟩
  | f + 1,cs,ns,w,ρ,m,t,a,hc,hcF,hn,hR,hF,⟨h1,h2⟩,hK=>by
    constructor
    · intro c cs' e hr
      obtain⟨o,ho,hd⟩:=h1 c cs' e hr
      have hcm:c∈cs:=by rw [e];exact List.mem_cons_self
      have hsub:∀ x∈cs',x∈cs:=fun x hx=>by rw [e];exact List.mem_cons_of_mem _ hx
      have hk:=WDop_sound (K':=grpL P ops kd (Keep D B) K' f cs' ns) hR (fun e=>by rcases hc c hcm with q|q<;>rw [q] at e<;>cases e) hTy hF (hcF c hcm) (fun e=>by rcases hc c hcm with q|q<;>rw [q] at e<;>cases e) hd
        (fun t' m' a' w' ρ' hk hR' af _ hF'=>WDg_sound hTy f cs' ns (fun x hx=>hc x (hsub x hx)) (fun x hx=>hcF x (hsub x hx)) hn hR' hF' hk fun t2 m2 a2 w2 ρ2 q1 q2 q3 q4=>hK _ _ _ _ _ q1 q2 (af.trans q3) q4)
      refine⟨o,ho,fun w' hw' hsw=>?_⟩
      rcases hc c hcm with q|q
      · rw [q] at hk
        exact st_mono (hk w' hw') fun x w'' ⟨e1,e2⟩=>⟨by rw [q,if_neg (by decide)];exact e1,e2⟩
      · rw [q] at hk
        exact st_mono (hk w' hw' (hsw q)) fun x w'' ⟨e1,e2⟩=>⟨by rw [q,if_pos rfl];exact e1,e2⟩
    · intro n hnm
      obtain⟨o,ho,hd⟩:=h2 n hnm
      have q:=hn n hnm
      have hk:=WDop_sound (K':=grpL P ops kd (Keep D B) K' f cs (ns.erase n)) hR (fun e=>by rw [q] at e;cases e) hTy hF (fun e=>by rw [q] at e;cases e) (fun e=>by rw [q] at e;cases e) hd
        (fun t' m' a' w' ρ' hk hR' af _ hF'=>WDg_sound hTy f cs (ns.erase n) hc hcF (fun x hx=>hn x (List.mem_of_mem_erase hx)) hR' hF' hk fun t2 m2 a2 w2 ρ2 q1 q2 q3 q4=>hK _ _ _ _ _ q1 q2 (af.trans q3) q4)
      refine⟨o,ho,fun w' hw'=>?_⟩
      rw [q] at hk
      exact hk w' hw'

def hasF(kd:Nat→Kd)(l:List El):Prop:=∃ i∈idxs l,kd i= .f
theorem WDs_sound {ops:Array Oper} {kd:Nat→Kd} {B:World} {D:Nat→Prop} {L:Lim} (hTy:L.ty=none→∀ k,¬ D k) (hsel:Region.noSelect ops=true) {Q:List (Nat×V)→Mem→Prop} {Q':Act→World→Prop}:∀ (l:List El) {w:World} {ρ:List Re} {m:Mem} {t:List (Nat×V)} {a:Act},okOrder ops kd l=true→Rel N z w ρ m t a→
    ((∃ i∈idxs l,kd i= .q)→w=B∧∀ k,D k→has (wrB L.ty) m ρ k)→(hasF kd l→Fk B D L w ρ m)→WDs P N ops kd L l t m Q→
    (∀ t' m' a' w' ρ',Q t' m'→Rel N z w' ρ' m' t' a'→After w ρ m w' ρ' m'→Q' a' w')→mixL P ops kd (Keep D B) Q' l a w
  |[],w,ρ,m,t,a,_,hR,_,_,h,hQ=>fun w' hw=>hQ _ _ _ _ _ h (hR.later hw) (After.of_same hR.mem hw)
  | .one i :: l,w,ρ,m,t,a,hok,hR,hB,hF,h,hQ=>by
    have hok':=hok
    simp only [okOrder,Bool.and_eq_true,Bool.or_eq_true,decide_eq_true_eq,Bool.not_eq_true',decide_eq_false_iff_not] at hok'
    obtain⟨⟨⟨⟨⟨_,_⟩,_⟩,ho4⟩,ho5⟩,ho6⟩:=hok'
    have hBl:(∃ j∈idxs l,kd j= .q)→w=B∧∀ k,D k→has (wrB L.ty) m ρ k:=fun⟨j,hj,hq⟩=>hB ⟨j,by rw [idxs_cons];exact List.mem_append_right _ hj,hq⟩
    have hFl:hasF kd l→hasF kd (.one i::l):=fun⟨j,hj,hq⟩=>⟨j,by rw [idxs_cons];exact List.mem_append_right _ hj,hq⟩
    simp only [WDs] at h
    split at h
    · rename_i o ho
      refine⟨o,ho,?_⟩
      have step:WDop P N L (kd i) t m o.op o.dst (fun t m=>WDs P N ops kd L l t m Q)→kPost P (Keep D B) o a w (kd i) (mixL P ops kd (Keep D B) Q' l):=fun h=>
        WDop_sound (F:=hasF kd (.one i::l)) hR (fun hk=>hB ⟨i,by simp [idxs,El.idx],hk⟩) hTy hF (fun hk=>⟨i,by simp [idxs,El.idx],hk⟩) (fun hk=>by
          rintro⟨j,hj,hq⟩
          rw [idxs_cons] at hj
          rcases List.mem_append.1 hj with hj|hj
          · simp only [El.idx,List.mem_singleton] at hj;subst hj;rw [hk] at hq;cases hq
          · rcases ho5 with h5|h5
            · exact h5 hk
            · unfold noF at h5;rw [List.all_eq_true] at h5;have:=h5 j hj;simp [hq] at this) h
          (fun t' m' a' w' ρ' hk hR' af hw hF'=>WDs_sound hTy hsel l ho6 hR' (by
            rintro⟨j,hj,hq⟩
            rcases ho4 with (h4|h4)|h4
            · obtain⟨e1,e2,e3⟩:=hw (.inl h4)
              rw [e1,e2,e3];exact hBl ⟨j,hj,hq⟩
            · obtain⟨e1,e2,e3⟩:=hw (.inr h4)
              rw [e1,e2,e3];exact hBl ⟨j,hj,hq⟩
            · unfold noQ at h4;rw [List.all_eq_true] at h4;have:=h4 j hj;simp [hq] at this) (fun hf=>hF' (hFl hf)) hk (fun t2 m2 a2 w2 ρ2 q1 q2 q3=>hQ _ _ _ _ _ q1 q2 (af.trans q3)))
      cases hg:o.guard with
      | none=>
        rw [hg] at h
        rw [if_pos (by simp [Region.wanted,hg])]
        exact step h
      | some jw =>
        obtain⟨j,want⟩:=jw
        rw [hg] at h
        simp only at h
        split at h
        · rename_i d hd
          split at h
          · rename_i c hc
            have hr:=hR.tm d
            rw [hc] at hr
            have hget:a.tmps[d]?=some (.bool c):=by
              have:a.tmps.getD d undef= .bool c:=by
                generalize a.tmps.getD d undef=x at hr
                cases hr;rfl
              rw [Array.getD_eq_getD_getElem?] at this
              cases hx:a.tmps[d]? with
              |none=>rw [hx] at this;simp [undef] at this
              |some y=>rw [hx] at this;simp at this;rw [this]
            have hy:yielded ops a.tmps j=some c:=by
              unfold yielded
              rw [hd]
              simp only [Option.bind_some,hget]
            by_cases hcw:c=want
            · rw [if_pos (by simp [Region.wanted,hg,hy,hcw])]
              exact step (h.1 hcw)
            · rw [if_neg (by simp [Region.wanted,hg,hy,hcw])]
              obtain⟨hdk,h2⟩:=h.2 hcw
              have hR':Rel N z w ρ m (tput t o.dst (.tup [])) (a.put o.dst undef):=hR.putv hdk (After.refl hR.mem) undef_rel
              exact WDs_sound hTy hsel l ho6 hR' hBl (fun hf=>hF (hFl hf)) h2 hQ
          · rename_i hc
            have hr:=hR.tm d
            rw [hc] at hr
            have hu:a.tmps.getD d undef= .tuple #[]:=by
              generalize a.tmps.getD d undef=x at hr
              cases hr with
              | tup _ xs hl _ => have:xs= #[]:=Array.eq_empty_of_size_eq_zero hl.symm
                                 rw [this]
            have hy:yielded ops a.tmps j=none:=by
              unfold yielded
              rw [hd]
              simp only [Option.bind_some]
              rw [Array.getD_eq_getD_getElem?] at hu
              cases hx:a.tmps[d]? with
              |none=>rfl
              |some y=>rw [hx] at hu;simp at hu;subst hu;rfl
            rw [if_neg (by simp [Region.wanted,hg,hy])]
            obtain⟨hdk,h2⟩:=h
            have hR':Rel N z w ρ m (tput t o.dst (.tup [])) (a.put o.dst undef):=hR.putv hdk (After.refl hR.mem) undef_rel
            exact WDs_sound hTy hsel l ho6 hR' hBl (fun hf=>hF (hFl hf)) h2 hQ
          · exact h.elim
        · exact h.elim
    · exact h.elim
  | .grp false cs ns::l,w,ρ,m,t,a,hok,hR,hB,hF,h,hQ=>by
    obtain⟨hg,h14⟩:=grp_iff.1 hok
    simp only [WDs] at h
    have hnoq:¬ ∃ k∈idxs l,kd k= .q:=by
      rintro⟨k,hk,hq⟩
      have h13:=hg.nq
      unfold noQ at h13
      rw [List.all_eq_true] at h13
      have:=h13 k hk
      simp [hq] at this
    exact WDg_sound (F:=hasF kd (.grp false cs ns::l)) hTy _ cs ns (fun c hc=>hg.ka c (List.mem_append_left _ hc)) (fun c hc h=>⟨c,by rw [idxs_cons];exact List.mem_append_left _ (List.mem_append_left _ hc),h⟩) hg.kn hR hF h fun t' m' a' w' ρ' hk hR' af hF'=>
      WDs_sound hTy hsel l h14 hR' (fun h=>(hnoq h).elim) (fun⟨k,hk,hq⟩=>hF' ⟨k,by rw [idxs_cons];exact List.mem_append_right _ hk,hq⟩) hk fun t2 m2 a2 w2 ρ2 q1 q2 q3=>hQ _ _ _ _ _ q1 q2 (af.trans q3)
  | .grp true cs ns::l,w,ρ,m,t,a,hok,hR,hB,hF,h,hQ=>by
    obtain⟨hg,h14⟩:=grp_iff.1 hok
    simp only [WDs] at h
    obtain⟨vs,tv,bl,mf,hco,hmk,hrest⟩:=h
    have hmf:=callsOk_len hco
    have hnoq:¬ ∃ k∈idxs l,kd k= .q:=by
      rintro⟨k,hk,hq⟩
      have h13:=hg.nq
      unfold noQ at h13
      rw [List.all_eq_true] at h13
      have:=h13 k hk
      simp [hq] at this
    have hnd:=hg.nd
    rw [List.nodup_append] at hnd
    have dst_of:∀ {n:Nat} {o:Oper},ops[n]?=some o→dstOf ops n=o.dst:=fun h=>by unfold dstOf;rw [h];rfl
    refine grp_sound (m:=m) (t0:=t) (a0:=a) (w0:=w) (ρ0:=ρ) (cs0:=cs) (ns0:=ns) (F:=hasF kd (.grp true cs ns::l)) (B:=B) (Dd:=D) hsel hg (fun⟨c,hc,h⟩=>⟨c,by rw [idxs_cons];exact List.mem_append_left _ (List.mem_append_left _ hc),h⟩) hmk (tf:=callsT ops cs vs t) (mf:=mf) ?_ (cs.length+ns.length) cs ns [] vs w ρ t m a (fun _=>undef) rfl rfl (fun _ h=>h) (fun n=>by simp) (fun n h=>by cases h) (by simp) hnd.2.1 rfl hco (by simpa using hR) (by simpa using hR) (by simpa using After.refl hR.mem) (fun h=>by simpa using hF h) (fun _ _ _ _=>rfl) (fun k n h=>by simp at h)
    · intro w3 ρ3 ac xv D' hRc haf hfk hDn hDm hxv
      have hperm:D'.Perm ns:=(List.perm_ext_iff_of_nodup hDn hnd.2.1).2 hDm
      have hDl:D'.length=ns.length:=hperm.length_eq
      have hidx:∀ n∈ns,D'.idxOf n<D'.length∧D'[D'.idxOf n]?=some n:=fun n hn=>by
        have h1:D'.idxOf n<D'.length:=List.idxOf_lt_length_iff.2 ((hDm n).2 hn)
        exact⟨h1,by rw [List.getElem?_eq_getElem h1,List.getElem_idxOf]⟩
      have hjn:(ns.map D'.idxOf).Nodup:=by
        rw [List.nodup_iff_pairwise_ne,List.pairwise_map]
        refine(List.nodup_iff_pairwise_ne.1 hnd.2.1).imp_of_mem ?_
        intro x y hx hy hne e
        have h1:=(hidx x hx).2
        rw [e,(hidx y hy).2] at h1
        exact hne (Option.some.inj h1).symm
      have hflat:(ns.map bl).all Blk.flat=true:=by
        rw [List.all_map,List.all_eq_true]
        intro n hn
        obtain⟨o,p,_,_,hm1,_⟩:=hmk n hn
        exact hm1.2.1
      obtain⟨ρ',hM',af',hnew⟩:=renorm haf.mem (js:=ns.map D'.idxOf) (E:=ns.map bl) (by simp) hjn (by
        intro i j hij
        rw [List.getElem?_map,Option.map_eq_some_iff] at hij
        obtain⟨n,h1,rfl⟩:=hij
        rw [List.getElem?_map,List.getElem?_map,(hidx n (List.mem_of_getElem? h1)).2,h1]) hflat
      have hdead:deadB (D'.map bl)=List.replicate ns.length .dead:=by
        unfold deadB
        rw [List.map_map,←hDl]
        apply List.ext_getElem?
        intro i
        rw [List.getElem?_map,List.getElem?_replicate]
        split
        · rename_i hi;rw [List.getElem?_eq_getElem hi];rfl
        · rename_i hi;rw [List.getElem?_eq_none (by omega)];rfl
      rw [hdead] at hM' af' hnew
      have e2:(mf++List.replicate ns.length Blk.dead).length=m.length+ns.length:=by simp [hmf]
      have hRel:Rel N z w3 ρ' ((mf++List.replicate ns.length .dead)++ns.map bl) (callsT ops cs vs t) ac:=⟨hM',hRc.tm.after af',hRc.size,hRc.defers.after af'⟩
      have hfinal:=mksT_rel (ops:=ops) (tv:=tv) (xv:=xv) ns (m.length+ns.length) _ _ (fun n hn=>by
        obtain⟨o,p,ho,hd,_⟩:=hmk n hn
        rw [dst_of ho];exact hd) hRel (fun i n hi=>by
        have hn:=List.mem_of_getElem? hi
        obtain⟨o,p,_,_,hm1,_⟩:=hmk n hn
        refine rel_inst (g:=fun _=>m.length+ns.length+i) hm1.2.2 (hxv _ n (hidx n hn).2) fun r hr=>?_
        have:=hnew i (D'.idxOf n) r (by rw [List.getElem?_map,hi];rfl) (by rw [hmf];exact hr)
        rw [e2] at this
        exact this)
      have hcomm:putsOf ops xv D' ac=putsOf ops xv ns ac:=by
        refine hperm.foldl_eq' ?_ ac
        intro x hx y hy z
        by_cases hxy:x=y
        · subst hxy;rfl
        · have hx':=(hDm x).1 hx
          have hy':=(hDm y).1 hy
          obtain⟨ox,_,hox,_⟩:=hmk x hx'
          obtain⟨oy,_,hoy,_⟩:=hmk y hy'
          have:=(hg.ap rfl x hx' y (List.mem_append_right _ hy') hxy).1
          unfold apartB at this
          rw [hox,hoy] at this
          rw [dst_of hox,dst_of hoy]
          exact Act.put_comm z (xv x) (xv y) (Oper.apart_spec this).2.1
      rw [hcomm]
      refine WDs_sound hTy hsel l h14 hfinal (fun h=>(hnoq h).elim) (fun hf=>?_) hrest (fun t2 m2 a2 w2 ρ2 q1 q2 q3=>hQ _ _ _ _ _ q1 q2 ((haf.trans af').trans q3))
      have fk:=hfk (by obtain⟨k,hk,hq⟩:=hf;exact⟨k,by rw [idxs_cons];exact List.mem_append_right _ hk,hq⟩)
      have l3:ρ3.length=m.length+ns.length:=by have:=haf.mem.len;simp only [List.length_append,List.length_map] at this;omega
      refine fk.later haf.mem.len fk.keep ?_ (by simp;omega) af'.pre
      intro b r hb hr
      have l':ρ'.length=m.length+ns.length+ns.length:=by have:=hM'.len;simp only [List.length_append,List.length_map,List.length_replicate] at this;omega
      have hblt:b<ρ'.length:=(List.getElem?_eq_some_iff.1 hr).1
      rcases Nat.lt_or_ge b (m.length+ns.length) with q|q
      · have h3:ρ3[b]?=some (ρ3[b]'(by omega)):=List.getElem?_eq_getElem (by omega)
        have:=af'.pre b _ h3
        rw [hr] at this
        cases this
        exact fk.beh b _ hb h3
      · have hi:b - (m.length+ns.length)<ns.length:=by omega
        have hn:ns[b - (m.length+ns.length)]?=some (ns[b - (m.length+ns.length)]):=List.getElem?_eq_getElem hi
        have hid:=hidx _ (List.mem_of_getElem? hn)
        have h7:ρ3[m.length+D'.idxOf (ns[b - (m.length+ns.length)])]?=some (ρ3[m.length+D'.idxOf (ns[b - (m.length+ns.length)])]'(by omega)):=List.getElem?_eq_getElem (by omega)
        have h8:=hnew (b - (m.length+ns.length)) _ _ (by rw [List.getElem?_map,hn];rfl) (by rw [hmf];exact h7)
        rw [e2,show m.length+ns.length+(b - (m.length+ns.length))=b by omega,hr] at h8
        rw [Option.some.inj h8]
        have hLm:=fk.len
        have hLn:L.n≤m.length:=(hF (by obtain⟨k,hk,hq⟩:=hf;exact⟨k,by rw [idxs_cons];exact List.mem_append_right _ hk,hq⟩)).len
        exact fk.beh _ _ (by omega) h7

theorem WA_drawL{id:Nat}{l:List Oper}{t:List (Nat×V)}{m:Mem}{Q:Exit→List (Nat×V)→Mem→Prop}(T:Option Nat)(hm:P.follows .mixedOrders=true)(kd:Nat→Kd)(order:List El)(hok:okMix l.toArray kd order=true)
    (h:WDs P N l.toArray kd ⟨m.length,T,m⟩ order t m (fun t m=>Q .normal t m)):WA P N (.region id l.toArray true) t m Q:=by
  intro F hF z w ρ a hR
  have hok':=hok
  simp only [okMix,Bool.and_eq_true] at hok'
  refine wp_region_mix hF order hm hok (Keep (has (wrB T) m ρ) w) (fun _ _ h k=>h.ext k) (Keep.refl _ _) (WDs_sound (B:=w) (D:=has (wrB T) m ρ) (L:=⟨m.length,T,m⟩) ?_ hok'.2 order hok'.1.1.1 hR (fun _=>⟨rfl,fun _ h=>h⟩) (fun _=>⟨Keep.refl _ _,?_,Nat.le_refl _,Nat.le_refl _,?_⟩) h ?_)
  · rintro hT k ⟨b,blk,r,h1,h2,_⟩
    have hT':T=none:=hT
    rw [hT',wrB_none] at h2
    cases h2
  · intro b r hb hr
    have:=(List.getElem?_eq_some_iff.1 hr).1
    rw [hR.mem.len] at this
    have hb':m.length≤b:=hb
    omega
  · rintro d r ⟨b0,h1,h2⟩ hr
    exact⟨d,b0,r,h1,h2,hr,rfl⟩
  · intro t' m' a' w' ρ' h1 h2 h3
    exact⟨t',m',ρ',h1,h2,h3⟩
theorem WA_draw{id:Nat}{l:List Oper}{t:List (Nat×V)}{m:Mem}{Q:Exit→List (Nat×V)→Mem→Prop}(hm:P.follows .mixedOrders=true)(kd:Nat→Kd)(order:List El)(hok:okMix l.toArray kd order=true)
    (h:WDs P N l.toArray kd ⟨m.length,none,[]⟩ order t m (fun t m=>Q .normal t m)):WA P N (.region id l.toArray true) t m Q:=by
  intro F hF z w ρ a hR
  have hok':=hok
  simp only [okMix,Bool.and_eq_true] at hok'
  refine wp_region_mix hF order hm hok (Keep (fun _=>False) w) (fun _ _ h k=>h.ext k) (Keep.refl _ _) (WDs_sound (B:=w) (D:=fun _=>False) (L:=⟨m.length,none,[]⟩) (fun _ _ h=>h) hok'.2 order hok'.1.1.1 hR (fun _=>⟨rfl,fun _ h=>h.elim⟩) (fun _=>⟨Keep.refl _ _,?_,Nat.le_refl _,Nat.zero_le _,?_⟩) h ?_)
  · intro b r hb hr
    have:=(List.getElem?_eq_some_iff.1 hr).1
    rw [hR.mem.len] at this
    have hb':m.length≤b:=hb
    omega
  · rintro d r ⟨b0,h1,h2⟩ hr
    rw [wrB_none] at h2
    cases h2
  · intro t' m' a' w' ρ' h1 h2 h3
    exact⟨t',m',ρ',h1,h2,h3⟩
end
end Go.Proofs.YtomkbpoicjabfaaGreatDoor
