/- the law's start: the package variables read as laid, and the library's own holds a number -/
import Derived.Test.YtomkbpoicjabfaaGreatDoorRows
import Derived.Test.YtomkbpoicjabfaaGreatDoorE1
import Derived.LaidMore
import Derived.Lay
import Derived.OpenShut
import Derived.Stop.Joined
import Derived.ProofKit
import Derived.Lib.LaidTab
import Derived.LaidLaws
import Derived.Shelf.Vars
import Derived.HandedShaped
import Derived.Lib.AppendIntMem
set_option linter.unusedSimpArgs false
set_option linter.unusedVariables false
namespace Go.Proofs.YtomkbpoicjabfaaGreatDoor
open Go.RowKit Go.ChangeShapes Go.WideShapes Go.ChangeAt
theorem own:ownKnob Tryz.prog.godebug=none:=by kernel_rfl
theorem laidOut:laidOutB Tryz.prog=true:=by kernel_rfl
def laidV:List (String×DataW Unit):=[("math/bits.deBruijn32tab",Rows.laid_math_bits_deBruijn32tab),("math/bits.deBruijn64tab",Rows.laid_math_bits_deBruijn64tab),("internal/strconv.uint64pow10",Rows.laid_internal_strconv_uint64pow10),("unicode/utf8.acceptRanges",Rows.laid_unicode_utf8_acceptRanges),("strconv.ErrRange",Rows.laid_strconv_ErrRange),("strconv.ErrSyntax",Rows.laid_strconv_ErrSyntax),("unicode/utf8.first",Rows.laid_unicode_utf8_first)]
/-- the door's own heap meets the condition -/
theorem door_met(os:Os)(args:Array Value):laidMetH Tryz.prog laidV ((World.laidAll Tryz.prog os laidV).forCall (fun _ _=>0) ⟨#[],args,[]⟩).memory:=by
  rw [MakeChecks.laidMetH_plain _ _ _ (by kernel_rfl)]
  exact laidMet_laidAll _ (by kernel_rfl) (by kernel_rfl)
theorem door_shaped(os:Os)(args:Array Value):((World.laidAll Tryz.prog os laidV).forCall (fun _ _=>0) ⟨#[],args,[]⟩).Shaped Tryz.prog:=World.shaped_of_ZipB (by kernel_rfl) (by kernel_rfl)
theorem laid_at{P:Program}{w:World}:∀ {l:List (String×DataW Unit)} {ps:List MemPlace} {i:Nat} {n:String} {d:DataW Unit},DataW.LaidVars P w l ps→l[i]?=some (n,d)→
    ∃ g t cs fuel p,P.globalNamed n=some g∧(P.globals[g]?).map (·.type)=some t∧w.var? P n=some cs∧DataW.trod (fun _=>()) P w 0 (fun _=>true) false fuel t cs.toList=some (d,p)
  |[],_,i,_,_,_,hi=>by simp at hi
  | (n0,d0)::r,ps,0,n,d,h,hi=>by
    obtain⟨g,t,cs,fuel,p,q,h1,h2,h3,h4,_,_⟩:=h
    simp at hi
    obtain⟨rfl,rfl⟩:=hi
    exact⟨g,t,cs,fuel,p,h1,h2,h3,h4⟩
  | (n0,d0)::r,ps,i+1,n,d,h,hi=>by
    obtain⟨g,t,cs,fuel,p,q,h1,h2,h3,h4,h5,_⟩:=h
    exact laid_at h5 (by simpa using hi)
theorem laid_pow{W:World}(h:laidMetH Tryz.prog laidV W):Lib.TabIs Tryz.prog W "internal/strconv.uint64pow10" .u64 Lib.pow10Tab:=by
  rw [MakeChecks.laidMetH_plain _ _ _ (by kernel_rfl)] at h
  obtain⟨ps,h1,_⟩:=h
  obtain⟨g,t,cs,fuel,p,hg,ht,hv,hd⟩:=laid_at (i:=2) h1 rfl
  obtain rfl:=Option.some.inj ((show Tryz.prog.globalNamed "internal/strconv.uint64pow10" =some 3 by kernel_rfl).symm.trans hg)
  obtain rfl:=Option.some.inj ((show(Tryz.prog.globals[3]?).map (·.type)=some 217 by kernel_rfl).symm.trans ht)
  unfold Lib.TabIs
  rw [hv,←Lib.cells_of_tab (zs:=Lib.pow10Tab) (k:= .u64) Tryz.underlying217 Tryz.underlying190 (by kernel_rfl) (by kernel_rfl) hd]
theorem laid_err{W:World}(h:laidMetH Tryz.prog laidV W){i g:Nat}{n:String}{tx:List UInt8}(hi:laidV[i]?=some (n,.iface "*errors.errorString" (.ptr (.agg [.lit (.string tx)]))))(hg:Tryz.prog.globalNamed n=some g)(ht:(Tryz.prog.globals[g]?).map (·.type)=some 122):∃ t x,W.cell? ⟨g,0,none⟩=some (.iface t x):=by
  rw [MakeChecks.laidMetH_plain _ _ _ (by kernel_rfl)] at h
  obtain⟨ps,h1,_⟩:=h
  obtain⟨g',t',cs,fuel,p,hg',ht',hv,hd⟩:=laid_at (i:=i) h1 hi
  obtain rfl:=Option.some.inj (hg.symm.trans hg')
  obtain rfl:=Option.some.inj (ht.symm.trans ht')
  obtain⟨_,u,v,e,_,_⟩:=iface_of_trod Tryz.underlying122 hd
  have hc:=World.var?_cell hg hv 0
  refine⟨u,v,hc.trans ?_⟩
  have:=congrArg (fun l=>l[0]?) e
  simpa using this
theorem glob_ok {W:World} (h:laidMetH Tryz.prog laidV W) (hs:W.ShapedOpen Tryz.prog):GlobOk W [] (bad [] []):=by
  have hp:=laid_pow h
  obtain⟨mx,hm⟩:=cell_of_shapedOpen_int (g:=0) (t:=3) (k:= .i64) (zero:= #[.int .i64 0]) hs (by decide +kernel) (by kernel_rfl) rfl (by kernel_rfl) (by kernel_rfl) Tryz.underlying3
  have lt:∀ (g:Nat) (x:Value),W.cell? ⟨g,0,none⟩=some x→g<W.heap.size:=fun g x hx=>by
    rcases Nat.lt_or_ge g W.heap.size with q|q
    · exact q
    · simp [World.cell?,Array.getElem?_eq_none q] at hx
  have one:∀ (g:Nat) (v:V) (x:Value),v.one=true→RelV W [] (bad [] []) v x→W.cell? ⟨g,0,none⟩=some x→RelV W [] (bad [] []) (.bp [v] 0) (.pointer (some ⟨g,0,none⟩)):=fun g v x h1 hr hx=>by
    refine RelV.bp _ 0 g 0 (fun _=>x) (lt g x hx) (owned_nil g) ?_ ?_ ?_
    · intro j u hj
      rcases j with _|j
      · exact hx
      · simp at hj
    · intro j u hj
      rcases j with _|j
      · simp at hj;subst hj;exact hr
      · simp at hj
    · intro j u hj
      rcases j with _|j
      · simp at hj;subst hj;exact h1
      · simp at hj
  intro g
  unfold gval
  split
  · rename_i hg
    subst hg
    unfold Lib.TabIs World.var? at hp
    rw [show Tryz.prog.globalNamed "internal/strconv.uint64pow10" =some 3 by kernel_rfl] at hp
    simp only [Option.bind_some] at hp
    split at hp
    · rename_i cs ty o hh
      obtain rfl:=Option.some.inj hp
      refine RelV.tab _ _ ty o ?_ (owned_nil _) hh
      rcases Nat.lt_or_ge 3 W.heap.size with q|q
      · exact q
      · rw [Array.getElem?_eq_none q] at hh;cases hh
    · cases hp
  · split
    · rename_i hg
      subst hg
      exact one _ _ _ rfl (.anyi _ _) hm
    · split
      · rename_i hg
        rcases hg with rfl|rfl
        · obtain⟨t,x,hx⟩:=laid_err h (i:=5) (g:=1) rfl (by kernel_rfl) (by kernel_rfl)
          exact one _ _ _ rfl (.ifv _ _) hx
        · obtain⟨t,x,hx⟩:=laid_err h (i:=4) (g:=2) rfl (by kernel_rfl) (by kernel_rfl)
          exact one _ _ _ rfl (.ifv _ _) hx
      · exact .any _
/-- the wrap that hands over what is laid, and the world's shape -/
theorem ret_shaped{H:Type}{enc:TypeId×Value→H}{a:Assume}{C:Checked}{os:Os}{f:FuncId}{fn:Func}{s:ChangeSpec}{conds:List PathCond}{apart fresh handsOn again:Bool}{X:World→Array Value→Prop}
    (hX:∀ (w w':World) (args:Array Value),w.heap=w'.heap→X w args→X w' args)
    (own:ownKnob C.prog.godebug=none) (started:os.Started) (noInit:C.prog.inits.idxOf? f=none) (hfn:C.prog.funcs[f]?=some fn)
    (witness:∃ (w:World) (tape:Tape) (i:Input),w.os=os∧(w.forCall tape i).Shaped C.prog∧i.vars=[]∧Input.okWide C.prog (w.forCall tape i) .any w.heap.size f i∧
      ((s.pre enc C.prog fn conds apart (w.forCall tape i).memory i.args∧X (w.forCall tape i).memory i.args)∧sizedMet enc C.prog fn (OpenSpec.ofChange s) apart (w.forCall tape i).memory i.args)∧a.holds C.prog (lone (Frame.enter C.prog f i.args .normal) [] (w.forCall tape i)))
    (contract:∀ (W:World) (base:Nat) (args:Array Value) (ds gs:List (DataW H)) (before:List MemPlace),
      (∀ (j:Nat) t v,fn.params[j]?=some t→args[j]?=some v→Value.okWide C.prog W .any base t v)→
      DataW.Whole enc C.prog fn.params.toList s.vars apart W args.toList ds gs before→
      X W args→W.ShapedOpen C.prog→
      Calls C.prog f args W fun e W'=>∃ v,e= .returned v∧s.post enc C.prog fn apart fresh handsOn again W args v W'):
    ReturnsInHanded a C os f .any (fun w args=>(s.pre enc C.prog fn conds apart w args∧X w args)∧sizedMet enc C.prog fn (OpenSpec.ofChange s) apart w args) (s.post enc C.prog fn apart fresh handsOn again):=by
  refine returnsInHanded_of_calls own started noInit witness ?_
  intro w tape i _ hsh _ hok hpre hholds
  obtain⟨_,_,_,fn',hfn',_,_,_,_,hval⟩:=hok
  have e:fn'=fn:=Option.some.inj (hfn'.symm.trans hfn)
  subst e
  obtain⟨⟨⟨ds,gs,before,hw,hc⟩,hx⟩,hz⟩:=hpre
  have hw':=DataW.Whole.of_heap (w':=w.forCall tape i) (by rfl) hw
  refine(contract (w.forCall tape i) w.heap.size i.args ds gs before hval hw' (hX _ _ _ (by rfl) hx) hsh).mono fun e W' ⟨v,he,hp⟩=>?_
  subst he
  exact ChangeSpec.post_blind hp
end Go.Proofs.YtomkbpoicjabfaaGreatDoor
