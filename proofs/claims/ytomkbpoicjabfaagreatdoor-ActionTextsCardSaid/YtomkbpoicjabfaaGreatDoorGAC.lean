import Derived.Test.YtomkbpoicjabfaaGreatDoorGAB
import Derived.Test.YtomkbpoicjabfaaGreatDoorSH
import Derived.Test.YtomkbpoicjabfaaGreatDoorGAA
import Derived.Lib.AppendIntMem
set_option linter.unusedSimpArgs false
set_option linter.unusedVariables false
/- contracts: names -/
namespace Go.Proofs.YtomkbpoicjabfaaGreatDoor
open Go.RowKit
attribute [local irreducible] WA WOs WDs WAn qThen qBlock tput
set_option maxHeartbeats 1000000
set_option maxRecDepth 20000
set_option linter.unusedSimpArgs false
set_option linter.unusedVariables false
def byt(s:List UInt8)(i:Nat):Int:=((s.getD i 0).toNat:Int)
def bytB(s:List UInt8):List (List V):=s.map fun b=>[V.int .u8 (b.toNat:Int)]
theorem bytB_length{s:List UInt8}:(bytB s).length=s.length:=by simp [bytB]
theorem byt_get{s:List UInt8}{i:Nat}(h:i<s.length):s[i]?=some (s.getD i 0):=by
  rw [List.getD_eq_getElem?_getD,List.getElem?_eq_getElem h];rfl
theorem bytB_get{s:List UInt8}{i:Nat}(h:i<s.length):(bytB s)[i]?=some [V.int .u8 (byt s i)]:=by
  unfold bytB byt;rw [List.getElem?_map,byt_get h];rfl
def letP(c:Int):Prop:=(97≤c∧c≤122)∨(65≤c∧c≤90)
def digP(c:Int):Prop:=48≤c∧c≤57
instance(c:Int):Decidable (letP c):=inferInstanceAs (Decidable (_∨_))
instance(c:Int):Decidable (digP c):=inferInstanceAs (Decidable (_∧_))
def okC(s:List UInt8)(i:Nat):Prop:=letP (byt s i)∨(i≠0∧(digP (byt s i)∨byt s i=45))
instance(s:List UInt8)(i:Nat):Decidable (okC s i):=inferInstanceAs (Decidable (_∨_))
/-- is a text a name -/
def nameP(s:List UInt8):Prop:=1≤s.length∧s.length≤12∧∀ i,i<s.length→okC s i
instance(s:List UInt8):Decidable (nameP s):=inferInstanceAs (Decidable (_∧_∧_))
theorem nameP_bad{s:List UInt8}{i:Nat}(h:i<s.length)(hn:¬ okC s i):decide (nameP s)=false:=decide_eq_false fun h1=>hn (h1.2.2 i h)
theorem str_eq_nil{s:List UInt8}:(s=[])↔s.length=0:=by simp

theorem aisname_c(s:List UInt8)(hs:s.length≤1000)(m:Mem):Gives Tryz.prog 41 [.str s] m (.bool (decide (nameP s))):=by
  have hln:=bytB_length (s:=s)
  have hgi:=hln
  refine Gives_in Tryz.func41 rfl Tryz.ntmps41 Tryz.results41 (by kernel_rfl) (by simp) rfl fun Q hQ=>?_
  (have FX:=And.intro hln hgi;repeat'(first|(refine sx ?_ ?_<;>intro h<;>first|(exfalso;omega)|skip)|refine ny ?_|refine WA_block ?_))
  refine s_cv ?_ (by first|exact lk_|fail) (Nat.le_trans hs (by decide))
  change WOs _ _ _ _ ((7,.lst (bytB s))::_) _ _
  (have FX:=And.intro hln hgi;repeat'(first|(refine sx ?_ ?_<;>intro h<;>first|(exfalso;omega)|skip)|refine ny ?_|refine WA_block ?_))
  refine WA_while (σ:=Nat) [0,2,7,8,9] (fun i=>[.str s,.bool false,.lst (bytB s),.int .i64 s.length,.int .i64 i]) (fun _=>lend m++[]) (fun i=>i≤s.length∧∀ j,j<i→okC s j) (fun i=>s.length - i) 0 ⟨Nat.zero_le _,fun j h=>absurd h (Nat.not_lt_zero _)⟩ tv_ rfl ?_
  rintro i ⟨hi,hj⟩ L hL
  simp only [zipT]
  clear FX
  rcases Nat.lt_or_ge i s.length with hlt|hge
  · have hgi:=bytB_get hlt
    have hok:okC s i↔(letP (byt s i)∨(i≠0∧(digP (byt s i)∨byt s i=45))):=Iff.rfl
    unfold letP digP at hok
    (have FX:=And.intro hln hgi;repeat'(first|(refine sx ?_ ?_<;>intro h<;>first|(exfalso;omega)|skip)|refine ny ?_|refine WA_block ?_))
    all_goals(try(exfalso;omega))
    all_goals try
      ((refine r_es hQ ?_;try with_reducible rfl)
       exact congrArg V.bool (nameP_bad hlt (fun h=>by have:=hok.1 h;omega)).symm)
    all_goals(refine next_ hL (i+1) ⟨by omega,fun j h=>?_⟩ (by omega))
    all_goals(rcases Nat.lt_or_ge j i with h2|h2)
    all_goals first
      |exact hj j h2
      | (obtain rfl:j=i:=by omega
         exact hok.2 (by omega))
  · have e:i=s.length:=by omega
    subst e
    have hgi:=hln
    have hnm:nameP s↔(1≤s.length∧s.length≤12):=⟨fun h=>⟨h.1,h.2.1⟩,fun h=>⟨h.1,h.2,hj⟩⟩
    have hne:s=[]↔s.length=0:=str_eq_nil
    (have FX:=And.intro hln hgi;repeat'(first|(refine sx ?_ ?_<;>intro h<;>first|(exfalso;omega)|skip)|refine ny ?_|refine WA_block ?_))
    all_goals(try(exfalso;omega))
    all_goals((refine r_es hQ ?_;try with_reducible rfl))
    all_goals(clear hQ hL;simp only [hne] at *)
    all_goals first
      |exact congrArg V.bool (decide_eq_true (hnm.2 (by omega))).symm
      |exact congrArg V.bool (decide_eq_false (fun h=>by have:=hnm.1 h;omega)).symm

theorem bisletter_c(c:Int)(m:Mem):Gives Tryz.prog 68 [.int .u8 c] m (.bool (decide (letP c))):=by
  refine Gives_in Tryz.func68 rfl Tryz.ntmps68 Tryz.results68 (by kernel_rfl) (by simp) rfl fun Q hQ=>?_
  (repeat'(first|(refine sx ?_ ?_<;>intro h<;>first|(exfalso;omega)|skip)|refine ny ?_|refine WA_block ?_))
  all_goals((refine r_es hQ ?_;try with_reducible rfl);unfold letP)
  all_goals(first|exact congrArg V.bool (decide_eq_true (by first|omega|simp_all)).symm|exact congrArg V.bool (decide_eq_false (by first|omega|simp_all)).symm|exact congrArg V.bool (decide_eq_decide.2 (by omega)))

theorem bisdigit_c(c:Int)(m:Mem):Gives Tryz.prog 69 [.int .u8 c] m (.bool (decide (digP c))):=by
  refine Gives_in Tryz.func69 rfl Tryz.ntmps69 Tryz.results69 (by kernel_rfl) (by simp) rfl fun Q hQ=>?_
  (repeat'(first|(refine sx ?_ ?_<;>intro h<;>first|(exfalso;omega)|skip)|refine ny ?_|refine WA_block ?_))
  all_goals((refine r_es hQ ?_;try with_reducible rfl);unfold digP)
  all_goals(first|exact congrArg V.bool (decide_eq_true (by first|omega|simp_all)).symm|exact congrArg V.bool (decide_eq_false (by first|omega|simp_all)).symm|exact congrArg V.bool (decide_eq_decide.2 (by omega)))

theorem bisname_c (s:List UInt8) (m:Mem):Gives Tryz.prog 35 [.str s] m (.bool (decide (nameP s))):=by
  rcases Nat.eq_zero_or_pos s.length with hz|hz
  · have hgi:=hz
    refine Gives_in Tryz.func35 rfl Tryz.ntmps35 Tryz.results35 (by kernel_rfl) (by simp) rfl fun Q hQ=>?_
    (have FX:=hgi;repeat'(first|(refine sx ?_ ?_<;>intro h<;>first|(exfalso;omega)|skip)|(refine g_op ?_;refine g_call ?_;refine g_args ?_;(first|refine s_fn (bisletter_c _ _) ?_|refine s_fn (bisdigit_c _ _) ?_)<;>try first|omega|assumption)|refine ny ?_|refine WA_block ?_))
    all_goals(try(exfalso;omega))
    all_goals((refine r_es hQ ?_;try with_reducible rfl))
    all_goals(exact congrArg V.bool (decide_eq_false (fun h=>by have:=h.1;omega)).symm)
  · have hgi:s[0]?=some (s.getD 0 0):=byt_get hz
    have hbd:byt s 0=((s.getD 0 0).toNat:Int):=rfl
    have hn0:nameP s→letP ((s.getD 0 0).toNat:Int):=fun hn=>by
      rcases hn.2.2 0 hz with h2|h2
      · exact h2
      · exact absurd rfl h2.1
    refine Gives_in Tryz.func35 rfl Tryz.ntmps35 Tryz.results35 (by kernel_rfl) (by simp) rfl fun Q hQ=>?_
    (have FX:=hgi;repeat'(first|(refine sx ?_ ?_<;>intro h<;>first|(exfalso;omega)|skip)|(refine g_op ?_;refine g_call ?_;refine g_args ?_;(first|refine s_fn (bisletter_c _ _) ?_|refine s_fn (bisdigit_c _ _) ?_)<;>try first|omega|assumption)|refine ny ?_|refine WA_block ?_))
    all_goals try
      ((refine r_es hQ ?_;try with_reducible rfl)
       exact congrArg V.bool (decide_eq_false (fun hn=>by first|(have h1:=hn.2.1;omega)|exact absurd (hn0 hn) (by assumption))).symm)
    have h0:letP ((s.getD 0 0).toNat:Int):=by assumption
    have h12:s.length≤12:=by omega
    refine WA_while (σ:=Nat) [0,2,3] (fun i=>[.str s,.bool false,.int .i64 i]) (fun _=>lend m++[]) (fun i=>i≤s.length∧∀ j,j<i→okC s j) (fun i=>s.length - i) 0 ⟨Nat.zero_le _,fun j h=>absurd h (Nat.not_lt_zero _)⟩ tv_ rfl ?_
    rintro i ⟨hi,hj⟩ L hL
    simp only [zipT]
    clear FX hgi
    rcases Nat.lt_or_ge i s.length with hlt|hge
    · have hgi:=byt_get hlt
      have hbi:byt s i=((s.getD i 0).toNat:Int):=rfl
      have hok:okC s i↔(letP ((s.getD i 0).toNat:Int)∨(i≠0∧(digP ((s.getD i 0).toNat:Int)∨((s.getD i 0).toNat:Int)=45))):=Iff.rfl
      have hz0:i=0→letP ((s.getD i 0).toNat:Int):=fun h=>by subst h;exact h0
      (have FX:=hgi;repeat'(first|(refine sx ?_ ?_<;>intro h<;>first|(exfalso;omega)|skip)|(refine g_op ?_;refine g_call ?_;refine g_args ?_;(first|refine s_fn (bisletter_c _ _) ?_|refine s_fn (bisdigit_c _ _) ?_)<;>try first|omega|assumption)|refine ny ?_|refine WA_block ?_))
      all_goals(try(exfalso;omega))
      all_goals try
        ((refine r_es hQ ?_;try with_reducible rfl)
         exact congrArg V.bool (nameP_bad hlt (fun h=>by have:=hok.1 h;grind)).symm)
      all_goals(refine next_ hL (i+1) ⟨by omega,fun j h=>?_⟩ (by omega))
      all_goals(rcases Nat.lt_or_ge j i with h2|h2)
      all_goals first
        |exact hj j h2
        | (obtain rfl:j=i:=by omega
           exact hok.2 (by grind))
    · have e:i=s.length:=by omega
      subst e
      have hgi:=hbd
      (have FX:=hgi;repeat'(first|(refine sx ?_ ?_<;>intro h<;>first|(exfalso;omega)|skip)|(refine g_op ?_;refine g_call ?_;refine g_args ?_;(first|refine s_fn (bisletter_c _ _) ?_|refine s_fn (bisdigit_c _ _) ?_)<;>try first|omega|assumption)|refine ny ?_|refine WA_block ?_))
      all_goals(try(exfalso;omega))
      all_goals((refine r_es hQ ?_;try with_reducible rfl))
      all_goals(exact congrArg V.bool (decide_eq_true ⟨hz,h12,hj⟩).symm)
end Go.Proofs.YtomkbpoicjabfaaGreatDoor
namespace Go.Proofs.YtomkbpoicjabfaaGreatDoor
open Go.RowKit
abbrev Txt:=List UInt8
def nsV(l:List Int):List (List V):=l.map fun n=>[V.int .i64 n]
theorem lst_get{α:Type}{l:List α}{d:α}{i:Nat}(h:i<l.length):l[i]?=some (l.getD i d):=by
  rw [List.getD_eq_getElem?_getD,List.getElem?_eq_getElem h];rfl
theorem nsV_length{l:List Int}:(nsV l).length=l.length:=by simp [nsV]
theorem nsV_get{l:List Int}{i:Nat}(h:i<l.length):(nsV l)[i]?=some [V.int .i64 (l.getD i 0)]:=by
  unfold nsV;rw [List.getElem?_map,lst_get (d:=0) h];rfl
theorem nsV_all{l:List Int}{n:Nat}(h:n=1):(nsV l).all (fun e=>e.length==n)=true:=by subst h;simp [nsV]
theorem plainLL_of{es:List (List V)}(h:∀ e∈es,plainL e=true):plainLL es=true:=by
  induction es with
  |nil=>rfl
  |cons x xs ih=>simp only [plainLL,Bool.and_eq_true];exact⟨h x List.mem_cons_self,ih fun e he=>h e (List.mem_cons_of_mem _ he)⟩
theorem nsV_plain(l:List Int):plainLL (nsV l)=true:=plainLL_of fun e he=>by obtain⟨x,_,rfl⟩:=List.mem_map.1 he;rfl

/-- a contract of the kit's kind, that reads package variables -/
theorem Gives_of_callsG{P:Program}{f:FuncId}{args:List V}{v:V}{m:Mem}(hg:isGo P f=true)(ha:detL args=true)(hv:v.det=true)(h:∀ w,(∃ ρ B,GlobOk w ρ B)→Calls P f (args.map V.real).toArray w fun e w'=>e= .returned v.real∧Below w.heap.size w w'):Gives P f args m v:=by
  refine⟨hg,fun w ρ xs hM hA=>?_⟩
  have hx:xs=(args.map V.real).toArray:=by
    apply Array.ext
    · simp;exact hA.1.symm
    · intro i h1 h2
      have hi:i<args.length:=by rw [hA.1];exact h1
      have e1:args[i]?=some args[i]:=List.getElem?_eq_getElem hi
      have hd:=detL_mem ha _ (List.getElem_mem hi)
      have:=det_eq (real_rel (w:=w) (ρ:=ρ) (B:=bad m ρ) hd) hd (hA.2 i _ _ e1 (Array.getElem?_eq_getElem h1))
      rw [this];simp
  subst hx
  refine(h w ⟨ρ,_,hM.glob⟩).mono ?_
  rintro e w' ⟨rfl,hb⟩
  exact⟨v,none,_,rfl,⟨rfl,rfl⟩,.inl ⟨rfl,hb,real_rel hv⟩⟩
theorem Gives_ofX{P:Program}{f:FuncId}{vs:List V}{m:Mem}{v':V}{R:V→Option Mem→Prop}(h:CallA P f vs m R)(hR:∀ v mo,R v mo→mo=none∧WkV v v'):Gives P f vs m v':=by
  refine⟨h.1,fun w ρ xs hM hA=>(h.2 w ρ xs hM hA).mono ?_⟩
  rintro e w' ⟨v,mo,x,rfl,h1,h2⟩
  obtain⟨rfl,hw⟩:=hR v mo h1
  rcases h2 with ⟨_,hb,rv⟩|⟨m',ρ',e,_⟩
  · exact⟨v',none,x,rfl,⟨rfl,rfl⟩,.inl ⟨rfl,hb,hw _ _ _ _ rv⟩⟩
  · cases e
/-- the table of the powers of ten -/
theorem tab_ok{w:World}{ρ:List Re}{B:Nat→Prop}(h:GlobOk w ρ B):Lib.TabIs Tryz.prog w "internal/strconv.uint64pow10" .u64 Lib.pow10Tab:=by
  have h0:=h 3
  have e:gval 3= .tab (Lib.pow10Tab.map fun z=>Value.int .u64 z):=rfl
  rw [e] at h0
  cases h0 with
  | tab _ _ ty o hb hB hh=>
    unfold Lib.TabIs World.var?
    have hn:Tryz.prog.globalNamed "internal/strconv.uint64pow10" =some 3:=by kernel_rfl
    rw [hn]
    simp only [Option.bind_some,hh]
/-- the sentinels hold an interface value -/
theorem err_ok{w:World}{ρ:List Re}{B:Nat→Prop}(h:GlobOk w ρ B){g:Nat}(hg:gval g= .bp [.ifv] 0):∃ t p,w.cell? ⟨g,0,none⟩=some (.iface t p):=by
  have h0:=h g
  rw [hg] at h0
  generalize hx:(Value.pointer (some ⟨g,0,none⟩))=x at h0
  cases h0 with
  | bp cs o b off Y hb hB hY hV hO=>
    simp only [Value.pointer.injEq,Option.some.injEq,Addr.mk.injEq] at hx
    obtain⟨rfl,hoff,_⟩:=hx
    have h1:=hY 0 .ifv rfl
    have h2:=hV 0 .ifv rfl
    generalize Y 0=y at *
    cases h2 with
    |ifv t p=>exact⟨t,p,by rw [show off=0 by omega] at h1;exact h1⟩
theorem max_ok{w:World}{ρ:List Re}{B:Nat→Prop}(h:GlobOk w ρ B){g:Nat}(hg:gval g= .bp [.anyi .i64] 0):∃ n,w.cell? ⟨g,0,none⟩=some (.int .i64 n):=by
  have h0:=h g
  rw [hg] at h0
  generalize hx:(Value.pointer (some ⟨g,0,none⟩))=x at h0
  cases h0 with
  | bp cs o b off Y hb hB hY hV hO=>
    simp only [Value.pointer.injEq,Option.some.injEq,Addr.mk.injEq] at hx
    obtain⟨rfl,hoff,_⟩:=hx
    have h1:=hY 0 (.anyi .i64) rfl
    have h2:=hV 0 (.anyi .i64) rfl
    generalize Y 0=y at *
    cases h2 with
    |anyi _ n=>exact⟨n,by rw [show off=0 by omega] at h1;exact h1⟩
theorem xitoa_c(n:Int)(h0: -9223372036854775808≤n)(h1:n≤9223372036854775807)(m:Mem):Gives Tryz.prog 63 [.int .i64 n] m (.str (Lib.itoa n)):=by
  refine Gives_of_callsG (by kernel_rfl) rfl rfl fun w ⟨ρ,B,hg⟩=>?_
  refine(Tryz.strconv_Itoa n h0 h1 w (tab_ok hg)).mono ?_
  rintro e w' ⟨rfl,k,os,rfl⟩
  exact⟨rfl,Lib.below_grow _ _ (Nat.le_refl _) k os⟩
theorem xtrim_c(s p:Txt)(m:Mem):Gives Tryz.prog 99 [.str s,.str p] m (.str (Lib.trimPrefix s p)):=by
  refine Gives_of_callsG (by kernel_rfl) rfl rfl fun w _=>?_
  refine(Tryz.strings_TrimPrefix ⟨s.toArray⟩ ⟨p.toArray⟩ w).mono ?_
  rintro e w' ⟨rfl,rfl⟩
  exact⟨by simp [V.real],Below.refl _ _⟩
theorem xcut_c(s p:Txt)(hs:s.length≤1000000)(m:Mem):Gives Tryz.prog 23 [.str s,.str p] m (.tup [.str (Lib.trimSuffix s p),.bool (Lib.hasSuffix s p)]):=by
  refine Gives_of_callsG (by kernel_rfl) rfl rfl fun w _=>?_
  refine(Tryz.strings_CutSuffix ⟨s.toArray⟩ ⟨p.toArray⟩ w (by show s.toArray.size≤_;simp;omega)).mono ?_
  rintro e w' ⟨rfl,rfl⟩
  exact⟨by simp [V.real,realL],Below.refl _ _⟩
theorem xindex_c(s:Txt)(c:UInt8)(m:Mem):Gives Tryz.prog 55 [.str s,.int .u8 c.toNat] m (.int .i64 (Lib.indexByte s c)):=by
  refine Gives_of_callsG (by kernel_rfl) rfl rfl fun w _=>?_
  refine(Tryz.strings_IndexByte ⟨s.toArray⟩ c.toNat w).mono ?_
  rintro e w' ⟨rfl,rfl⟩
  exact⟨by simp [V.real],Below.refl _ _⟩
/-- what Atoi says of a text -/
theorem xatoi_ok(s:Txt)(v:Int)(hs:s.length≤1000000)(h:Lib.atoiAll s= .ok v)(m:Mem):Gives Tryz.prog 98 [.str s] m (.tup [.int .i64 v,.nilif]):=by
  refine Gives_of_callsG (by kernel_rfl) rfl rfl fun w _=>?_
  refine(Tryz.strconv_Atoi_ok ⟨s.toArray⟩ (by show s.toArray.size≤_;simp;omega) v (by simpa using h) w).mono ?_
  rintro e w' ⟨rfl,hw⟩
  refine⟨by simp [V.real,realL],?_⟩
  rcases hw with rfl|⟨t,rfl⟩
  · exact Below.refl _ _
  · exact Lib.bytesWorld_below _ _ _
theorem xatoi_bad (s:Txt) (hs:s.length≤1000000) (h:∀ v,Lib.atoiAll s≠ .ok v) (m:Mem):CallA Tryz.prog 98 [.str s] m fun v mo=>mo=none∧∃ n,v= .tup [.int .i64 n,.ifv]:=by
  refine⟨by kernel_rfl,fun w ρ xs hM hA=>?_⟩
  have hx:xs= #[.string ⟨s.toArray⟩]:=by
    apply Array.ext
    · simpa using hA.1.symm
    · intro i h1 h2
      have hi:i=0:=by simp at h2;omega
      subst hi
      have:=hA.2 0 _ _ rfl (Array.getElem?_eq_getElem h1)
      generalize xs[0]=y at *
      cases this with
      | str _ b hb=>
        obtain⟨⟨l⟩⟩:=b
        simp at hb
        subst hb
        simp
  subst hx
  have hsz:(⟨s.toArray⟩:ByteArray).size≤281474976710656:=by show s.toArray.size≤_;simp;omega
  cases ha:Lib.atoiAll s
  · rename_i v
    exact absurd ha (h v)
  · obtain⟨t,p,he⟩:=err_ok hM.glob (g:=1) rfl
    refine(Tryz.strconv_Atoi_syntax ⟨s.toArray⟩ hsz (by rw [show(⟨s.toArray⟩:ByteArray).data.toList=s by simp];exact ha) _ w he (.inr ⟨t,p,rfl⟩)).mono ?_
    rintro e w' ⟨N,rfl,_,_,hb⟩
    refine⟨.tup [.int .i64 0,.ifv],none,_,rfl,⟨rfl,_,rfl⟩,.inl ⟨rfl,hb,.tup _ _ rfl fun i c x h1 h2=>?_⟩⟩
    rcases i with _|_|i
    · simp at h1 h2;subst h1;subst h2;exact .int _ _
    · simp at h1 h2;subst h1;subst h2;exact .ifv _ _
    · simp at h1
  · obtain⟨t,p,he⟩:=err_ok hM.glob (g:=2) rfl
    refine(Tryz.strconv_Atoi_range ⟨s.toArray⟩ hsz (by simpa using ha) _ w he (.inr ⟨t,p,rfl⟩)).mono ?_
    rintro e w' ⟨N,rfl,_,_,hb⟩
    refine⟨.tup [.int .i64 (Lib.atoiSat (⟨s.toArray⟩:ByteArray).data.toList),.ifv],none,_,rfl,⟨rfl,_,rfl⟩,.inl ⟨rfl,hb,.tup _ _ rfl fun i c x h1 h2=>?_⟩⟩
    rcases i with _|_|i
    · simp at h1 h2;subst h1;subst h2;exact .int _ _
    · simp at h1 h2;subst h1;subst h2;exact .ifv _ _
    · simp at h1
end Go.Proofs.YtomkbpoicjabfaaGreatDoor
