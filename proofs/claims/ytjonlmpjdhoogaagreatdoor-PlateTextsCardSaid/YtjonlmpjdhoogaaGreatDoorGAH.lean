import Derived.Test.YtjonlmpjdhoogaaGreatDoorGAG
import Derived.Test.YtjonlmpjdhoogaaGreatDoorG8
import Derived.Test.YtjonlmpjdhoogaaGreatDoorYC
import Derived.Test.YtjonlmpjdhoogaaGreatDoorGAC
import Derived.Test.YtjonlmpjdhoogaaGreatDoorX3
import Derived.Test.YtjonlmpjdhoogaaGreatDoorGAA
import Derived.Test.YtjonlmpjdhoogaaGreatDoorGAB
import Derived.Lib.AppendZeros
import Derived.Lib.Walk
set_option linter.unusedSimpArgs false
set_option linter.unusedVariables false
namespace Go.Proofs.YtjonlmpjdhoogaaGreatDoor
open Go.RowKit
attribute [local irreducible] WA WOs WDs WAn qThen qBlock tput
set_option maxHeartbeats 1000000
set_option maxRecDepth 20000
set_option linter.unusedSimpArgs false
set_option linter.unusedVariables false
/-- a force at a place -/
structure Pl where
  a:Int
  b:Int
  c:Int
  x:Int
  y:Int
  z:Int
  deriving DecidableEq
theorem Pl.ext'{p q:Pl}(h1:p.a=q.a)(h2:p.b=q.b)(h3:p.c=q.c)(h4:p.x=q.x)(h5:p.y=q.y)(h6:p.z=q.z):p=q:=by
  cases p;cases q;simp_all
def plV(p:Pl):List V:=[.int .i64 p.a,.int .i64 p.b,.int .i64 p.c,.int .i64 p.x,.int .i64 p.y,.int .i64 p.z]
def plsV(l:List Pl):List (List V):=l.map plV
theorem plsV_get{l:List Pl}{i:Nat}(h:i<l.length):(plsV l)[i]?=some [.int .i64 l[i].a,.int .i64 l[i].b,.int .i64 l[i].c,.int .i64 l[i].x,.int .i64 l[i].y,.int .i64 l[i].z]:=by simp [plsV,plV,h]
theorem plsV_length{l:List Pl}:(plsV l).length=l.length:=by simp [plsV]
theorem plsV_all(l:List Pl):((plsV l).all fun e=>e.length==6)=true:=by simp [plsV,plV]
theorem plsV_plain:∀ l:List Pl,plainLL (plsV l)=true
  |[]=>rfl
  | p::l=>by
    have:=plsV_plain l
    simpa [plsV,plV,plainLL,plainL,V.plain] using this
def Bil(a b c:Int):Prop:=(-1000000000≤a∧a≤1000000000)∧(-1000000000≤b∧b≤1000000000)∧(-1000000000≤c∧c≤1000000000)
def plOk(p:Pl):Prop:=Plc p.a p.b p.c∧Bil p.x p.y p.z
instance(p:Pl):Decidable (plOk p):=by unfold plOk Plc Bil;exact inferInstance
def frcErr(l:List Pl):Int:=if 300<l.length then 8 else if ∀ p∈l,plOk p then 0 else 2
theorem frcErr_ok{l:List Pl}(h:frcErr l=0):l.length≤300∧∀ p∈l,plOk p:=by
  unfold frcErr at h
  split at h
  · simp at h
  · split at h
    · exact⟨by omega,by assumption⟩
    · simp at h
theorem pcheckf_c(l:List Pl)(m:Mem):Gives Tryz.prog 17 [.lst (plsV l)] m (.int .i64 (frcErr l)):=by
  have hlen:=plsV_length (l:=l)
  have hget:=hlen
  unfold frcErr
  by_cases hb:300<l.length
  · rw [if_pos hb]
    refine Gives_in Tryz.func17 rfl Tryz.ntmps17 Tryz.results17 (by kernel_rfl) (by simp) rfl fun Q hQ=>?_
    (have FX:=And.intro hlen hget;repeat'(first|(refine sx ?_ ?_<;>intro h<;>first|(exfalso;omega)|skip)|(refine g_op ?_;refine g_call ?_;refine g_args ?_;(first|refine s_fn (all_c _ _ _ _ ?_ ?_ _) ?_)<;>try first|omega|assumption)|refine ny ?_|refine WA_block ?_))
    all_goals(refine r_es hQ ?_;try with_reducible rfl)
  rw [if_neg hb]
  generalize hE:(if ∀ p∈l,plOk p then (0:Int) else 2)=E
  refine Gives_in Tryz.func17 rfl Tryz.ntmps17 Tryz.results17 (by kernel_rfl) (by simp) rfl fun Q hQ=>?_
  (have FX:=And.intro hlen hget;repeat'(first|(refine sx ?_ ?_<;>intro h<;>first|(exfalso;omega)|skip)|(refine g_op ?_;refine g_call ?_;refine g_args ?_;(first|refine s_fn (all_c _ _ _ _ ?_ ?_ _) ?_)<;>try first|omega|assumption)|refine ny ?_|refine WA_block ?_))
  refine WA_whileL (σ:=Nat) (L:=m) [8,9,10] (fun i=>[.lst (plsV l),.int .i64 l.length,.int .i64 i]) (fun _=>[]) 0 (fun i=>i≤l.length∧∀ j (h:j<l.length),j<i→plOk l[j]) (fun i=>l.length - i) 0 ⟨Nat.zero_le _,fun j h1 h2=>absurd h2 (Nat.not_lt_zero _)⟩ tv_ rfl (fun _=>rfl) ?_ (fun _=>rfl) ?_
  · intro s v hv
    simp only [List.mem_cons,List.not_mem_nil,or_false] at hv
    rcases hv with rfl|rfl|rfl
    all_goals first|rfl|exact plsV_plain l
  rintro i ⟨hi1,hi2⟩ K2 hL
  rcases Nat.lt_or_ge i l.length with hi'|hi'
  · have hget:=plsV_get hi'
    simp only [zipT]
    clear FX
    (have FX:=And.intro hlen hget;repeat'(first|(refine sx ?_ ?_<;>intro h<;>first|(exfalso;omega)|skip)|(refine g_op ?_;refine g_call ?_;refine g_args ?_;(first|refine s_fn (all_c _ _ _ _ ?_ ?_ _) ?_)<;>try first|omega|assumption)|refine ny ?_|refine WA_block ?_))
    all_goals first
      |((refine r_es hQ ?_;try with_reducible rfl);rw [←hE,if_neg];intro h0;have h1:=h0 _ (List.getElem_mem hi');unfold plOk Plc Bil at h1;omega)
      |(refine nextL_ hL (i+1) ⟨hi',fun j h1 h2=>?_⟩ (by omega);rcases Nat.lt_or_ge j i with q|q;exact hi2 j h1 q;(have:j=i:=by omega);subst this;unfold plOk Plc Bil;omega)
  · simp only [zipT]
    clear FX
    (have FX:=And.intro hlen hget;repeat'(first|(refine sx ?_ ?_<;>intro h<;>first|(exfalso;omega)|skip)|(refine g_op ?_;refine g_call ?_;refine g_args ?_;(first|refine s_fn (all_c _ _ _ _ ?_ ?_ _) ?_)<;>try first|omega|assumption)|refine ny ?_|refine WA_block ?_))
    (refine r_es hQ ?_;try with_reducible rfl)
    rw [←hE,if_pos]
    intro p hp
    obtain⟨j,hj,rfl⟩:=List.getElem_of_mem hp
    exact hi2 j hj (by omega)

theorem rcheckf_c(l:List Pl)(hl:l.length≤1000000)(m:Mem):Gives Tryz.prog 8 [.lst (plsV l)] m (.int .i64 (frcErr l)):=by
  have hlen:=plsV_length (l:=l)
  have hget:=hlen
  unfold frcErr
  by_cases hb:300<l.length
  · rw [if_pos hb]
    refine Gives_in Tryz.func8 rfl Tryz.ntmps8 Tryz.results8 (by kernel_rfl) (by simp) rfl fun Q hQ=>?_
    (have FX:=And.intro hlen hget;repeat'(first|(refine sx ?_ ?_<;>intro h<;>first|(exfalso;omega)|skip)|(refine g_op ?_;refine g_call ?_;refine g_args ?_;(first|refine s_fn (isplace_c _ _ _ _) ?_|refine s_fn (size_c _ _ _ _ ?_ ?_ _) ?_)<;>try first|omega|assumption)|refine ny ?_|refine WA_block ?_))
    all_goals(refine r_es hQ ?_;try with_reducible rfl)
  rw [if_neg hb]
  generalize hE:(if ∀ p∈l,plOk p then (0:Int) else 2)=E
  refine Gives_in Tryz.func8 rfl Tryz.ntmps8 Tryz.results8 (by kernel_rfl) (by simp) rfl fun Q hQ=>?_
  (have FX:=And.intro hlen hget;repeat'(first|(refine sx ?_ ?_<;>intro h<;>first|(exfalso;omega)|skip)|(refine g_op ?_;refine g_call ?_;refine g_args ?_;(first|refine s_fn (isplace_c _ _ _ _) ?_|refine s_fn (size_c _ _ _ _ ?_ ?_ _) ?_)<;>try first|omega|assumption)|refine ny ?_|refine WA_block ?_))
  refine WA_while (σ:=Nat) [0,3] (fun i=>[.lst (plsV l),.int .i64 i]) (fun _=>lend m++[]) (fun i=>i≤l.length∧∀ j (h:j<l.length),j<i→plOk l[j]) (fun i=>l.length - i) 0 ⟨Nat.zero_le _,fun j h1 h2=>absurd h2 (Nat.not_lt_zero _)⟩ tv_ rfl ?_
  rintro i ⟨hi1,hi2⟩ K2 hL
  rcases Nat.lt_or_ge i l.length with hi'|hi'
  · have hget:=plsV_get hi'
    simp only [zipT]
    clear FX
    (have FX:=And.intro hlen hget;repeat'(first|(refine sx ?_ ?_<;>intro h<;>first|(exfalso;omega)|skip)|(refine g_op ?_;refine g_call ?_;refine g_args ?_;(first|refine s_fn (isplace_c _ _ _ _) ?_|refine s_fn (size_c _ _ _ _ ?_ ?_ _) ?_)<;>try first|omega|assumption)|refine ny ?_|refine WA_block ?_))
    all_goals first
      |((refine r_es hQ ?_;try with_reducible rfl);rw [←hE,if_neg];intro h0;have h1:=h0 _ (List.getElem_mem hi');unfold plOk Plc Bil at h1;omega)
      |(refine next_ hL (i+1) ⟨hi',fun j h1 h2=>?_⟩ (by omega);rcases Nat.lt_or_ge j i with q|q;exact hi2 j h1 q;(have:j=i:=by omega);subst this;unfold plOk Plc Bil;omega)
  · simp only [zipT]
    clear FX
    (have FX:=And.intro hlen hget;repeat'(first|(refine sx ?_ ?_<;>intro h<;>first|(exfalso;omega)|skip)|(refine g_op ?_;refine g_call ?_;refine g_args ?_;(first|refine s_fn (isplace_c _ _ _ _) ?_|refine s_fn (size_c _ _ _ _ ?_ ?_ _) ?_)<;>try first|omega|assumption)|refine ny ?_|refine WA_block ?_))
    (refine r_es hQ ?_;try with_reducible rfl)
    rw [←hE,if_pos]
    intro p hp
    obtain⟨j,hj,rfl⟩:=List.getElem_of_mem hp
    exact hi2 j hj (by omega)

def Sml(n a b c:Int):Prop:=(-n≤a∧a≤n)∧(-n≤b∧b≤n)∧(-n≤c∧c≤n)
end Go.Proofs.YtjonlmpjdhoogaaGreatDoor
namespace Go.Proofs.YtjonlmpjdhoogaaGreatDoor
open Go.RowKit
attribute [local irreducible] WA WOs WDs WAn qThen qBlock tput
set_option maxHeartbeats 1000000
set_option maxRecDepth 20000
set_option linter.unusedSimpArgs false
set_option linter.unusedVariables false
set_option maxHeartbeats 4000000
def forceT:Txt:=[102,111,114,99,101]
/-- a force that a line tells -/
def lineF(s:Txt):Option Pl:=match cutP 32 s with
  |o::w=>if o=forceT∧w.length=6 then (numsP 10 w).map fun n=>⟨n.getD 0 0,n.getD 1 0,n.getD 2 0,n.getD 3 0,n.getD 4 0,n.getD 5 0⟩ else none
  |[]=>none
/-- forces and rows more, the last of them empty; or the number of the row that is wrong -/
def rowsF:List Pl→List Txt→Except Nat (List Pl)
  |l,[]=> .ok l
  |l,[r]=>if r=[] then .ok l else .error (l.length+1)
  | l,r::q::rs=>match lineF r with
    |some p=>rowsF (l++[p]) (q::rs)
    |none=> .error (l.length+1)
theorem ln_cut:∀ {s:Txt},s≠[]→(∃ p,ln1 s=p++[10]∧(∀ c∈p,c≠10)∧cutP 10 s=p::cutP 10 (lnR s))∨(ln1 s=s∧lnR s=[]∧(∀ c∈s,c≠10)∧cutP 10 s=[s])
  |[],h=>absurd rfl h
  | b ::l,_=>by
    by_cases hb:b=10
    · subst hb
      exact .inl ⟨[],by simp [ln1],(fun c hc=>by cases hc),by simp [cutP,lnR]⟩
    · by_cases hl:l=[]
      · subst hl
        exact .inr ⟨by simp [ln1,hb],by simp [lnR,hb],by simpa using hb,by simp [cutP,hb]⟩
      · rcases ln_cut hl with ⟨p,h1,h2,h3⟩|⟨h1,h2,h3,h4⟩
        · refine .inl ⟨b::p,by simp [ln1,hb,h1],?_,by simp [cutP,lnR,hb,h3]⟩
          intro c hc
          rcases List.mem_cons.1 hc with rfl|hc
          · exact hb
          · exact h2 c hc
        · refine .inr ⟨by simp [ln1,hb,h1],by simp [lnR,hb,h2],?_,by simp [cutP,hb,h4]⟩
          intro c hc
          rcases List.mem_cons.1 hc with rfl|hc
          · exact hb
          · exact h3 c hc
theorem rowsF_cut{b:List Pl}{p s:Txt}:rowsF b (p::cutP 10 s)=match lineF p with
    |some x=>rowsF (b++[x]) (cutP 10 s)
    |none=> .error (b.length+1):=by
  rcases h:cutP 10 s with _|⟨q,rs⟩
  · exact absurd h (cutP_ne 10 s)
  · rfl
theorem rowsF_one{b:List Pl}{s:Txt}(h:s≠[]):rowsF b [s]= .error (b.length+1):=by
  simp only [rowsF,if_neg h]
theorem cutP_sub {c:UInt8}:∀ {s p:Txt},p∈cutP c s→p.length≤s.length
  | [],p,h=>by
    obtain rfl:=List.mem_singleton.1 h
    exact Nat.le_refl _
  | b ::l,p,h=>by
    have ih:=fun p=>cutP_sub (c:=c) (s:=l) (p:=p)
    unfold cutP at h
    rw [List.length_cons]
    split at h
    · rcases List.mem_cons.1 h with rfl|h
      · exact Nat.zero_le _
      · have:=ih p h;omega
    · split at h
      · rename_i q r hq
        rw [hq] at ih
        rcases List.mem_cons.1 h with rfl|h
        · have:=ih q List.mem_cons_self
          rw [List.length_cons];omega
        · have:=ih p (List.mem_cons_of_mem _ h);omega
      · obtain rfl:=List.mem_singleton.1 h
        show 1≤_;omega
theorem suf_yes(p:Txt):Lib.hasSuffix (p++[10]) [10]=true∧Lib.trimSuffix (p++[10]) [10]=p:=by
  have h:Lib.hasSuffix (p++[10]) [10]=true:=by
    unfold Lib.hasSuffix
    rw [List.isSuffixOf_iff_suffix]
    exact List.suffix_append _ _
  refine⟨h,?_⟩
  unfold Lib.trimSuffix
  rw [if_pos h]
  simp
theorem suf_no{s:Txt}(h:∀ c∈s,c≠10):Lib.hasSuffix s [10]=false:=by
  cases hh:Lib.hasSuffix s [10] with
  |false=>rfl
  | true=>
    unfold Lib.hasSuffix at hh
    rw [List.isSuffixOf_iff_suffix] at hh
    obtain⟨t,rfl⟩:=hh
    exact absurd rfl (h 10 (by simp))
theorem drop_1{ws:List Txt}{k:Nat}(h:k<ws.length):ws.drop k=ws.getD k []::ws.drop (k+1):=by
  rw [List.drop_eq_getElem_cons h,List.getD_eq_getElem?_getD,List.getElem?_eq_getElem h];rfl
theorem ln1_le:∀ s:Txt,(ln1 s).length≤s.length
  |[]=>Nat.le_refl _
  | b::l=>by
    have:=ln1_le l
    unfold ln1
    split
    · simp
    · simp only [List.length_cons];omega
/-- what Parse tells of a text -/
def prsF(s:Txt):List Pl×Int×Int:=if 60000<s.length then ([],0,8) else match rowsF [] (cutP 10 s) with
  | .error k=>([],k,7)
  | .ok l=>if frcErr l=0 then (l,0,0) else ([],0,frcErr l)
def pfV(p:List Pl×Int×Int):V:= .tup [.lst (plsV p.1),.int .i64 p.2.1,.int .i64 p.2.2]
theorem plsV_snoc(l:List Pl)(p:Pl):plsV (l++[p])=plsV l++[plV p]:=by simp [plsV]
theorem lineF_none{s o:Txt}{w:List Txt}(hc:cutP 32 s=o::w)(h:¬ (o=forceT∧w.length=6)):lineF s=none:=by
  unfold lineF;rw [hc];exact if_neg h
theorem lineF_num{s o:Txt}{w:List Txt}(hc:cutP 32 s=o::w)(h:numsP 10 w=none):lineF s=none:=by
  unfold lineF;rw [hc];dsimp only;rw [h];split<;>rfl
theorem lineF_some{s:Txt}{w:List Txt}{a b c x y z:Int}(hc:cutP 32 s=forceT::w)(h:numsP 10 w=some [a,b,c,x,y,z]):lineF s=some ⟨a,b,c,x,y,z⟩:=by
  have hl:w.length=6:=(numsP_len h).symm
  unfold lineF;rw [hc];dsimp only;rw [if_pos ⟨rfl,hl⟩,h];rfl
theorem rows_step{rows:List Txt}{i:Nat}{b:List Pl}(h:i+1<rows.length):rowsF b (rows.drop i)=match lineF (rows.getD i []) with
    |some p=>rowsF (b++[p]) (rows.drop (i+1))
    |none=> .error (b.length+1):=by
  rw [drop_1 (k:=i) (by omega),drop_1 (k:=i+1) h]
  rfl
theorem rows_last{rows:List Txt}{i:Nat}{b:List Pl}(h:i+1=rows.length):rowsF b (rows.drop i)=if rows.getD i []=[] then .ok b else .error (b.length+1):=by
  rw [drop_1 (k:=i) (by omega),List.drop_eq_nil_of_le (by omega)]
  rfl
end Go.Proofs.YtjonlmpjdhoogaaGreatDoor
namespace Go.Proofs.YtjonlmpjdhoogaaGreatDoor
open Go.RowKit
attribute [local irreducible] WA WOs WDs WAn qThen qBlock tput
set_option maxHeartbeats 1000000
set_option maxRecDepth 20000
set_option linter.unusedSimpArgs false
set_option linter.unusedVariables false
theorem frzs_cons{f:V→Option V}{v v':V}{r r':List V}(h1:f v=some v')(h2:frzs f r=some r'):frzs f (v::r)=some (v'::r'):=by simp only [frzs,h1,h2]
theorem frz_ls{m:Mem}{L n:Nat}{es:List (List V)}(h:plainLL es=true):frz m L n (.lst es)=some (.lst es):=frz_plain _ _ _ (by simpa [V.plain] using h) (by simp) (by simp) (by simp) (by simp)
theorem wk_nl(es:List (List V))(h:es=[]):WkV .nilsl (.lst es):=by subst h;exact wk_nil
theorem plsV_frz(b:Nat)(es:List (List V))(l:List Pl):(plsV l).map (List.map (frzV b es))=plsV l:=by
  simp [plsV,plV,frzV]
theorem Gives_argX{P:Program}{f:FuncId}{vs vs':List V}{m:Mem}{v:V}(hw:WkL vs vs')(h:Gives P f vs' m v):Gives P f vs m v:=by
  obtain⟨h1,h2⟩:=WkL_get hw
  refine⟨h.1,fun w ρ xs hM hA=>h.2 w ρ xs hM ⟨h1.trans hA.1,fun i c x e1 e2=>?_⟩⟩
  obtain⟨u,g1,g2⟩:=h2 i c e1
  exact g2 _ _ _ _ (hA.2 i u x g1 e2)
theorem fin_pr1{m0 D X B:Mem}{v1 u1:V}{a c:Int}{R:V→Option Mem→Prop}(hB:B=lend m0++D)(h1:frz (B++X) m0.length 3 v1=some u1)(h:R (.tup [u1,.int .i64 a,.int .i64 c]) none):Fin m0 R (.tup [v1,.int .i64 a,.int .i64 c]) (B++X):=by
  refine .inr ⟨D++X,_,by rw [hB,List.append_assoc],?_,h⟩
  show(frzs (frz _ _ 3) [_,_,_]).map V.tup=_
  rw [frzs_cons h1 (frzs_cons (frz_int _ _ _ _ _) (frzs_cons (frz_int _ _ _ _ _) rfl))]
  rfl
theorem prsF_nil(s:Txt):(prsF s).1=[]∨∃ l,rowsF [] (cutP 10 s)= .ok l∧(prsF s).1=l∧frcErr l=0:=by
  unfold prsF
  split
  · exact .inl rfl
  · split
    · exact .inl rfl
    · rename_i l h
      split
      · exact .inr ⟨l,h,rfl,by assumption⟩
      · exact .inl rfl
theorem prsF_few(s:Txt):(prsF s).1.length≤300:=by
  rcases prsF_nil s with h|⟨l, -,h2,h3⟩
  · rw [h];exact Nat.zero_le _
  · rw [h2];exact(frcErr_ok h3).1
end Go.Proofs.YtjonlmpjdhoogaaGreatDoor
namespace Go.Proofs.YtjonlmpjdhoogaaGreatDoor
open Go.RowKit
attribute [local irreducible] WA WOs WDs WAn qThen qBlock tput
set_option maxHeartbeats 1000000
set_option maxRecDepth 20000
set_option linter.unusedSimpArgs false
set_option linter.unusedVariables false
set_option maxHeartbeats 4000000
set_option maxRecDepth 100000 in
theorem zgrow_nil(w:World):Calls Tryz.prog 46 #[.slice none 0 0,.int .i64 6] w fun e w'=>∃ cap Z,e= .returned (.slice (some ⟨w.heap.size,0,none⟩) 0 cap)∧w'.heap[w.heap.size]?=some (.cells Z 3 (0,0))∧Z.size=cap∧6≤cap∧cap≤maxLen∧Below w.heap.size w w':=by
  obtain⟨i0,hi,hz0,hz1,hz2⟩:∃ i:TypeInfo,Tryz.prog.info? 3=some i∧i.zero=some (.int .i64 0)∧i.size=1∧i.bytes=8:=⟨_,rfl,rfl,rfl,rfl⟩
  have happ:=fun W=>Lib.run_append_nil_zeros (P:=Tryz.prog) W 46 3 46 3 i0 (.int .i64 0) .i64 .i64 Tryz.underlying46 Tryz.underlying3 hi hz0 6 (by decide) (by omega) (by decide) (by rw [hz2];decide)
  have happ:=happ w
  generalize hcap:grownCap w 6 0 3=cap2 at happ
  have hcapge:6≤cap2:=by rw [←hcap];exact grownCap_ge w _ 0 3
  have hcaple:cap2≤maxLen:=by rw [←hcap];exact grownCap_le_maxLen w _ 0 3 (by unfold maxLen;omega)
  generalize hZ:(Builtin.zeroCells (Value.int .i64 0).cells 6++Builtin.zeroCells (Value.int .i64 0).cells (cap2 - 6))=Z at happ
  have hZs:Z.size=cap2:=by rw [←hZ];simp [size_zeroCells,Value.cells];omega
  clear hcap hZ
  go_enter Tryz.func46,Tryz.ntmps46
  go_wp2_with (at_builtin;refine Lib.wpList_append_run _ rfl _ _ _ _ rfl _ _ rfl rfl _ _ happ ?_)
  go_ret
  exact⟨cap2,Z,rfl,heap_alloc_new w _,hZs,hcapge,hcaple,⟨rfl,rfl,rfl,by simp,fun k hk=>Below.heap_alloc w _ k hk⟩⟩
theorem sgrow_c (m:Mem):CallA Tryz.prog 46 [.nilsl,.int .i64 6] m (fun v mo=>v= .sl m.length 0∧mo=some (m++[.cells .own 3 1 []])):=by
  refine⟨by kernel_rfl,fun w ρ xs hM hAr=>?_⟩
  have hx:xs= #[.slice none 0 0,.int .i64 6]:=by
    apply Array.ext
    · simpa using hAr.1.symm
    · intro i h1 h2
      have hi:i=0∨i=1:=by simp at h2;omega
      rcases hi with rfl|rfl
      · have:=hAr.2 0 _ _ rfl (Array.getElem?_eq_getElem h1)
        generalize xs[0]=z at *
        cases this
        rfl
      · have:=hAr.2 1 _ _ rfl (Array.getElem?_eq_getElem h1)
        generalize xs[1]=z at *
        cases this
        rfl
  subst hx
  refine(zgrow_nil w).mono ?_
  rintro e w' ⟨cap,Z,rfl,hh,hZ,h6,hcm,hb⟩
  have hP:=hM.push hb w.heap.size cap 3 1 [] Z (Nat.le_refl _) (by decide) hh (by omega) (Nat.zero_le _) hcm (fun e he=>by cases he) (fun i j e v h=>by simp at h)
  refine⟨.sl m.length 0,_,_,rfl,⟨rfl,rfl⟩,.inr ⟨_,_,rfl,After.of_push hM hb (Nat.le_refl _) hP,?_⟩⟩
  exact .sl m.length 0 ⟨w.heap.size,cap,1⟩ (by rw [←hM.len];simp) (Nat.zero_le _) hcm
end Go.Proofs.YtjonlmpjdhoogaaGreatDoor
