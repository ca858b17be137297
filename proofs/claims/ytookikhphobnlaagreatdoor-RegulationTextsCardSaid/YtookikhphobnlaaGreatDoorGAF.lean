import Derived.Test.YtookikhphobnlaaGreatDoorGAE
set_option linter.unusedSimpArgs false
set_option linter.unusedVariables false
/- contracts: steps are read and written -/
namespace Go.Proofs.YtookikhphobnlaaGreatDoor
open Go.RowKit
attribute [local irreducible] WA WOs WDs WAn qThen qBlock tput
set_option maxHeartbeats 1000000
set_option maxRecDepth 20000
set_option linter.unusedSimpArgs false
set_option linter.unusedVariables false
set_option maxHeartbeats 4000000
/-- a step that a text tells -/
def stepP(s:Txt):Option (Int×Int):=match numsP 7 (cutP 32 s) with
  |some [a,b]=>some (a,b)
  |_=>none
theorem cutP_sub {c:UInt8}:∀ {s p:Txt},p∈cutP c s→p.length≤s.length
  | [],p,h=>by
    obtain rfl:=List.mem_singleton.1 h
    exact Nat.le_refl _
  | b ::l,p,h=>by
    have ih:=fun p=>cutP_sub (c:=c) (s:=l) (p:=p)
    unfold cutP at h
    rw [List.length_cons]
    split at h
    · rcases List.mem_cons.1 h with rfl|h
      · exact Nat.zero_le _
      · have:=ih p h;omega
    · split at h
      · rename_i q r hq
        rw [hq] at ih
        rcases List.mem_cons.1 h with rfl|h
        · have:=ih q List.mem_cons_self
          rw [List.length_cons];omega
        · have:=ih p (List.mem_cons_of_mem _ h);omega
      · obtain rfl:=List.mem_singleton.1 h
        show 1≤_;omega
def stepV(o:Option (Int×Int)):V:=match o with
  |some (a,b)=> .tup [.agg [.int .i64 a,.int .i64 b],.int .i64 0]
  |none=> .tup [.agg [.int .i64 0,.int .i64 0],.int .i64 7]
theorem bnum7_c(s:Txt)(hs:s.length≤100000)(m:Mem):CallA Tryz.prog 37 [.str s,.int .i64 7] m (fun v mo=>mo=none∧∃ n,v= .tup [.int .i64 n,.bool (decide ((numP 7 s).isSome))]∧∀ k,numP 7 s=some k→n=k):=bnum_c s 7 (by decide) hs m
theorem uX8_11_1{N:Nat}{l:List Oper}{t:List (Nat×V)}{m:Mem}{Q:Exit→List (Nat×V)→Mem→Prop}(h:RgN Tryz.prog N l t m Q (fun i=>if i==1 || i==2 || i==3 || i==5 || i==6 || i==7 then .q else .p) [.one 0,.one 1,.one 2,.one 3,.one 4,.one 5,.one 6,.one 7,.one 8]):WA Tryz.prog N (.region 1 l.toArray true) t m Q:=d_rgN h
theorem gformat_c(a b:Int)(ha: -9223372036854775808≤a)(ha':a≤9223372036854775807)(hb: -9223372036854775808≤b)(hb':b≤9223372036854775807)(m:Mem):Gives Tryz.prog 11 [.agg [.int .i64 a,.int .i64 b]] m (.str (Lib.itoa a++32::Lib.itoa b)):=by
  have h1:=Lib.itoa_length_le a ha ha'
  have h2:=Lib.itoa_length_le b hb hb'
  have c1:=fun m=>xitoa_c a ha ha' m
  have c2:=fun m=>xitoa_c b hb hb' m
  generalize Lib.itoa a=s1 at *
  generalize Lib.itoa b=s2 at *
  have h3:(s1++[32]).length≤22:=by rw [List.length_append];exact Nat.add_le_add_right h1 1
  have h4:s1++32::s2=(s1++[32])++s2:=by rw [List.append_assoc];rfl
  rw [h4]
  refine Gives_in Tryz.func11 rfl Tryz.ntmps11 Tryz.results11 (by kernel_rfl) (by simp) rfl fun Q hQ=>?_
  (have FX:=And.intro h1 (And.intro h2 h3);repeat'(first|(refine sx ?_ ?_<;>intro h<;>first|(exfalso;omega)|skip)|(refine g_op ?_;refine g_call ?_;refine g_args ?_;(first|refine s_fn (c1 _) ?_|refine s_fn (c2 _) ?_)<;>try first|omega|assumption)|refine ny ?_|refine WA_block ?_|(refine uX8_11_1 ?_;refine⟨by kernel_rfl,?_⟩)|((first|refine grp_cons (fun _=>c1 _) ?_|refine grp_cons (fun _=>c2 _) ?_)<;>try first|omega|assumption)|(refine g_d ?_;refine d_args ?_;(first|refine d_fn (c1 _) ?_|refine d_fn (c2 _) ?_|refine d_fnQ (fun _=>c1 _) ?_|refine d_fnQ (fun _=>c2 _) ?_)<;>try first|omega|assumption)|(refine g_d ?_;(first|refine d_fnY (c1 _) ?_|refine d_fnY (c2 _) ?_)<;>try first|omega|assumption)))
  all_goals(refine r_es hQ ?_;try with_reducible rfl)
theorem uX8_12_1{N:Nat}{l:List Oper}{t:List (Nat×V)}{m:Mem}{Q:Exit→List (Nat×V)→Mem→Prop}(h:RgN Tryz.prog N l t m Q (fun i=>if i==1 || i==2 || i==3 || i==5 || i==6 || i==7 then .q else .p) [.one 0,.one 1,.one 2,.one 3,.one 4,.one 5,.one 6,.one 7,.one 8]):WA Tryz.prog N (.region 1 l.toArray true) t m Q:=d_rgN h
theorem rformat_c(a b:Int)(ha: -9223372036854775808≤a)(ha':a≤9223372036854775807)(hb: -9223372036854775808≤b)(hb':b≤9223372036854775807)(m:Mem):Gives Tryz.prog 12 [.agg [.int .i64 a,.int .i64 b]] m (.str (Lib.itoa a++32::Lib.itoa b)):=by
  have h1:=Lib.itoa_length_le a ha ha'
  have h2:=Lib.itoa_length_le b hb hb'
  have c1:=fun m=>bdec_c a (by omega) m
  have c2:=fun m=>bdec_c b (by omega) m
  generalize Lib.itoa a=s1 at *
  generalize Lib.itoa b=s2 at *
  have h3:(s1++[32]).length≤22:=by rw [List.length_append];exact Nat.add_le_add_right h1 1
  have h4:s1++32::s2=(s1++[32])++s2:=by rw [List.append_assoc];rfl
  rw [h4]
  refine Gives_in Tryz.func12 rfl Tryz.ntmps12 Tryz.results12 (by kernel_rfl) (by simp) rfl fun Q hQ=>?_
  (have FX:=And.intro h1 (And.intro h2 h3);repeat'(first|(refine sx ?_ ?_<;>intro h<;>first|(exfalso;omega)|skip)|(refine g_op ?_;refine g_call ?_;refine g_args ?_;(first|refine s_fn (c1 _) ?_|refine s_fn (c2 _) ?_)<;>try first|omega|assumption)|refine ny ?_|refine WA_block ?_|(refine uX8_12_1 ?_;refine⟨by kernel_rfl,?_⟩)|((first|refine grp_cons (fun _=>c1 _) ?_|refine grp_cons (fun _=>c2 _) ?_)<;>try first|omega|assumption)|(refine g_d ?_;refine d_args ?_;(first|refine d_fn (c1 _) ?_|refine d_fn (c2 _) ?_|refine d_fnQ (fun _=>c1 _) ?_|refine d_fnQ (fun _=>c2 _) ?_)<;>try first|omega|assumption)|(refine g_d ?_;(first|refine d_fnY (c1 _) ?_|refine d_fnY (c2 _) ?_)<;>try first|omega|assumption)))
  all_goals(refine r_es hQ ?_;try with_reducible rfl)
theorem uX8_9_4{N:Nat}{l:List Oper}{t:List (Nat×V)}{m:Mem}{Q:Exit→List (Nat×V)→Mem→Prop}(h:RgN Tryz.prog N l t m Q (fun i=>if i==7 then .w else if i==2 || i==5 then .q else .p) [.one 0,.one 1,.one 2,.one 3,.one 4,.one 5,.one 6,.one 7,.one 8]):WA Tryz.prog N (.region 4 l.toArray true) t m Q:=d_rgN h
theorem gpstep_c (s:Txt) (hs:s.length≤1000) (m:Mem):Gives Tryz.prog 9 [.str s] m (stepV (stepP s)):=by
  suffices key:CallA Tryz.prog 9 [.str s] m (fun v mo=>mo=none∧WkV v (stepV (stepP s))) from Gives_ofX key fun v mo h=>h
  refine CallA_in Tryz.func9 rfl Tryz.ntmps9 Tryz.results9 (by kernel_rfl) (by simp) fun Q hQ=>?_
  have hcl:=cutP_len 32 s
  have hcm:=fun p=>cutP_sub (c:=32) (s:=s) (p:=p)
  have hsp:=fun m=>xsplit_c s 32 (by omega) m
  unfold stepP at hQ
  generalize cutP 32 s=ws at *
  have hnu:=fun m=>gnumbers_c ws (by omega) (fun i hi=>by
    have:=hcm (ws.getD i []) (by rw [List.getD_eq_getElem?_getD,List.getElem?_eq_getElem hi];exact List.getElem_mem _)
    omega) m
  cases hn:numsP 7 ws with
  | none=>
    rw [hn] at hQ hnu
    unfold nbV at hnu
    (repeat'(first|(refine sx ?_ ?_<;>intro h<;>first|(exfalso;omega)|skip)|(refine g_op ?_;refine g_call ?_;refine g_args ?_;(first|refine s_fn (hsp _) ?_|refine s_fn (hnu _) ?_)<;>try first|omega|assumption)|refine ny ?_|refine WA_block ?_|(refine uX8_9_4 ?_;refine⟨by kernel_rfl,?_⟩)|((first|refine grp_cons (fun _=>hsp _) ?_|refine grp_cons (fun _=>hnu _) ?_)<;>try first|omega|assumption)|(refine g_d ?_;refine d_args ?_;(first|refine d_fn (hsp _) ?_|refine d_fn (hnu _) ?_|refine d_fnQ (fun _=>hsp _) ?_|refine d_fnQ (fun _=>hnu _) ?_)<;>try first|omega|assumption)|(refine g_d ?_;(first|refine d_fnY (hsp _) ?_|refine d_fnY (hnu _) ?_)<;>try first|omega|assumption)))
    all_goals(try(exfalso;omega))
    all_goals exact r_esA hQ (v':= .tup [.agg [.int .i64 0,.int .i64 0],.int .i64 7]) (.inl ⟨rfl,rfl,WkV.refl _⟩)
  | some l=>
    rw [hn] at hQ hnu
    unfold nbV at hnu
    have hll:=nsV_length (l:=l)
    by_cases h2:l.length=2
    · obtain⟨a,b,rfl⟩:∃ a b,l=[a,b]:=by
        rcases l with _|⟨a,_|⟨b,_|⟨c,r⟩⟩⟩
        · cases h2
        · cases h2
        · exact⟨a,b,rfl⟩
        · simp at h2
      have hx0:(nsV [a,b])[0]?=some [.int .i64 a]:=rfl
      have hx1:(nsV [a,b])[1]?=some [.int .i64 b]:=rfl
      have hll:(nsV [a,b]).length=2:=rfl
      (have FX:=And.intro hll (And.intro hx0 hx1);repeat'(first|(refine sx ?_ ?_<;>intro h<;>first|(exfalso;omega)|skip)|(refine g_op ?_;refine g_call ?_;refine g_args ?_;(first|refine s_fn (hsp _) ?_|refine s_fn (hnu _) ?_)<;>try first|omega|assumption)|refine ny ?_|refine WA_block ?_|(refine uX8_9_4 ?_;refine⟨by kernel_rfl,?_⟩)|((first|refine grp_cons (fun _=>hsp _) ?_|refine grp_cons (fun _=>hnu _) ?_)<;>try first|omega|assumption)|(refine g_d ?_;refine d_args ?_;(first|refine d_fn (hsp _) ?_|refine d_fn (hnu _) ?_|refine d_fnQ (fun _=>hsp _) ?_|refine d_fnQ (fun _=>hnu _) ?_)<;>try first|omega|assumption)|(refine g_d ?_;(first|refine d_fnY (hsp _) ?_|refine d_fnY (hnu _) ?_)<;>try first|omega|assumption)))
      all_goals(try(exfalso;omega))
      all_goals exact r_esA hQ (v':= .tup [.agg [.int .i64 a,.int .i64 b],.int .i64 0]) (.inl ⟨rfl,rfl,WkV.refl _⟩)
    · have hbad:(match some l with|some [a,b]=>some (a,b)|_=>none:Option (Int×Int))=none:=by
        rcases l with _|⟨a,_|⟨b,_|⟨c,r⟩⟩⟩
        · rfl
        · rfl
        · exact absurd rfl h2
        · rfl
      rw [hbad] at hQ
      (have FX:=And.intro hll h2;repeat'(first|(refine sx ?_ ?_<;>intro h<;>first|(exfalso;omega)|skip)|(refine g_op ?_;refine g_call ?_;refine g_args ?_;(first|refine s_fn (hsp _) ?_|refine s_fn (hnu _) ?_)<;>try first|omega|assumption)|refine ny ?_|refine WA_block ?_|(refine uX8_9_4 ?_;refine⟨by kernel_rfl,?_⟩)|((first|refine grp_cons (fun _=>hsp _) ?_|refine grp_cons (fun _=>hnu _) ?_)<;>try first|omega|assumption)|(refine g_d ?_;refine d_args ?_;(first|refine d_fn (hsp _) ?_|refine d_fn (hnu _) ?_|refine d_fnQ (fun _=>hsp _) ?_|refine d_fnQ (fun _=>hnu _) ?_)<;>try first|omega|assumption)|(refine g_d ?_;(first|refine d_fnY (hsp _) ?_|refine d_fnY (hnu _) ?_)<;>try first|omega|assumption)))
      all_goals(try(exfalso;omega))
      all_goals exact r_esA hQ (v':= .tup [.agg [.int .i64 0,.int .i64 0],.int .i64 7]) (.inl ⟨rfl,rfl,WkV.refl _⟩)

theorem rpstep_c (s:Txt) (hs:s.length≤1000) (m:Mem):Gives Tryz.prog 10 [.str s] m (stepV (stepP s)):=by
  suffices key:CallA Tryz.prog 10 [.str s] m (fun v mo=>mo=none∧WkV v (stepV (stepP s))) from Gives_ofX key fun v mo h=>h
  refine CallA_in Tryz.func10 rfl Tryz.ntmps10 Tryz.results10 (by kernel_rfl) (by simp) fun Q hQ=>?_
  have hcl:=cutP_len 32 s
  have hcm:=fun p=>cutP_sub (c:=32) (s:=s) (p:=p)
  have hsp:=fun m=>bcut_c s 32 (by omega) m
  unfold stepP at hQ
  generalize cutP 32 s=ws at *
  have hll:=xsV_length (l:=ws)
  by_cases h2:ws.length=2
  · obtain⟨p,q,rfl⟩:∃ p q,ws=[p,q]:=by
      rcases ws with _|⟨a,_|⟨b,_|⟨c,r⟩⟩⟩
      · cases h2
      · cases h2
      · exact⟨a,b,rfl⟩
      · simp at h2
    have hx0:(xsV [p,q])[0]?=some [.str p]:=rfl
    have hx1:(xsV [p,q])[1]?=some [.str q]:=rfl
    have hll:(xsV [p,q]).length=2:=rfl
    have hp:=hcm p (by simp)
    have hq:=hcm q (by simp)
    simp only [numsP] at hQ
    (have FX:=And.intro hll (And.intro hx0 hx1);repeat'(first|(refine sx ?_ ?_<;>intro h<;>first|(exfalso;omega)|skip)|(refine g_op ?_;refine g_call ?_;refine g_args ?_;(first|refine s_fn (hsp _) ?_)<;>try first|omega|assumption)|refine ny ?_|refine WA_block ?_))
    all_goals(try(exfalso;omega))
    refine g_op ?_;refine g_call ?_;refine g_args ?_;refine s_fnA (bnum7_c p (by omega) _) ?_
    rintro v mo ⟨rfl,n1,rfl,hn1⟩
    simp only [Option.getD_none]
    obtain⟨x1,hy1⟩:∃ x,numP 7 p=x:=⟨_,rfl⟩
    rw [hy1] at hn1 hQ ⊢
    rcases x1 with _|x1
    all_goals simp only [Option.isSome,decide_true,decide_false,Bool.false_eq_true]
    all_goals(have FX:=And.intro hll (And.intro hx0 hx1);repeat'(first|(refine sx ?_ ?_<;>intro h<;>first|(exfalso;omega)|skip)|(refine g_op ?_;refine g_call ?_;refine g_args ?_;(first|refine s_fn (hsp _) ?_)<;>try first|omega|assumption)|refine ny ?_|refine WA_block ?_))
    all_goals(
      refine g_op ?_;refine g_call ?_;refine g_args ?_;refine s_fnA (bnum7_c q (by omega) _) ?_
      rintro v mo ⟨rfl,n2,rfl,hn2⟩
      simp only [Option.getD_none]
      obtain⟨x2,hy2⟩:∃ x,numP 7 q=x:=⟨_,rfl⟩
      rw [hy2] at hn2 hQ ⊢
      rcases x2 with _|x2)
    all_goals simp only [Option.isSome,decide_true,decide_false,Bool.false_eq_true]
    all_goals(have FX:=And.intro hll (And.intro hx0 hx1);repeat'(first|(refine sx ?_ ?_<;>intro h<;>first|(exfalso;omega)|skip)|(refine g_op ?_;refine g_call ?_;refine g_args ?_;(first|refine s_fn (hsp _) ?_)<;>try first|omega|assumption)|refine ny ?_|refine WA_block ?_))
    all_goals first
      |exact r_esA hQ (v':= .tup [.agg [.int .i64 0,.int .i64 0],.int .i64 7]) (.inl ⟨rfl,rfl,WkV.refl _⟩)
      | (obtain rfl:=hn1 _ rfl
         obtain rfl:=hn2 _ rfl
         exact r_esA hQ (v':= .tup [.agg [.int .i64 n1,.int .i64 n2],.int .i64 0]) (.inl ⟨rfl,rfl,WkV.refl _⟩))
  · have hbad:(match numsP 7 ws with|some [a,b]=>some (a,b)|_=>none:Option (Int×Int))=none:=by
      cases hn:numsP 7 ws with
      |none=>rfl
      | some l=>
        have hl:=numsP_len hn
        rcases l with _|⟨a,_|⟨b,_|⟨c,r⟩⟩⟩
        · rfl
        · rfl
        · exact absurd hl.symm h2
        · rfl
    rw [hbad] at hQ
    (have FX:=And.intro hll h2;repeat'(first|(refine sx ?_ ?_<;>intro h<;>first|(exfalso;omega)|skip)|(refine g_op ?_;refine g_call ?_;refine g_args ?_;(first|refine s_fn (hsp _) ?_)<;>try first|omega|assumption)|refine ny ?_|refine WA_block ?_))
    all_goals(try(exfalso;omega))
    all_goals exact r_esA hQ (v':= .tup [.agg [.int .i64 0,.int .i64 0],.int .i64 7]) (.inl ⟨rfl,rfl,WkV.refl _⟩)
def onT:Txt:=[111,110]
def afterT:Txt:=[97,102,116,101,114]
def measureT:Txt:=[109,101,97,115,117,114,101]
def adjustT:Txt:=[97,100,106,117,115,116]
/-- effects at the front of words, and the words behind them -/
def onP:List Txt→Option (List EfR×List Txt)
  |o::m::w::r=>if o=onT then (numP 7 w).bind fun n=>(onP r).map fun p=>(⟨m,n⟩::p.1,p.2) else some ([],o::m::w::r)
  |r=>some ([],r)
/-- names behind 'after' at the front of words, and the words behind them -/
def afP:List Txt→List Txt×List Txt
  |o::x::r=>if o=afterT then (x::(afP r).1,(afP r).2) else ([],o::x::r)
  |r=>([],r)
/-- an adjustment's words, behind the first: the adjustment, and whether they are right -/
def adjT:List Txt→AdR×Bool
  | nm::a::b::c::r=>match numsP 7 [a,b,c] with
    | some n=>match onP r with
      |some p=>(⟨nm,p.1,n.getD 0 0,n.getD 1 0,n.getD 2 0,(afP p.2).1⟩,decide ((afP p.2).2=[]))
      |none=>(adz,false)
    |none=>(adz,false)
  |_=>(adz,false)
/-- a bench and a line more -/
def lineP (b:BnR) (s:Txt):Option BnR:=match cutP 32 s with
  | o::w=>if o=measureT∧w.length=4∧b.ads=[] then (numsP 7 (w.drop 1)).map fun n=>⟨b.ms++[⟨w.getD 0 [],n.getD 0 0,n.getD 1 0,n.getD 2 0⟩],b.ads⟩
    else if o=adjustT then (if (adjT w).2=true then some ⟨b.ms,b.ads++[(adjT w).1]⟩ else none) else none
  |[]=>none
/-- a bench and rows more, the last of them empty; or the number of the row that is wrong -/
def rowsP:Nat→BnR→List Txt→Except Nat BnR
  |_,b,[]=> .ok b
  |k,b,[r]=>if r=[] then .ok b else .error (k+1)
  | k,b,r::q::rs=>match lineP b r with
    |some b'=>rowsP (k+1) b' (q::rs)
    |none=> .error (k+1)
theorem ln_cut:∀ {s:Txt},s≠[]→(∃ p,ln1 s=p++[10]∧(∀ c∈p,c≠10)∧cutP 10 s=p::cutP 10 (lnR s))∨(ln1 s=s∧lnR s=[]∧(∀ c∈s,c≠10)∧cutP 10 s=[s])
  |[],h=>absurd rfl h
  | b ::l,_=>by
    by_cases hb:b=10
    · subst hb
      exact .inl ⟨[],by simp [ln1],(fun c hc=>by cases hc),by simp [cutP,lnR]⟩
    · by_cases hl:l=[]
      · subst hl
        exact .inr ⟨by simp [ln1,hb],by simp [lnR,hb],by simpa using hb,by simp [cutP,hb]⟩
      · rcases ln_cut hl with ⟨p,h1,h2,h3⟩|⟨h1,h2,h3,h4⟩
        · refine .inl ⟨b::p,by simp [ln1,hb,h1],?_,by simp [cutP,lnR,hb,h3]⟩
          intro c hc
          rcases List.mem_cons.1 hc with rfl|hc
          · exact hb
          · exact h2 c hc
        · refine .inr ⟨by simp [ln1,hb,h1],by simp [lnR,hb,h2],?_,by simp [cutP,hb,h4]⟩
          intro c hc
          rcases List.mem_cons.1 hc with rfl|hc
          · exact hb
          · exact h3 c hc
theorem rowsP_cut{k:Nat}{b:BnR}{p s:Txt}:rowsP k b (p::cutP 10 s)=match lineP b p with
    |some b'=>rowsP (k+1) b' (cutP 10 s)
    |none=> .error (k+1):=by
  rcases h:cutP 10 s with _|⟨q,rs⟩
  · exact absurd h (cutP_ne 10 s)
  · rfl
theorem rowsP_one{k:Nat}{b:BnR}{s:Txt}(h:s≠[]):rowsP k b [s]= .error (k+1):=by
  simp only [rowsP,if_neg h]
theorem suf_yes(p:Txt):Lib.hasSuffix (p++[10]) [10]=true∧Lib.trimSuffix (p++[10]) [10]=p:=by
  have h:Lib.hasSuffix (p++[10]) [10]=true:=by
    unfold Lib.hasSuffix
    rw [List.isSuffixOf_iff_suffix]
    exact List.suffix_append _ _
  refine⟨h,?_⟩
  unfold Lib.trimSuffix
  rw [if_pos h]
  simp
theorem suf_no{s:Txt}(h:∀ c∈s,c≠10):Lib.hasSuffix s [10]=false:=by
  cases hh:Lib.hasSuffix s [10] with
  |false=>rfl
  | true=>
    unfold Lib.hasSuffix at hh
    rw [List.isSuffixOf_iff_suffix] at hh
    obtain⟨t,rfl⟩:=hh
    exact absurd rfl (h 10 (by simp))
theorem drop_1{ws:List Txt}{k:Nat}(h:k<ws.length):ws.drop k=ws.getD k []::ws.drop (k+1):=by
  rw [List.drop_eq_getElem_cons h,List.getD_eq_getElem?_getD,List.getElem?_eq_getElem h];rfl
theorem onP_at{ws:List Txt}{k:Nat}(h:k+2<ws.length):onP (ws.drop k)=if ws.getD k []=onT then (numP 7 (ws.getD (k+2) [])).bind fun n=>(onP (ws.drop (k+3))).map fun p=>(⟨ws.getD (k+1) [],n⟩::p.1,p.2) else some ([],ws.drop k):=by
  rw [drop_1 (k:=k) (by omega),drop_1 (k:=k+1) (by omega),drop_1 (k:=k+2) (by omega)]
  conv=>lhs;unfold onP
theorem onP_short{ws:List Txt}{k:Nat}(h:ws.length≤k+2):onP (ws.drop k)=some ([],ws.drop k):=by
  have hl:(ws.drop k).length≤2:=by rw [List.length_drop];omega
  generalize ws.drop k=u at hl ⊢
  rcases u with _|⟨a,_|⟨b,_|⟨c,r⟩⟩⟩
  · rfl
  · rfl
  · rfl
  · simp at hl
theorem afP_at{ws:List Txt}{k:Nat}(h:k+1<ws.length):afP (ws.drop k)=if ws.getD k []=afterT then (ws.getD (k+1) []::(afP (ws.drop (k+2))).1,(afP (ws.drop (k+2))).2) else ([],ws.drop k):=by
  rw [drop_1 (k:=k) (by omega),drop_1 (k:=k+1) (by omega)]
  conv=>lhs;unfold afP
theorem afP_short{ws:List Txt}{k:Nat}(h:ws.length≤k+1):afP (ws.drop k)=([],ws.drop k):=by
  have hl:(ws.drop k).length≤1:=by rw [List.length_drop];omega
  generalize ws.drop k=u at hl ⊢
  rcases u with _|⟨a,_|⟨b,r⟩⟩
  · rfl
  · rfl
  · simp at hl
def thS(p q r:Txt)(z:Nat×Int×Int×Int):List TV:=[.v (.lst (xsV [p,q,r])),.ptr 0 0 0,.ptr 1 0 0,.v (.int .i64 z.1)]
def thE(z:Nat×Int×Int×Int):List TB:=[.cells .own 71 3 [[.v (.int .i64 0),.v (.int .i64 0),.v (.int .i64 0)]],.cells .own 71 3 [[.v (.int .i64 z.2.1),.v (.int .i64 z.2.2.1),.v (.int .i64 z.2.2.2)]]]
def thI(p q r:Txt)(z:Nat×Int×Int×Int):Prop:=z.1≤3∧(1≤z.1→numP 7 p=some z.2.1)∧(2≤z.1→numP 7 q=some z.2.2.1)∧(3≤z.1→numP 7 r=some z.2.2.2)

theorem rthree_c(p q r:Txt)(hp:p.length≤100000)(hq:q.length≤100000)(hr:r.length≤100000)(m:Mem):CallA Tryz.prog 32 [.lst (xsV [p,q,r])] m (fun v mo=>mo=none∧∃ a b c,v= .tup [.agg [.int .i64 a,.int .i64 b,.int .i64 c],.bool (decide (numsP 7 [p,q,r]).isSome)]∧∀ l,numsP 7 [p,q,r]=some l→l=[a,b,c]):=by
  refine CallA_in Tryz.func32 rfl Tryz.ntmps32 Tryz.results32 (by kernel_rfl) (by simp) fun Q hQ=>?_
  (repeat'(first|(refine sx ?_ ?_<;>intro h<;>first|(exfalso;omega)|skip)|refine ny ?_|refine WA_block ?_))
  refine WA_whileT (σ:=Nat×Int×Int×Int) (L:=lend m) [0,2,4,5] (thS p q r) thE (thI p q r) (fun z=>3 - z.1) (0,0,0,0) ⟨by decide,fun h=>absurd h (by decide),fun h=>absurd h (by decide),fun h=>absurd h (by decide)⟩ (by simp only [thS,List.map_cons,List.map_nil,TV.inst];exact tv_) rfl (by decide) (fun _ _=>rfl) (fun _ _=>rfl) ?_
  rintro⟨i,x,y,z⟩ ⟨hi,h1,h2,h3⟩ B ⟨D,hB⟩ K hK
  dsimp only at hi h1 h2 h3
  have hll:(xsV [p,q,r]).length=3:=rfl
  have hx0:(xsV [p,q,r])[0]?=some [.str p]:=rfl
  have hx1:(xsV [p,q,r])[1]?=some [.str q]:=rfl
  have hx2:(xsV [p,q,r])[2]?=some [.str r]:=rfl
  have hk:=hK
  obtain rfl|rfl|rfl|rfl:i=0∨i=1∨i=2∨i=3:=by omega
  · simp only [thS,thE]
    simp only [List.map_cons,List.map_nil,TB.inst,TV.inst,tv_map,zipT,List.cons_append,List.nil_append,Nat.add_zero]
    (have FX:=And.intro hll (And.intro hx0 (And.intro hx1 hx2));repeat'(first|(refine sx ?_ ?_<;>intro h<;>first|(exfalso;omega)|skip)|refine ny ?_|refine WA_block ?_))
    all_goals(try(exfalso;omega))
    refine g_op ?_;refine g_call ?_;refine g_args ?_;refine s_fnA (bnum7_c p (by omega) _) ?_
    rintro v mo ⟨rfl,n,rfl,hn⟩
    simp only [Option.getD_none]
    obtain⟨w,hy⟩:∃ w,numP 7 p=w:=⟨_,rfl⟩
    rw [hy] at hn ⊢
    have hnx:=fun(_:Unit)=>hK (1,n,y,z)
    rcases w with _|w
    all_goals simp only [Option.isSome,decide_true,decide_false,Bool.false_eq_true]
    all_goals(have FX:=And.intro hll (And.intro hx0 (And.intro hx1 hx2));repeat'(first|(refine sx ?_ ?_<;>intro h<;>first|(exfalso;omega)|skip)|refine ny ?_|refine WA_block ?_))
    · have hnn:numsP 7 [p,q,r]=none:=by simp [numsP,hy]
      rw [hnn] at hQ
      exact r_esA hQ (v':= .tup [.agg [.int .i64 x,.int .i64 y,.int .i64 z],.bool false]) (.inl ⟨rfl,rfl,_,_,_,rfl,fun l hl=>by cases hl⟩)
    · obtain rfl:=hn _ rfl
      (refine nextU_ hnx (()) [0,1] (⟨by dsimp only;decide,fun _=>hy,fun h=>absurd h (by dsimp only;decide),fun h=>absurd h (by dsimp only;decide)⟩) (by dsimp only;decide) ?_ (ht:=?_);(focus (simp only [thE,List.map_cons,List.map_nil,TB.inst,TV.inst,tv_map,List.cons_append,List.nil_append];first|rfl|(simp [ptsV,ptV];done)|(simp [hpsV,hpV];done)|(simp [frsV,frV];done)|(simp [txV];done)|(simp [prtsV,prtV];done)));(simp only [thS,List.map_cons,List.map_nil,TV.inst,List.getD_cons_zero,List.getD_cons_succ];exact tv_))
  · simp only [thS,thE]
    simp only [List.map_cons,List.map_nil,TB.inst,TV.inst,tv_map,zipT,List.cons_append,List.nil_append,Nat.add_zero]
    (have FX:=And.intro hll (And.intro hx0 (And.intro hx1 hx2));repeat'(first|(refine sx ?_ ?_<;>intro h<;>first|(exfalso;omega)|skip)|refine ny ?_|refine WA_block ?_))
    all_goals(try(exfalso;omega))
    refine g_op ?_;refine g_call ?_;refine g_args ?_;refine s_fnA (bnum7_c q (by omega) _) ?_
    rintro v mo ⟨rfl,n,rfl,hn⟩
    simp only [Option.getD_none]
    obtain⟨w,hy⟩:∃ w,numP 7 q=w:=⟨_,rfl⟩
    rw [hy] at hn ⊢
    have hnx:=fun(_:Unit)=>hK (2,x,n,z)
    rcases w with _|w
    all_goals simp only [Option.isSome,decide_true,decide_false,Bool.false_eq_true]
    all_goals(have FX:=And.intro hll (And.intro hx0 (And.intro hx1 hx2));repeat'(first|(refine sx ?_ ?_<;>intro h<;>first|(exfalso;omega)|skip)|refine ny ?_|refine WA_block ?_))
    · have hnn:numsP 7 [p,q,r]=none:=by simp [numsP,h1 (by decide),hy]
      rw [hnn] at hQ
      exact r_esA hQ (v':= .tup [.agg [.int .i64 x,.int .i64 y,.int .i64 z],.bool false]) (.inl ⟨rfl,rfl,_,_,_,rfl,fun l hl=>by cases hl⟩)
    · obtain rfl:=hn _ rfl
      (refine nextU_ hnx (()) [0,1] (⟨by dsimp only;decide,fun _=>h1 (by decide),fun _=>hy,fun h=>absurd h (by dsimp only;decide)⟩) (by dsimp only;decide) ?_ (ht:=?_);(focus (simp only [thE,List.map_cons,List.map_nil,TB.inst,TV.inst,tv_map,List.cons_append,List.nil_append];first|rfl|(simp [ptsV,ptV];done)|(simp [hpsV,hpV];done)|(simp [frsV,frV];done)|(simp [txV];done)|(simp [prtsV,prtV];done)));(simp only [thS,List.map_cons,List.map_nil,TV.inst,List.getD_cons_zero,List.getD_cons_succ];exact tv_))
  · simp only [thS,thE]
    simp only [List.map_cons,List.map_nil,TB.inst,TV.inst,tv_map,zipT,List.cons_append,List.nil_append,Nat.add_zero]
    (have FX:=And.intro hll (And.intro hx0 (And.intro hx1 hx2));repeat'(first|(refine sx ?_ ?_<;>intro h<;>first|(exfalso;omega)|skip)|refine ny ?_|refine WA_block ?_))
    all_goals(try(exfalso;omega))
    refine g_op ?_;refine g_call ?_;refine g_args ?_;refine s_fnA (bnum7_c r (by omega) _) ?_
    rintro v mo ⟨rfl,n,rfl,hn⟩
    simp only [Option.getD_none]
    obtain⟨w,hy⟩:∃ w,numP 7 r=w:=⟨_,rfl⟩
    rw [hy] at hn ⊢
    have hnx:=fun(_:Unit)=>hK (3,x,y,n)
    rcases w with _|w
    all_goals simp only [Option.isSome,decide_true,decide_false,Bool.false_eq_true]
    all_goals(have FX:=And.intro hll (And.intro hx0 (And.intro hx1 hx2));repeat'(first|(refine sx ?_ ?_<;>intro h<;>first|(exfalso;omega)|skip)|refine ny ?_|refine WA_block ?_))
    · have hnn:numsP 7 [p,q,r]=none:=by simp [numsP,h1 (by decide),h2 (by decide),hy]
      rw [hnn] at hQ
      exact r_esA hQ (v':= .tup [.agg [.int .i64 x,.int .i64 y,.int .i64 z],.bool false]) (.inl ⟨rfl,rfl,_,_,_,rfl,fun l hl=>by cases hl⟩)
    · obtain rfl:=hn _ rfl
      (refine nextU_ hnx (()) [0,1] (⟨by dsimp only;decide,fun _=>h1 (by decide),fun _=>h2 (by decide),fun _=>hy⟩) (by dsimp only;decide) ?_ (ht:=?_);(focus (simp only [thE,List.map_cons,List.map_nil,TB.inst,TV.inst,tv_map,List.cons_append,List.nil_append];first|rfl|(simp [ptsV,ptV];done)|(simp [hpsV,hpV];done)|(simp [frsV,frV];done)|(simp [txV];done)|(simp [prtsV,prtV];done)));(simp only [thS,List.map_cons,List.map_nil,TV.inst,List.getD_cons_zero,List.getD_cons_succ];exact tv_))
  · simp only [thS,thE]
    simp only [List.map_cons,List.map_nil,TB.inst,TV.inst,tv_map,zipT,List.cons_append,List.nil_append,Nat.add_zero]
    (have FX:=And.intro hll (And.intro hx0 (And.intro hx1 hx2));repeat'(first|(refine sx ?_ ?_<;>intro h<;>first|(exfalso;omega)|skip)|refine ny ?_|refine WA_block ?_))
    all_goals(try(exfalso;omega))
    have hnn:numsP 7 [p,q,r]=some [x,y,z]:=by simp [numsP,h1 (by decide),h2 (by decide),h3 (by decide)]
    rw [hnn] at hQ
    exact r_esA hQ (v':= .tup [.agg [.int .i64 x,.int .i64 y,.int .i64 z],.bool true]) (.inl ⟨rfl,rfl,_,_,_,rfl,fun l hl=>by injection hl with hl;exact hl.symm⟩)
end Go.Proofs.YtookikhphobnlaaGreatDoor
