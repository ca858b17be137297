import Derived.Test.YtookikhphobnlaaGreatDoorB7
import Derived.Test.YtookikhphobnlaaGreatDoorGAA
set_option linter.unusedSimpArgs false
set_option linter.unusedVariables false
/- contracts: the check of a bench -/
namespace Go.Proofs.YtookikhphobnlaaGreatDoor
open Go.RowKit
attribute [local irreducible] WA WOs WDs WAn qThen qBlock tput
set_option maxHeartbeats 1000000
set_option maxRecDepth 20000
set_option linter.unusedSimpArgs false
set_option linter.unusedVariables false
def aNames(l:List AdR):List Txt:=l.map AdR.name
theorem fdx_anames(s:Txt)(l:List AdR):fdx (isT s) (aNames l)=fdx (isA s) l:=by unfold aNames;rw [fdx_map];rfl
theorem aNames_succ{l:List AdR}{i:Nat}(h:i<l.length):aNames (l.take (i+1))=aNames (l.take i)++[(l.getD i adz).name]:=by
  rw [List.take_succ_eq_append_getElem h]
  unfold aNames
  rw [List.map_append]
  have:l.getD i adz=l[i]:=by rw [List.getD_eq_getElem?_getD,List.getElem?_eq_getElem h];rfl
  rw [this];rfl
theorem aNames_len(l:List AdR):(aNames l).length=l.length:=by simp [aNames]
theorem gce_a(mm:List MsR)(l:List EfR)(M:Mem)(k:Nat){st:Sta}(hk:M[k]?=some (.obj st [] (mapφ (nmM (mNames mm)))):=by first|exact ev_|fail):Gives Tryz.prog 49 [.lst (efsV l),.mp k] M (.int .i64 (efErr mm l)):=gcheckeffects_c mm l M k st hk
theorem gorder_b(b:BnR)(hb:Bl b)(m:Mem):Gives Tryz.prog 40 [.agg [.lst (mssV b.ms),.lst (adsV b.ads)]] m (.lst (nuV (ordB b.ads))):=gorder_c b hb.na (fun i hi=>hb.aa i hi) m
theorem adErr_eq (mm:List MsR) (ads:List AdR) (i:Nat):adErr mm ads i=if addE (aNames (ads.take i)) (ads.getD i adz).name≠0 then addE (aNames (ads.take i)) (ads.getD i adz).name else
        if efErr mm (ads.getD i adz).effs≠0 then efErr mm (ads.getD i adz).effs else
        if ¬ (-1000≤(ads.getD i adz).least∧(ads.getD i adz).least≤0)∨¬ (0≤(ads.getD i adz).most∧(ads.getD i adz).most≤1000)∨¬ (1≤(ads.getD i adz).pass∧(ads.getD i adz).pass≤1000) then 2 else afErr ads (ads.getD i adz).after:=by
  unfold adErr addE
  rw [fdx_anames]
  generalize ads.getD i adz=x
  by_cases h1:nameP x.name<;>by_cases h2:0≤fdx (isA x.name) (ads.take i)<;>simp only [h1,h2,not_true_eq_false,not_false_eq_true,if_true,if_false,ne_eq,reduceIte,Int.reduceEq]
theorem uB8_19_22{N:Nat}{l:List Oper}{t:List (Nat×V)}{m:Mem}{Q:Exit→List (Nat×V)→Mem→Prop}(h:RgN Tryz.prog N l t m Q (fun i=>if i==1 || i==2 then .a else if i==0 || i==4 || i==5 then .q else .p) [.one 0,.one 3,.one 4,.one 5,.one 1,.one 2,.one 6]):WA Tryz.prog N (.region 22 l.toArray true) t m Q:=d_rgN h
theorem gcb_bad(b:BnR)(hb:Bl b)(h0:mssErr b.ms≠0)(m:Mem):Gives Tryz.prog 19 [.agg (bnV b)] m (.int .i64 (bnErr b)):=by
  have hcm:=fun m=>gcheckms_bad b.ms h0 hb.mn m
  have hx0:=h0
  unfold bnErr bnV
  rw [if_pos h0]
  refine Gives_in Tryz.func19 rfl Tryz.ntmps19 Tryz.results19 (by kernel_rfl) (by simp) rfl fun Q hQ=>?_
  (have FX:=hx0;repeat'(first|(refine sx ?_ ?_<;>intro h<;>first|(exfalso;omega)|skip)|(refine g_op ?_;refine g_call ?_;refine g_args ?_;(first|refine s_fn (hcm _) ?_)<;>try first|omega|assumption)|refine ny ?_|refine WA_block ?_|(refine uB8_19_22 ?_;refine⟨by kernel_rfl,?_⟩)|((first|refine grp_cons (fun _=>hcm _) ?_)<;>try first|omega|assumption)|(refine g_d ?_;refine d_args ?_;(first|refine d_fn (hcm _) ?_|refine d_fnQ (fun _=>hcm _) ?_)<;>try first|omega|assumption)|(refine g_d ?_;(first|refine d_fnY (hcm _) ?_)<;>try first|omega|assumption)))
  all_goals(try(exfalso;omega))
  all_goals((refine r_es hQ ?_;try with_reducible rfl))
theorem gcb_ok (b:BnR) (hb:Bl b) (h0:mssErr b.ms=0) (m:Mem):Gives Tryz.prog 19 [.agg (bnV b)] m (.int .i64 (bnErr b)):=by
  have hcm:=fun m=>gcheckms_ok b.ms h0 hb.mn m
  have hla:=adsV_length (l:=b.ads)
  have hlo:=nuV_length (l:=ordB b.ads)
  have hga:=hla
  have hadd:=hla
  have hb1:b.ads.length≤100000:=by have:=hb.na;omega
  unfold bnErr bnV
  rw [if_neg (by omega)]
  refine Gives_in Tryz.func19 rfl Tryz.ntmps19 Tryz.results19 (by kernel_rfl) (by simp) rfl fun Q hQ=>?_
  (have FX:=And.intro hla (And.intro hga hlo);repeat'(first|(refine sx ?_ ?_<;>intro h<;>first|(exfalso;omega)|skip)|(refine g_op ?_;refine g_call ?_;refine g_args ?_;(first|refine s_fn (gce_a b.ms _ _ _) ?_|refine s_fn (gwithin_c _ _ _ _) ?_|refine s_fn (gcheckafter_c b.ads _ _ hb1) ?_|refine s_fn (gorder_b b hb _) ?_|refine s_fnO (hcm _) ?_|refine s_fnW (hadd _) ?_)<;>try first|omega|assumption)|refine ny ?_|refine WA_block ?_|(refine uB8_19_22 ?_;refine⟨by kernel_rfl,?_⟩)|((first|refine grp_cons (fun _=>gce_a b.ms _ _ _) ?_|refine grp_cons (fun _=>gwithin_c _ _ _ _) ?_|refine grp_cons (fun _=>gcheckafter_c b.ads _ _ hb1) ?_|refine grp_cons (fun _=>gorder_b b hb _) ?_|refine grp_w (hadd _) ?_)<;>try first|omega|assumption)|(refine g_d ?_;refine d_args ?_;(first|refine d_fn (gce_a b.ms _ _ _) ?_|refine d_fn (gwithin_c _ _ _ _) ?_|refine d_fn (gcheckafter_c b.ads _ _ hb1) ?_|refine d_fn (gorder_b b hb _) ?_|refine d_fnW (hadd _) ?_|refine d_fnQ (fun _=>gce_a b.ms _ _ _) ?_|refine d_fnQ (fun _=>gwithin_c _ _ _ _) ?_|refine d_fnQ (fun _=>gcheckafter_c b.ads _ _ hb1) ?_|refine d_fnQ (fun _=>gorder_b b hb _) ?_)<;>try first|omega|assumption)|(refine g_d ?_;(first|refine d_fnY (gce_a b.ms _ _ _) ?_|refine d_fnY (gwithin_c _ _ _ _) ?_|refine d_fnY (gcheckafter_c b.ads _ _ hb1) ?_|refine d_fnY (gorder_b b hb _) ?_)<;>try first|omega|assumption)))
  all_goals(try(exfalso;omega))
  all_goals try
    ((refine r_es hQ ?_;try with_reducible rfl)
     refine congrArg (V.int .i64) ?_
     rw [if_pos (by omega)]
     done)
  have hl12:b.ads.length≤12:=by omega
  rw [if_neg (by omega)] at hQ
  refine s_mk ?_
  (have FX:=And.intro hla (And.intro hga hlo);repeat'(first|(refine sx ?_ ?_<;>intro h<;>first|(exfalso;omega)|skip)|(refine g_op ?_;refine g_call ?_;refine g_args ?_;(first|refine s_fn (gce_a b.ms _ _ _) ?_|refine s_fn (gwithin_c _ _ _ _) ?_|refine s_fn (gcheckafter_c b.ads _ _ hb1) ?_|refine s_fn (gorder_b b hb _) ?_|refine s_fnO (hcm _) ?_|refine s_fnW (hadd _) ?_)<;>try first|omega|assumption)|refine ny ?_|refine WA_block ?_|(refine uB8_19_22 ?_;refine⟨by kernel_rfl,?_⟩)|((first|refine grp_cons (fun _=>gce_a b.ms _ _ _) ?_|refine grp_cons (fun _=>gwithin_c _ _ _ _) ?_|refine grp_cons (fun _=>gcheckafter_c b.ads _ _ hb1) ?_|refine grp_cons (fun _=>gorder_b b hb _) ?_|refine grp_w (hadd _) ?_)<;>try first|omega|assumption)|(refine g_d ?_;refine d_args ?_;(first|refine d_fn (gce_a b.ms _ _ _) ?_|refine d_fn (gwithin_c _ _ _ _) ?_|refine d_fn (gcheckafter_c b.ads _ _ hb1) ?_|refine d_fn (gorder_b b hb _) ?_|refine d_fnW (hadd _) ?_|refine d_fnQ (fun _=>gce_a b.ms _ _ _) ?_|refine d_fnQ (fun _=>gwithin_c _ _ _ _) ?_|refine d_fnQ (fun _=>gcheckafter_c b.ads _ _ hb1) ?_|refine d_fnQ (fun _=>gorder_b b hb _) ?_)<;>try first|omega|assumption)|(refine g_d ?_;(first|refine d_fnY (gce_a b.ms _ _ _) ?_|refine d_fnY (gwithin_c _ _ _ _) ?_|refine d_fnY (gcheckafter_c b.ads _ _ hb1) ?_|refine d_fnY (gorder_b b hb _) ?_)<;>try first|omega|assumption)))
  refine WA_whileK (σ:=Nat) [1,3,5,26,27,28] (fun i=>[.ptr (lend m).length 0 0,.mp ((lend m).length+1),.mp ((lend m).length+2),.lst (adsV b.ads),.int .i64 b.ads.length,.int .i64 i]) (fun i=>[.cells .own 28 2 [[.lst (mssV b.ms),.lst (adsV b.ads)]],MapB (nmM (mNames b.ms)),MapB (nmM (aNames (b.ads.take i)))]) 3 (fun i=>i≤b.ads.length∧∀ j,j<i→adErr b.ms b.ads j=0) (fun i=>b.ads.length - i) 0 ⟨Nat.zero_le _,fun j h=>absurd h (Nat.not_lt_zero _)⟩ tv_ rfl (fun _=>rfl) (by intro s s' _ _;simp [conB,conS,V.keeps,V.plain,Blk.flat,flatL,plainL,V.flat]) (by intro s s' _ _;simp [conB,Blk.flat]) ?_
  rintro i ⟨hi1,hi2⟩ K hK
  simp only [zipT]
  clear FX hga hadd
  rcases Nat.lt_or_ge i b.ads.length with hi|hi
  · have hga:=adsV_get hi
    have hnx:=aNames_succ hi
    have hadd:=fun k=>gadd_w (aNames (b.ads.take i)) (b.ads.getD i adz).name (hb.an i hi) (by rw [aNames_len,List.length_take];omega) k
    have hat:adErr b.ms b.ads i=if addE (aNames (b.ads.take i)) (b.ads.getD i adz).name≠0 then addE (aNames (b.ads.take i)) (b.ads.getD i adz).name else
        if efErr b.ms (b.ads.getD i adz).effs≠0 then efErr b.ms (b.ads.getD i adz).effs else
        if ¬ (-1000≤(b.ads.getD i adz).least∧(b.ads.getD i adz).least≤0)∨¬ (0≤(b.ads.getD i adz).most∧(b.ads.getD i adz).most≤1000)∨¬ (1≤(b.ads.getD i adz).pass∧(b.ads.getD i adz).pass≤1000) then 2 else afErr b.ads (b.ads.getD i adz).after:=by
      exact adErr_eq b.ms b.ads i
    generalize b.ads.getD i adz=x at *
    obtain⟨nm,ef,le,mo,pa,af⟩:=x
    unfold adV at hga
    dsimp only at hga hadd hat hnx
    by_cases h1:addE (aNames (b.ads.take i)) nm=0
    · rw [h1,if_pos rfl,←hnx] at hadd
      rw [if_neg (by omega)] at hat
      (have FX:=And.intro hla (And.intro hga hlo);repeat'(first|(refine sx ?_ ?_<;>intro h<;>first|(exfalso;omega)|skip)|(refine g_op ?_;refine g_call ?_;refine g_args ?_;(first|refine s_fn (gce_a b.ms _ _ _) ?_|refine s_fn (gwithin_c _ _ _ _) ?_|refine s_fn (gcheckafter_c b.ads _ _ hb1) ?_|refine s_fn (gorder_b b hb _) ?_|refine s_fnO (hcm _) ?_|refine s_fnW (hadd _) ?_)<;>try first|omega|assumption)|refine ny ?_|refine WA_block ?_|(refine uB8_19_22 ?_;refine⟨by kernel_rfl,?_⟩)|((first|refine grp_cons (fun _=>gce_a b.ms _ _ _) ?_|refine grp_cons (fun _=>gwithin_c _ _ _ _) ?_|refine grp_cons (fun _=>gcheckafter_c b.ads _ _ hb1) ?_|refine grp_cons (fun _=>gorder_b b hb _) ?_|refine grp_w (hadd _) ?_)<;>try first|omega|assumption)|(refine g_d ?_;refine d_args ?_;(first|refine d_fn (gce_a b.ms _ _ _) ?_|refine d_fn (gwithin_c _ _ _ _) ?_|refine d_fn (gcheckafter_c b.ads _ _ hb1) ?_|refine d_fn (gorder_b b hb _) ?_|refine d_fnW (hadd _) ?_|refine d_fnQ (fun _=>gce_a b.ms _ _ _) ?_|refine d_fnQ (fun _=>gwithin_c _ _ _ _) ?_|refine d_fnQ (fun _=>gcheckafter_c b.ads _ _ hb1) ?_|refine d_fnQ (fun _=>gorder_b b hb _) ?_)<;>try first|omega|assumption)|(refine g_d ?_;(first|refine d_fnY (gce_a b.ms _ _ _) ?_|refine d_fnY (gwithin_c _ _ _ _) ?_|refine d_fnY (gcheckafter_c b.ads _ _ hb1) ?_|refine d_fnY (gorder_b b hb _) ?_)<;>try first|omega|assumption)))
      all_goals(try(exfalso;omega))
      all_goals try
        (refine r_es hQ ?_
         have he:=fE_is hi hi2 (hat.trans (if_pos (by omega))) (by omega)
         rw [if_pos (by rw [he];omega),he]
         done)
      all_goals try
        (refine r_es hQ ?_
         have he:=fE_is hi hi2 (hat.trans ((if_neg (by omega)).trans (if_pos (by omega)))) (by decide)
         rw [if_pos (by rw [he];decide),he]
         done)
      all_goals try
        (refine r_es hQ ?_
         have he:=fE_is hi hi2 (hat.trans ((if_neg (by omega)).trans (if_neg (by omega)))) (by omega)
         rw [if_pos (by rw [he];omega),he]
         done)
      all_goals(refine nextL_ hK (i+1) ⟨hi,up_zero hi2 (hat.trans (by rw [if_neg (by omega),if_neg (by omega)];omega))⟩ (by omega))
    · rw [if_neg h1] at hadd
      have he:=fE_is hi hi2 (hat.trans (if_pos h1)) h1
      rw [if_pos (by rw [he];exact h1),he] at hQ
      (have FX:=And.intro hla (And.intro hga hlo);repeat'(first|(refine sx ?_ ?_<;>intro h<;>first|(exfalso;omega)|skip)|(refine g_op ?_;refine g_call ?_;refine g_args ?_;(first|refine s_fn (gce_a b.ms _ _ _) ?_|refine s_fn (gwithin_c _ _ _ _) ?_|refine s_fn (gcheckafter_c b.ads _ _ hb1) ?_|refine s_fn (gorder_b b hb _) ?_|refine s_fnO (hcm _) ?_|refine s_fnW (hadd _) ?_)<;>try first|omega|assumption)|refine ny ?_|refine WA_block ?_|(refine uB8_19_22 ?_;refine⟨by kernel_rfl,?_⟩)|((first|refine grp_cons (fun _=>gce_a b.ms _ _ _) ?_|refine grp_cons (fun _=>gwithin_c _ _ _ _) ?_|refine grp_cons (fun _=>gcheckafter_c b.ads _ _ hb1) ?_|refine grp_cons (fun _=>gorder_b b hb _) ?_|refine grp_w (hadd _) ?_)<;>try first|omega|assumption)|(refine g_d ?_;refine d_args ?_;(first|refine d_fn (gce_a b.ms _ _ _) ?_|refine d_fn (gwithin_c _ _ _ _) ?_|refine d_fn (gcheckafter_c b.ads _ _ hb1) ?_|refine d_fn (gorder_b b hb _) ?_|refine d_fnW (hadd _) ?_|refine d_fnQ (fun _=>gce_a b.ms _ _ _) ?_|refine d_fnQ (fun _=>gwithin_c _ _ _ _) ?_|refine d_fnQ (fun _=>gcheckafter_c b.ads _ _ hb1) ?_|refine d_fnQ (fun _=>gorder_b b hb _) ?_)<;>try first|omega|assumption)|(refine g_d ?_;(first|refine d_fnY (gce_a b.ms _ _ _) ?_|refine d_fnY (gwithin_c _ _ _ _) ?_|refine d_fnY (gcheckafter_c b.ads _ _ hb1) ?_|refine d_fnY (gorder_b b hb _) ?_)<;>try first|omega|assumption)))
      all_goals(try(exfalso;omega))
      all_goals((refine r_es hQ ?_;try with_reducible rfl))
  · obtain rfl:i=b.ads.length:=by omega
    have hga:=hla
    have hadd:=hla
    rw [if_neg (by rw [fE_zero.2 hi2];decide)] at hQ
    (have FX:=And.intro hla (And.intro hga hlo);repeat'(first|(refine sx ?_ ?_<;>intro h<;>first|(exfalso;omega)|skip)|(refine g_op ?_;refine g_call ?_;refine g_args ?_;(first|refine s_fn (gce_a b.ms _ _ _) ?_|refine s_fn (gwithin_c _ _ _ _) ?_|refine s_fn (gcheckafter_c b.ads _ _ hb1) ?_|refine s_fn (gorder_b b hb _) ?_|refine s_fnO (hcm _) ?_|refine s_fnW (hadd _) ?_)<;>try first|omega|assumption)|refine ny ?_|refine WA_block ?_|(refine uB8_19_22 ?_;refine⟨by kernel_rfl,?_⟩)|((first|refine grp_cons (fun _=>gce_a b.ms _ _ _) ?_|refine grp_cons (fun _=>gwithin_c _ _ _ _) ?_|refine grp_cons (fun _=>gcheckafter_c b.ads _ _ hb1) ?_|refine grp_cons (fun _=>gorder_b b hb _) ?_|refine grp_w (hadd _) ?_)<;>try first|omega|assumption)|(refine g_d ?_;refine d_args ?_;(first|refine d_fn (gce_a b.ms _ _ _) ?_|refine d_fn (gwithin_c _ _ _ _) ?_|refine d_fn (gcheckafter_c b.ads _ _ hb1) ?_|refine d_fn (gorder_b b hb _) ?_|refine d_fnW (hadd _) ?_|refine d_fnQ (fun _=>gce_a b.ms _ _ _) ?_|refine d_fnQ (fun _=>gwithin_c _ _ _ _) ?_|refine d_fnQ (fun _=>gcheckafter_c b.ads _ _ hb1) ?_|refine d_fnQ (fun _=>gorder_b b hb _) ?_)<;>try first|omega|assumption)|(refine g_d ?_;(first|refine d_fnY (gce_a b.ms _ _ _) ?_|refine d_fnY (gwithin_c _ _ _ _) ?_|refine d_fnY (gcheckafter_c b.ads _ _ hb1) ?_|refine d_fnY (gorder_b b hb _) ?_)<;>try first|omega|assumption)))
    all_goals(try(exfalso;omega))
    all_goals((refine r_es hQ ?_;try with_reducible rfl))
    all_goals(refine congrArg (V.int .i64) ?_;first|(rw [if_pos (by omega)];done)|(rw [if_neg (by omega)];done))
theorem gcheckbench_c(b:BnR)(hb:Bl b)(m:Mem):Gives Tryz.prog 19 [.agg (bnV b)] m (.int .i64 (bnErr b)):=by
  by_cases h:mssErr b.ms=0
  · exact gcb_ok b hb h m
  · exact gcb_bad b hb h m
end Go.Proofs.YtookikhphobnlaaGreatDoor
namespace Go.Proofs.YtookikhphobnlaaGreatDoor
open Go.RowKit
/-- what a step adds to the measure with a name -/
def byL(l:List EfR)(s:Txt):Int:=match l.find? (isF s) with
  |some e=>e.by_
  |none=>0
def stErrAt(ads:List AdR)(l:List Int)(i:Nat):Int:=if (ads.getD i adz).least≤l.getD i 0∧l.getD i 0≤(ads.getD i adz).most then 0 else 2
/-- the error of steps -/
def stErr(ads:List AdR)(l:List Int):Int:=if l.length≠ads.length then 10 else fE (stErrAt ads l) ads.length
def byN(b:BnR)(k i:Nat):Int:=byL (b.ads.getD k adz).effs (b.ms.getD i msz).name
def valK(b:BnR)(l:List Int)(i:Nat):Nat→Int
  |0=>(b.ms.getD i msz).val
  |k+1=>valK b l i k+l.getD k 0 * byN b k i
/-- the value of a measure behind steps -/
def valP(b:BnR)(l:List Int)(i:Nat):Int:=valK b l i b.ads.length
def valsP(b:BnR)(l:List Int)(n:Nat):List Int:=(List.range n).map (valP b l)
def brkB(b:BnR)(l:List Int)(i:Nat):Bool:=!decide ((b.ms.getD i msz).low≤valP b l i∧valP b l i≤(b.ms.getD i msz).high)
/-- the measures that are broken -/
def brkP(b:BnR)(l:List Int)(n:Nat):List Nat:=(List.range n).filter (brkB b l)
theorem valsP_length(b:BnR)(l:List Int)(n:Nat):(valsP b l n).length=n:=by simp [valsP]
theorem valsP_succ(b:BnR)(l:List Int)(n:Nat):valsP b l (n+1)=valsP b l n++[valP b l n]:=by simp [valsP,List.range_succ]
theorem brkP_succ(b:BnR)(l:List Int)(n:Nat):brkP b l (n+1)=if brkB b l n=true then brkP b l n++[n] else brkP b l n:=by
  unfold brkP
  rw [List.range_succ,List.filter_append]
  by_cases h:brkB b l n=true
  · rw [if_pos h];simp [h]
  · rw [if_neg h];simp [h]
theorem stErr_ok{ads:List AdR}{l:List Int}(h:stErr ads l=0):l.length=ads.length∧∀ i,i<ads.length→(ads.getD i adz).least≤l.getD i 0∧l.getD i 0≤(ads.getD i adz).most:=by
  unfold stErr at h
  split at h
  · simp at h
  · rename_i h1
    refine⟨by omega,fun i hi=>?_⟩
    have h2:=fE_zero.1 h i hi
    unfold stErrAt at h2
    split at h2
    · assumption
    · simp at h2
/-- what is known of a right bench, for sums -/
structure Bnd(b:BnR):Prop where
  fm:b.ms.length≤12
  fa:b.ads.length≤12
  va:∀ i,i<b.ms.length→(-100000≤(b.ms.getD i msz).val∧(b.ms.getD i msz).val≤100000)∧(-100000≤(b.ms.getD i msz).low∧(b.ms.getD i msz).low≤(b.ms.getD i msz).high)∧(b.ms.getD i msz).high≤100000
  by_:∀ k i, -1000≤byN b k i∧byN b k i≤1000
  le:∀ k,k<b.ads.length→ -1000≤(b.ads.getD k adz).least∧(b.ads.getD k adz).least≤0
  mo:∀ k,k<b.ads.length→0≤(b.ads.getD k adz).most∧(b.ads.getD k adz).most≤1000
  pa:∀ k,k<b.ads.length→1≤(b.ads.getD k adz).pass∧(b.ads.getD k adz).pass≤1000
theorem mul_bd{x y a c:Int}(ha:0≤a)(h1: -a≤x∧x≤a)(h2: -c≤y∧y≤c): -(a * c)≤x * y∧x * y≤a * c:=by
  have hx:x.natAbs≤a.natAbs:=by omega
  have hy:y.natAbs≤c.natAbs:=by omega
  have hc:0≤c:=by omega
  have h:=Nat.mul_le_mul hx hy
  rw [←Int.natAbs_mul,←Int.natAbs_mul] at h
  have:0≤a * c:=Int.mul_nonneg ha hc
  omega
theorem valK_bd{b:BnR}(hb:Bnd b){l:List Int}{i:Nat}(hi:i<b.ms.length)(hl:∀ k,k<b.ads.length→ -1000≤l.getD k 0∧l.getD k 0≤1000):∀ k,k≤b.ads.length→ -(100000+1000000 * (k:Int))≤valK b l i k∧valK b l i k≤100000+1000000 * (k:Int)
  |0,_=>by have:=(hb.va i hi).1;simp only [valK];omega
  | k+1,hk=>by
    have ih:=valK_bd hb hi hl k (by omega)
    have h1:=mul_bd (a:=1000) (c:=1000) (by decide) (hl k (by omega)) (hb.by_ k i)
    simp only [valK]
    omega
theorem valP_bd{b:BnR}(hb:Bnd b){l:List Int}{i:Nat}(hi:i<b.ms.length)(hl:∀ k,k<b.ads.length→ -1000≤l.getD k 0∧l.getD k 0≤1000): -13000000≤valP b l i∧valP b l i≤13000000:=by
  have h:=valK_bd hb hi hl b.ads.length (Nat.le_refl _)
  have:=hb.fa
  unfold valP
  omega
theorem steps_bd{b:BnR}(hb:Bnd b){l:List Int}(h:∀ i,i<b.ads.length→(b.ads.getD i adz).least≤l.getD i 0∧l.getD i 0≤(b.ads.getD i adz).most):∀ k,k<b.ads.length→ -1000≤l.getD k 0∧l.getD k 0≤1000:=fun k hk=>by
  have h1:=h k hk
  have h2:=hb.le k hk
  have h3:=hb.mo k hk
  omega
end Go.Proofs.YtookikhphobnlaaGreatDoor
