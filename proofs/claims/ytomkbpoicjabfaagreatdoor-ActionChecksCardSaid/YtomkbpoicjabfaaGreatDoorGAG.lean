import Derived.Test.YtomkbpoicjabfaaGreatDoorX3
import Derived.Test.YtomkbpoicjabfaaGreatDoorGAE
import Derived.Test.YtomkbpoicjabfaaGreatDoorGAD
set_option linter.unusedSimpArgs false
set_option linter.unusedVariables false
/- contracts: words read as numbers -/
namespace Go.Proofs.YtomkbpoicjabfaaGreatDoor
open Go.RowKit
attribute [local irreducible] WA WOs WDs WAn qThen qBlock tput
set_option maxHeartbeats 1000000
set_option maxRecDepth 20000
set_option linter.unusedSimpArgs false
set_option linter.unusedVariables false
set_option maxHeartbeats 4000000
/-- a word that is a number of at most d digits, as it is written -/
def numP(d:Nat)(w:Txt):Option Int:=match Lib.atoiAll w with
  | .ok n=>if Lib.itoa n=w∧(Lib.trimPrefix w [45]).length≤d then some n else none
  |_=>none
def numsP(d:Nat):List Txt→Option (List Int)
  |[]=>some []
  |w::r=>(numP d w).bind fun n=>(numsP d r).map fun l=>n::l
theorem numsP_app (d:Nat):∀ (a b:List Txt),numsP d (a++b)=(numsP d a).bind fun l=>(numsP d b).map fun r=>l++r
  | [],b=>by
    simp only [List.nil_append,numsP,Option.bind_some]
    cases numsP d b<;>rfl
  | w ::a,b=>by
    simp only [List.cons_append,numsP,numsP_app d a b]
    cases numP d w with
    |none=>rfl
    | some n=>
      cases numsP d a with
      |none=>rfl
      | some l=>
        cases numsP d b<;>rfl
theorem numsP_len {d:Nat}:∀ {ws:List Txt} {l:List Int},numsP d ws=some l→l.length=ws.length
  |[],l,h=>by simp [numsP] at h;subst h;rfl
  | w ::r,l,h=>by
    simp only [numsP] at h
    cases hn:numP d w with
    |none=>rw [hn] at h;cases h
    | some n=>
      rw [hn] at h
      cases hr:numsP d r with
      |none=>rw [hr] at h;cases h
      | some k=>
        rw [hr] at h
        simp at h
        subst h
        simp [numsP_len hr]
theorem xsV_get{ws:List Txt}{i:Nat}(h:i<ws.length):(xsV ws)[i]?=some [.str (ws.getD i [])]:=by
  unfold xsV;rw [List.getElem?_map,List.getD_eq_getElem?_getD,List.getElem?_eq_getElem h];rfl
theorem take_snocT{ws:List Txt}{i:Nat}(h:i<ws.length):ws.take (i+1)=ws.take i++[ws.getD i []]:=by
  rw [List.take_succ_eq_append_getElem h,List.getD_eq_getElem?_getD,List.getElem?_eq_getElem h];rfl
theorem nsV_snocT(l:List Int)(n:Int):nsV (l++[n])=nsV l++[[.int .i64 n]]:=by simp [nsV]
theorem numsP_none{d:Nat}{ws:List Txt}{i:Nat}(h:i<ws.length)(hn:numP d (ws.getD i [])=none):numsP d ws=none:=by
  have e:ws=ws.take (i+1)++ws.drop (i+1):=(List.take_append_drop _ _).symm
  rw [e,numsP_app,take_snocT h,numsP_app]
  cases numsP d (ws.take i) with
  |none=>rfl
  |some l=>simp only [Option.bind_some,numsP,hn,Option.bind_none,Option.map_none]
def nbV(o:Option (List Int)):V:=match o with
  |some l=> .tup [.lst (nsV l),.bool true]
  |none=> .tup [.lst [],.bool false]
def nxSt:List Int→TV
  |[]=> .v .nilsl
  |_::r=> .sl 0 (r.length+1)
def nuEx:List Int→List TB
  |[]=>[]
  |p::r=>[.cells .own 3 1 ((nsV (p::r)).map (List.map TV.v))]
def nuS(ws:List Txt)(s:Nat×List Int):List TV:=[.v (.lst (xsV ws)),.v (.int .i64 ws.length),.v (.int .i64 s.1),nxSt s.2]
theorem nxE_ok{l:List Int}:(nuEx l).all (TB.ok (nuEx l).length)=true:=by
  cases l with
  |nil=>rfl
  |cons p r=>simp only [nuEx,List.all_cons,TB.ok,TV.okT,List.all_nil,Bool.and_true,Bool.and_self,tv_ok,List.length_cons,List.length_nil]
theorem nxS_ok{ws:List Txt}{s:Nat×List Int}:(nuS ws s).all (TV.okT (nuEx s.2).length)=true:=by
  obtain⟨i,l⟩:=s
  cases l<;>simp [nuS,nxSt,nuEx,TV.okT]

theorem anumbers_c (ws:List Txt) (hl:ws.length≤100000) (hw:∀ i,i<ws.length→(ws.getD i []).length≤100000) (m:Mem):Gives Tryz.prog 60 [.lst (xsV ws)] m (nbV (numsP 7 ws)):=by
  have hlx:=xsV_length (l:=ws)
  suffices key:CallA Tryz.prog 60 [.lst (xsV ws)] m (fun v mo=>mo=none∧WkV v (nbV (numsP 7 ws))) from Gives_ofX key fun v mo h=>h
  refine CallA_in Tryz.func60 rfl Tryz.ntmps60 Tryz.results60 (by kernel_rfl) (by simp) fun Q hQ=>?_
  (have FX:=hlx;repeat'(first|(refine sx ?_ ?_<;>intro h<;>first|(exfalso;omega)|skip)|refine ny ?_|refine WA_block ?_))
  refine WA_whileT (σ:=Nat×List Int) (L:=lend m) [9,10,11,4] (nuS ws) (fun s=>nuEx s.2) (fun s=>s.1≤ws.length∧numsP 7 (ws.take s.1)=some s.2) (fun s=>ws.length - s.1) (0,[]) ⟨Nat.zero_le _,rfl⟩ (by simp only [nuS,nxSt,List.map_cons,List.map_nil,TV.inst];exact tv_) rfl (by decide) (fun _ _=>nxS_ok) (fun _ _=>nxE_ok) ?_
  rintro⟨i,l⟩ ⟨hi,hnl⟩ B ⟨D,hB⟩ K hK
  dsimp only at hi hnl
  clear FX
  have hol:l.length=i:=by rw [numsP_len hnl,List.length_take];omega
  rcases Nat.lt_or_ge i ws.length with hlt|hge
  · have hga :=xsV_get hlt
    have hwl:=hw i hlt
    have hsn:=take_snocT hlt
    have hbad:=numsP_none (d:=7) hlt
    have hnx:∀ n,numP 7 (ws.getD i [])=some n→numsP 7 (ws.take (i+1))=some (l++[n]):=fun n hn=>by
      rw [hsn,numsP_app,hnl]
      simp only [Option.bind_some,numsP,hn,Option.map_some]
    have hny:=fun n (_:numP 7 (ws.getD i [])=some n)=>hK (i+1,l++[n])
    generalize ws.getD i []=w at *
    cases ha:Lib.atoiAll w
    · rename_i n
      obtain⟨b0,b1⟩:=Lib.atoiAll_bounds ha
      have hat:=fun m=>xatoi_ok w n (by omega) ha m
      have hit:=fun m=>xitoa_c n b0 b1 m
      have htr:=fun m=>xtrim_c w [45] m
      have hnp:numP 7 w=if Lib.itoa n=w∧(Lib.trimPrefix w [45]).length≤7 then some n else none:=by unfold numP;rw [ha]
      generalize Lib.itoa n=ii at *
      generalize Lib.trimPrefix w [45]=tt at *
      cases l with
      | nil=>
        have hll:=hlx
        have hlt2:=hlx
        have hsv:nsV ([]++[n])=[[V.int .i64 n]]:=rfl
        simp only [nuS,nxSt,nuEx]
        simp only [List.map_cons,List.map_nil,TB.inst,TV.inst,tv_map,zipT,List.cons_append,List.nil_append,Nat.add_zero]
        (have FX:=And.intro hlx (And.intro hga (And.intro hll hlt2));repeat'(first|(refine sx ?_ ?_<;>intro h<;>first|(exfalso;omega)|skip)|(refine g_op ?_;refine g_call ?_;refine g_args ?_;(first|refine s_fn (hat _) ?_|refine s_fn (hit _) ?_|refine s_fn (htr _) ?_)<;>try first|omega|assumption)|refine ny ?_|refine WA_block ?_))
        all_goals(try(exfalso;omega))
        all_goals(refine g_op ?_;refine s_niN ?_)
        all_goals(have FX:=And.intro hlx (And.intro hga (And.intro hll hlt2));repeat'(first|(refine sx ?_ ?_<;>intro h<;>first|(exfalso;omega)|skip)|(refine g_op ?_;refine g_call ?_;refine g_args ?_;(first|refine s_fn (hat _) ?_|refine s_fn (hit _) ?_|refine s_fn (htr _) ?_)<;>try first|omega|assumption)|refine ny ?_|refine WA_block ?_))
        all_goals(try(exfalso;omega))
        all_goals first
          | (have hnn:numP 7 w=none:=by rw [hnp,if_neg (fun q=>by first|exact absurd q.1 (by assumption)|omega)]
             rw [hbad hnn] at hQ
             refine r_esA hQ (v':= .tup [.nilsl,.bool false]) (.inl ⟨rfl,rfl,show WkV _ (.tup [.lst [],.bool false]) from wk_tup ⟨wk_nil,WkV.refl _,trivial⟩⟩)
             done)
          | (have hnn:numP 7 w=some n:=by rw [hnp,if_pos ⟨by assumption,by omega⟩]
             have hnz:=fun(_:Unit)=>hny n hnn
             (refine nextU_ hnz (()) [1] (⟨hlt,hnx n hnn⟩) (by dsimp only;omega) ?_ (ht:=?_);(focus (simp only [nuEx,hsv,List.nil_append,List.map_cons,List.map_nil,TB.inst,TV.inst,tv_map,List.cons_append,List.nil_append];first|rfl|(simp [ptsV,ptV];done)|(simp [hpsV,hpV];done)|(simp [frsV,frV];done)|(simp [txV];done)|(simp [prtsV,prtV];done)));(simp only [nuS,nxSt,List.nil_append,List.length_nil,List.map_cons,List.map_nil,TV.inst,List.getD_cons_zero,List.getD_cons_succ];exact tv_))
             done)
          | (have hnn:numP 7 w=none:=by rw [hnp,if_neg (fun q=>by first|exact absurd q.1 (by assumption)|omega)]
             rw [hbad hnn] at hQ
             refine r_esA hQ (v':= .tup [.nilsl,.bool false]) ?_)
          |trace_state
      | cons p r=>
        simp only [List.length_cons] at hol
        have hll:(nsV (p::r)).length=r.length+1:=nsV_length
        have hlt2:(nsV (p::r)).take (r.length+1)=nsV (p::r):=by rw [List.take_of_length_le (by rw [hll];exact Nat.le_refl _)]
        have hsv:nsV (p::(r++[n]))=nsV (p::r)++[[V.int .i64 n]]:=nsV_snocT (p::r) n
        simp only [nuS,nxSt,nuEx]
        simp only [List.map_cons,List.map_nil,TB.inst,TV.inst,tv_map,zipT,List.cons_append,List.nil_append,Nat.add_zero]
        (have FX:=And.intro hlx (And.intro hga (And.intro hll hlt2));repeat'(first|(refine sx ?_ ?_<;>intro h<;>first|(exfalso;omega)|skip)|(refine g_op ?_;refine g_call ?_;refine g_args ?_;(first|refine s_fn (hat _) ?_|refine s_fn (hit _) ?_|refine s_fn (htr _) ?_)<;>try first|omega|assumption)|refine ny ?_|refine WA_block ?_))
        all_goals(try(exfalso;omega))
        all_goals(refine g_op ?_;refine s_niN ?_)
        all_goals(have FX:=And.intro hlx (And.intro hga (And.intro hll hlt2));repeat'(first|(refine sx ?_ ?_<;>intro h<;>first|(exfalso;omega)|skip)|(refine g_op ?_;refine g_call ?_;refine g_args ?_;(first|refine s_fn (hat _) ?_|refine s_fn (hit _) ?_|refine s_fn (htr _) ?_)<;>try first|omega|assumption)|refine ny ?_|refine WA_block ?_))
        all_goals(try(exfalso;omega))
        all_goals first
          | (have hnn:numP 7 w=none:=by rw [hnp,if_neg (fun q=>by first|exact absurd q.1 (by assumption)|omega)]
             rw [hbad hnn] at hQ
             refine r_esA hQ (v':= .tup [.nilsl,.bool false]) (.inl ⟨rfl,rfl,show WkV _ (.tup [.lst [],.bool false]) from wk_tup ⟨wk_nil,WkV.refl _,trivial⟩⟩)
             done)
          | (have hnn:numP 7 w=some n:=by rw [hnp,if_pos ⟨by assumption,by omega⟩]
             have hnz:=fun(_:Unit)=>hny n hnn
             (refine nextU_ hnz (()) [2] (⟨hlt,hnx n hnn⟩) (by dsimp only;omega) ?_ (ht:=?_);(focus (simp only [nuEx,hsv,List.cons_append,List.map_cons,List.map_nil,TB.inst,TV.inst,tv_map,List.cons_append,List.nil_append];first|rfl|(simp [ptsV,ptV];done)|(simp [hpsV,hpV];done)|(simp [frsV,frV];done)|(simp [txV];done)|(simp [prtsV,prtV];done)));(simp only [nuS,nxSt,List.cons_append,List.length_append,List.length_cons,List.length_nil,Nat.zero_add,List.map_cons,List.map_nil,TV.inst,List.getD_cons_zero,List.getD_cons_succ];exact tv_))
             done)
          |trace_state
    · have hnn:numP 7 w=none:=by unfold numP;rw [ha]
      rw [hbad hnn] at hQ
      have hll:=hlx
      have hlt2:=hlx
      simp only [nuS]
      simp only [List.map_cons,List.map_nil,TB.inst,TV.inst,tv_map,zipT,List.cons_append,List.nil_append,Nat.add_zero]
      (have FX:=And.intro hlx (And.intro hga (And.intro hll hlt2));repeat'(first|(refine sx ?_ ?_<;>intro h<;>first|(exfalso;omega)|skip)|refine ny ?_|refine WA_block ?_))
      all_goals(try(exfalso;omega))
      refine g_op ?_;refine g_call ?_;refine g_args ?_;refine s_fnA (xatoi_bad w (by omega) (fun v q=>by rw [ha] at q;cases q) _) ?_
      rintro v mo ⟨rfl,n,rfl⟩
      simp only [Option.getD_none]
      (have FX:=And.intro hlx (And.intro hga (And.intro hll hlt2));repeat'(first|(refine sx ?_ ?_<;>intro h<;>first|(exfalso;omega)|skip)|refine ny ?_|refine WA_block ?_))
      refine s_ifN ?_
      (have FX:=And.intro hlx (And.intro hga (And.intro hll hlt2));repeat'(first|(refine sx ?_ ?_<;>intro h<;>first|(exfalso;omega)|skip)|refine ny ?_|refine WA_block ?_))
      all_goals(try(exfalso;omega))
      refine r_esA hQ (v':= .tup [.nilsl,.bool false]) (.inl ⟨rfl,rfl,show WkV _ (.tup [.lst [],.bool false]) from wk_tup ⟨wk_nil,WkV.refl _,trivial⟩⟩)
    · have hnn:numP 7 w=none:=by unfold numP;rw [ha]
      rw [hbad hnn] at hQ
      have hll:=hlx
      have hlt2:=hlx
      simp only [nuS]
      simp only [List.map_cons,List.map_nil,TB.inst,TV.inst,tv_map,zipT,List.cons_append,List.nil_append,Nat.add_zero]
      (have FX:=And.intro hlx (And.intro hga (And.intro hll hlt2));repeat'(first|(refine sx ?_ ?_<;>intro h<;>first|(exfalso;omega)|skip)|refine ny ?_|refine WA_block ?_))
      all_goals(try(exfalso;omega))
      refine g_op ?_;refine g_call ?_;refine g_args ?_;refine s_fnA (xatoi_bad w (by omega) (fun v q=>by rw [ha] at q;cases q) _) ?_
      rintro v mo ⟨rfl,n,rfl⟩
      simp only [Option.getD_none]
      (have FX:=And.intro hlx (And.intro hga (And.intro hll hlt2));repeat'(first|(refine sx ?_ ?_<;>intro h<;>first|(exfalso;omega)|skip)|refine ny ?_|refine WA_block ?_))
      refine s_ifN ?_
      (have FX:=And.intro hlx (And.intro hga (And.intro hll hlt2));repeat'(first|(refine sx ?_ ?_<;>intro h<;>first|(exfalso;omega)|skip)|refine ny ?_|refine WA_block ?_))
      all_goals(try(exfalso;omega))
      refine r_esA hQ (v':= .tup [.nilsl,.bool false]) (.inl ⟨rfl,rfl,show WkV _ (.tup [.lst [],.bool false]) from wk_tup ⟨wk_nil,WkV.refl _,trivial⟩⟩)
  · obtain rfl:i=ws.length:=by omega
    rw [List.take_of_length_le (Nat.le_refl _)] at hnl
    rw [hnl] at hQ
    have hga:=hlx
    clear hK
    cases l with
    | nil=>
      have hll:=hlx
      have hlt2:=hlx
      simp only [nuS,nxSt,nuEx]
      simp only [List.map_cons,List.map_nil,TB.inst,TV.inst,tv_map,zipT,List.cons_append,List.nil_append,Nat.add_zero]
      (have FX:=And.intro hlx (And.intro hga (And.intro hll hlt2));repeat'(first|(refine sx ?_ ?_<;>intro h<;>first|(exfalso;omega)|skip)|refine ny ?_|refine WA_block ?_))
      all_goals(try(exfalso;omega))
      refine r_esA hQ (v':= .tup [.nilsl,.bool true]) (.inl ⟨rfl,rfl,show WkV _ (.tup [.lst [],.bool true]) from wk_tup ⟨wk_nil,WkV.refl _,trivial⟩⟩)
    | cons p r=>
      have hll:(nsV (p::r)).length=r.length+1:=nsV_length
      have hlt2:(nsV (p::r)).take (r.length+1)=nsV (p::r):=by rw [List.take_of_length_le (by rw [hll];exact Nat.le_refl _)]
      simp only [nuS,nxSt,nuEx]
      simp only [List.map_cons,List.map_nil,TB.inst,TV.inst,tv_map,zipT,List.cons_append,List.nil_append,Nat.add_zero]
      (have FX:=And.intro hlx (And.intro hga (And.intro hll hlt2));repeat'(first|(refine sx ?_ ?_<;>intro h<;>first|(exfalso;omega)|skip)|refine ny ?_|refine WA_block ?_))
      all_goals(try(exfalso;omega))
      refine r_esA hQ (v':= .tup [.sl B.length (r.length+1),.bool true]) (fin_sl2 (j:=0) (X:=[.cells .own 3 1 (nsV (p::r))]) hB rfl (by rw [hll];exact Nat.le_refl _) (by rw [hlt2];exact nsV_plain _) (fun m L=>frz_bool m L 3 _) ⟨rfl,by rw [hlt2];exact WkV.refl _⟩)
end Go.Proofs.YtomkbpoicjabfaaGreatDoor
namespace Go.Proofs.YtomkbpoicjabfaaGreatDoor
open Go.RowKit
theorem ext_zero{f:Nat→Int}{i:Nat}(h:∀ j,j<i→f j=0)(hi:f i=0):∀ j,j<i+1→f j=0:=by
  intro j hj
  rcases Nat.lt_or_ge j i with h2|h2
  · exact h j h2
  · have:j=i:=by omega
    subst this;exact hi
theorem firstE_is{f:Nat→Int}{i n:Nat}{e:Int}(hi:i<n)(h0:∀ j,j<i→f j=0)(h:f i=e)(he:e≠0):firstE f n=e:=by
  rw [firstE_at h0 (by rw [h];exact he) hi,h]
def knErrAt(l:List Rk)(i:Nat):Int:=
  if (l.getD i rk0).1.2≠1∨(l.getD i rk0).2.2≠1 then 3 else
  if ¬ (-10000≤(l.getD i rk0).1.1∧(l.getD i rk0).1.1≤10000)∨¬ (-10000≤(l.getD i rk0).2.1∧(l.getD i rk0).2.1≤10000) then 2 else
  if 0<i∧(l.getD i rk0).1.1≤(l.getD (i - 1) rk0).1.1 then 9 else 0
/-- the error of the corners of a part -/
def knErr(l:List Rk):Int:=if ¬ (1≤l.length∧l.length≤12) then 10 else firstE (knErrAt l) l.length
theorem knErr_first{l:List Rk}{i:Nat}{e:Int}(hl:1≤l.length∧l.length≤12)(hi:i<l.length)(h0:∀ j,j<i→knErrAt l j=0)(h:knErrAt l i=e)(he:e≠0):knErr l=e:=by
  unfold knErr
  rw [if_neg (by omega)]
  exact firstE_is hi h0 h he
theorem knErr_none{l:List Rk}(hl:1≤l.length∧l.length≤12)(h0:∀ j,j<l.length→knErrAt l j=0):knErr l=0:=by
  unfold knErr
  rw [if_neg (by omega)]
  exact firstE_zero.2 h0
/-- .. of a part behind others -/
def ptErr(b:List PartR)(p:PartR):Int:=
  if ¬ nameP p.name then 4 else if 0≤fidx (isP p.name) b then 5 else if p.driver≠[]∧fidx (isP p.driver) b<0 then 6 else
  if knErr p.cor≠0 then knErr p.cor else if ¬ (0≤p.wt∧p.wt≤100000)∨¬ (0≤p.fr∧p.fr≤10000) then 2 else 0
def ldErr(l:Int×Int):Int:=if ¬ (1≤l.1∧l.1≤5000)∨¬ (-1000≤l.2∧l.2≤1000) then 2 else 0
def ldErrAt(l:List (Int×Int))(i:Nat):Int:=ldErr (l.getD i l0)
def ldsErr(l:List (Int×Int)):Int:=if 8<l.length then 8 else firstE (ldErrAt l) l.length
def ptErrAt(l:List PartR)(i:Nat):Int:=ptErr (l.take i) (l.getD i p0)
def evErrAt(a:ActR)(i:Nat):Int:=
  let x:=a.evs.getD i e0
  if ¬ nameP x.name then 4 else if 0≤fidx (isE x.name) (a.evs.take i) then 5 else if fidx (isP x.part) a.parts<0 then 6 else if ¬ (-10000≤x.lev∧x.lev≤10000) then 2 else 0
/-- .. of an action -/
def acErr(a:ActR):Int:=
  if ¬ (1≤a.dip∧a.dip≤2000) then 2 else if 12<a.parts.length then 8 else if firstE (ptErrAt a.parts) a.parts.length≠0 then firstE (ptErrAt a.parts) a.parts.length else
  if 20<a.evs.length then 8 else if firstE (evErrAt a) a.evs.length≠0 then firstE (evErrAt a) a.evs.length else ldsErr a.leads
end Go.Proofs.YtomkbpoicjabfaaGreatDoor
