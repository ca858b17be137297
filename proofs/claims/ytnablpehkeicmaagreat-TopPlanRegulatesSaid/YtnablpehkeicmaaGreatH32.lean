/- contract: what a plan reaches, regulated -/
import Derived.Test.YtnablpehkeicmaaGreatH31
import Derived.Test.YtnablpehkeicmaaGreatD32
set_option linter.unusedSimpArgs false
set_option linter.unusedVariables false
namespace Go.Proofs.YtnablpehkeicmaaGreat
open Go.RowKit
attribute [local irreducible] WA WOs WDs WAn qThen qBlock tput
set_option maxHeartbeats 1000000
set_option maxRecDepth 20000
set_option linter.unusedSimpArgs false
set_option linter.unusedVariables false
set_option maxHeartbeats 4000000
theorem Gives_nlM{P:Program}{f:FuncId}{a c:V}{m:Mem}{v:V}(h:Gives P f [a,.lst [],c] m v):Gives P f [a,.nilsl,c] m v:=by
  refine⟨h.1,fun w ρ xs hM hA=>h.2 w ρ xs hM ⟨by simpa using hA.1,fun i v x h1 h2=>?_⟩⟩
  have hi:i<3:=by
    have:=(List.getElem?_eq_some_iff.1 h1).1
    simpa using this
  rcases i with _|_|_|i
  · exact hA.2 0 v x h1 h2
  · have h3:=hA.2 1 .nilsl x rfl h2
    simp only [List.getElem?_cons_succ,List.getElem?_cons_zero,Option.some.injEq] at h1
    subst h1
    cases h3
    exact .lnil none 0 (by unfold maxLen;omega) (fun _=>rfl)
  · exact hA.2 2 v x h1 h2
  · omega
/-- the measures with the first values written -/
def wrM(l:List MsR)(vs:List Int)(i:Nat):List MsR:=l.mapIdx fun k x=>if k<i then { x with val:=vs.getD k 0 } else x
theorem wrM_len(l:List MsR)(vs:List Int)(i:Nat):(wrM l vs i).length=l.length:=by simp [wrM]
theorem wrM_0(l:List MsR)(vs:List Int):wrM l vs 0=l:=by
  refine List.ext_getElem (by simp [wrM]) fun k h1 h2=>?_
  simp [wrM]
theorem wrM_at{l:List MsR}{vs:List Int}{i:Nat}(h:i<l.length):(mssV (wrM l vs i))[i]?=some (msV (l.getD i msz)):=by
  simp [mssV,wrM,List.getElem?_mapIdx,List.getD_eq_getElem?_getD,List.getElem?_eq_getElem h]
theorem wrM_set{l:List MsR}{vs:List Int}{i:Nat}(h:i<l.length):(mssV (wrM l vs i)).set i [.str (l.getD i msz).name,.int .i64 (vs.getD i 0),.int .i64 (l.getD i msz).low,.int .i64 (l.getD i msz).high]=mssV (wrM l vs (i+1)):=by
  refine List.ext_getElem (by simp [mssV,wrM]) fun k h1 h2=>?_
  have hk:k<l.length:=by simpa [mssV,wrM] using h2
  rw [List.getElem_set]
  by_cases e:i=k
  · subst e
    simp [mssV,wrM,msV,List.getD_eq_getElem?_getD,List.getElem?_eq_getElem h]
  · rw [if_neg e]
    simp only [mssV,wrM,List.getElem_map,List.getElem_mapIdx]
    have:(k<i+1)=(k<i):=by rw [eq_iff_iff];omega
    simp only [this]
theorem wrM_lv(b:BnR)(S:List Int):(wrM b.ms (valsP b S b.ms.length) b.ms.length).map (fun x=>(x.name,x.val))=lvM b S:=by
  refine List.ext_getElem (by simp [wrM,lvM]) fun k h1 h2=>?_
  have hk:k<b.ms.length:=by simpa [wrM] using h1
  simp [wrM,lvM,valsP,hk,List.getD_eq_getElem?_getD,List.getElem?_eq_getElem hk]
def nmSt:List (List UInt8)→TV
  |[]=> .v .nilsl
  |_::r=> .sl 1 (r.length+1)
def nmEx:List (List UInt8)→List TB
  |[]=>[]
  |p::r=>[.cells .own 9 1 ((txV (p::r)).map (List.map TV.v))]
def rgE(l:List MsR)(o:List (List UInt8)):List TB:= .cells .own 32 4 ((mssV l).map (List.map TV.v))::nmEx o
def rgS(g:Int)(vs:List Int)(n:Nat)(o:List (List UInt8))(i:Nat):List TV:=[.v (.int .i64 g),.v (.lst (nsV vs)),.sl 0 n,nmSt o,.v (.int .i64 i)]
theorem rgE_ok{l:List MsR}{o:List (List UInt8)}:(rgE l o).all (TB.ok (rgE l o).length)=true:=by
  unfold rgE
  cases o with
  |nil=>simp only [nmEx,List.all_cons,TB.ok,TV.okT,List.all_nil,Bool.and_true,Bool.and_self,tv_ok,List.length_cons,List.length_nil]
  |cons p r=>simp only [nmEx,List.all_cons,TB.ok,TV.okT,List.all_nil,Bool.and_true,Bool.and_self,tv_ok,List.length_cons,List.length_nil]
theorem rgS_ok{l:List MsR}{g:Int}{vs:List Int}{n:Nat}{o:List (List UInt8)}{i:Nat}:(rgS g vs n o i).all (TV.okT (rgE l o).length)=true:=by
  unfold rgE rgS
  cases o<;>simp [TV.okT,nmSt,nmEx]
theorem txV_snoc(o:List (List UInt8))(s:List UInt8):txV (o++[s])=txV o++[[V.str s]]:=by simp [txV]

theorem treg_c (b:BnR) (hb:Bl b) (plan:List (List StR)) (S:List Int) (hSe:suE b plan=0) (hSs:suS b plan=S) (hst:bsErr b S=0) (hgood:brkP b S b.ms.length=[]) (g:Int) (hA:acErr (lvA (lvM b S))=0) (hL:Lt (lvA (lvM b S))) (hO:odErr (lvA (lvM b S)) ((lvM b S).map (·.1)) g=(0,0)) (m:Mem):Gives Tryz.prog 11 [.agg (bnV b),.lst (plV plan),.int .i64 g] m (.bool true):=by
  have hlm:=mssV_length (l:=b.ms)
  have hlv:(nsV (valsP b S b.ms.length)).length=b.ms.length:=by rw [nsV_length,valsP_length]
  have hcp:=fun m=>rcopy_c b hb m
  have hsu:=fun m=>gSums_c b hb plan m
  rw [hSe,hSs] at hsu
  have hva:=fun m=>gValues_ok b hb S hst m
  have hco:=fun m=>rcopy_o b hb m
  unfold coR at hco
  unfold bnV at*
  generalize suN b plan=sn at*
  have hvl:(valsP b S b.ms.length).length=b.ms.length:=valsP_length b S b.ms.length
  have hle:=fun m=>tlevers_c (wrM b.ms (valsP b S b.ms.length) b.ms.length) (by rw [wrM_len];exact hb.nm) m
  rw [wrM_lv] at hle
  have hch:=fun m=>acheckorder_c (lvA (lvM b S)) hL (b.ms.map (·.name)) g (by rw [List.length_map];exact hb.nm) m
  rw [if_neg (by omega)] at hch
  unfold odV at hch
  rw [←lvM_names b S,hO,lvM_names] at hch
  generalize actV (lvA (lvM b S))=A at*
  have hnm:=hb.nm
  generalize valsP b S b.ms.length=vs at*
  refine Gives_in Tryz.func11 rfl Tryz.ntmps11 Tryz.results11 (by kernel_rfl) (by simp) rfl fun Q hQ=>?_
  refine WA_stop fun K0 hK0=>?_
  (have FX:=And.intro hlm hlv;repeat'(first|(refine sx ?_ ?_<;>intro h<;>first|(exfalso;omega)|skip)|(refine na ?_;(first|refine nb hcp ?_|refine nb hsu ?_|refine nb hva ?_)<;>try first|omega|assumption)|refine ny ?_|refine WA_block ?_))
  refine hK0 _ _ ?_
  clear hK0 K0 FX
  refine WA_stop fun K0 hK0=>?_
  (have FX:=And.intro hlm hlv;repeat'(first|(refine sx ?_ ?_<;>intro h<;>first|(exfalso;omega)|skip)|(refine na ?_;(first|refine nb hcp ?_|refine nb hsu ?_|refine nb hva ?_)<;>try first|omega|assumption)|refine ny ?_|refine WA_block ?_))
  refine hK0 _ _ ?_
  clear hK0 K0 FX
  refine WA_stop fun K0 hK0=>?_
  (have FX:=And.intro hlm hlv;repeat'(first|(refine sx ?_ ?_<;>intro h<;>first|(exfalso;omega)|skip)|(refine na ?_;(first|refine nb hcp ?_|refine nb hsu ?_|refine nb hva ?_)<;>try first|omega|assumption)|refine ny ?_|refine WA_block ?_))
  all_goals(try(exfalso;omega))
  refine hK0 _ _ ?_
  clear hK0 K0 FX
  refine WA_stop fun K0 hK0=>?_
  (have FX:=And.intro hlm hlv;repeat'(first|(refine sx ?_ ?_<;>intro h<;>first|(exfalso;omega)|skip)|(refine na ?_;(first|refine nb hcp ?_|refine nb hsu ?_|refine nb hva ?_)<;>try first|omega|assumption)|refine ny ?_|refine WA_block ?_))
  refine hK0 _ _ ?_
  clear hK0 K0 FX
  refine WA_stop fun K0 hK0=>?_
  (have FX:=And.intro hlm hlv;repeat'(first|(refine sx ?_ ?_<;>intro h<;>first|(exfalso;omega)|skip)|(refine na ?_;(first|refine nb hcp ?_|refine nb hsu ?_|refine nb hva ?_)<;>try first|omega|assumption)|refine ny ?_|refine WA_block ?_))
  all_goals(try(exfalso;omega))
  refine hK0 _ _ ?_
  clear hK0 K0 FX hcp
  have hcp:=hlm
  (have FX:=And.intro hlm hlv;repeat'(first|(refine sx ?_ ?_<;>intro h<;>first|(exfalso;omega)|skip)|(refine na ?_;(first|refine nb hcp ?_|refine nb hsu ?_|refine nb hva ?_)<;>try first|omega|assumption)|refine ny ?_|refine WA_block ?_))
  refine g_op ?_;refine g_call ?_;refine g_args ?_;refine s_fnA (hco _) ?_
  rintro v mo (⟨ha,D,rfl,rfl⟩|⟨ha,D,rfl,rfl⟩)
  all_goals simp only [Option.getD_some,←List.append_assoc]
  all_goals generalize hsN:List.length (lend m++[Blk.cells .own 25 2 [[.lst (mssV b.ms),.lst (adsV b.ads)]]])+List.length D=sN
  all_goals generalize hB':((lend m++[Blk.cells .own 25 2 [[.lst (mssV b.ms),.lst (adsV b.ads)]]])++D:Mem)=B'
  all_goals have hs2:sN=B'.length:=by rw [←hsN,←hB'];simp only [List.length_append]
  all_goals rw [hs2]
  all_goals(have FX:=And.intro hlm hlv;repeat'(first|(refine sx ?_ ?_<;>intro h<;>first|(exfalso;omega)|skip)|(refine na ?_;(first|refine nb hcp ?_|refine nb hsu ?_|refine nb hva ?_)<;>try first|omega|assumption)|refine ny ?_|refine WA_block ?_))
  all_goals refine WA_ren (L:=B') (ks:=[2,10,12,13,14]) (vs:=rgS g vs b.ms.length [] 0) (Ts:=rgE (wrM b.ms vs 0) []) (js:=[0]) ⟨_,rfl,(by simp only [rgS,nmSt,List.map_cons,List.map_nil,TV.inst,List.getD_cons_zero,Nat.add_zero];exact tv_),(by rw [wrM_0];simp only [rgE,nmEx,List.map_cons,List.map_nil,TB.inst,TV.inst,tv_map];rfl),by decide⟩ (by decide) rgS_ok rgE_ok ?_
  all_goals rintro B1 ⟨D1,hB1⟩
  all_goals clear FX hsu hva hco hcp
  all_goals refine WA_whileT (σ:=Nat) (L:=B1) [2,10,12,13,14] (fun i=>rgS g vs b.ms.length ((b.ms.take i).map (·.name)) i) (fun i=>rgE (wrM b.ms vs i) ((b.ms.take i).map (·.name))) (fun i=>i≤b.ms.length) (fun i=>b.ms.length - i) 0 (Nat.zero_le _) (by simp only [rgS,nmSt,zipT,List.take_zero,List.map_cons,List.map_nil,TV.inst,Nat.add_zero];exact tv_) rfl (by decide) (fun _ _=>rgS_ok) (fun _ _=>rgE_ok) ?_
  all_goals
    rintro i hi B2 ⟨D2,hB2⟩ K hK
    rcases Nat.lt_or_ge i b.ms.length with hlt|hge
    · have hga:=wrM_at (vs:=vs) hlt
      have hgv:=nsV_get (l:=vs) (i:=i) (by omega)
      have hset:=wrM_set (vs:=vs) hlt
      have hsu:(b.ms.take (i+1)).map (·.name)=(b.ms.take i).map (·.name)++[(b.ms.getD i msz).name]:=by
        rw [List.take_succ_eq_append_getElem hlt,List.map_append]
        have:b.ms.getD i msz=b.ms[i]:=by rw [List.getD_eq_getElem?_getD,List.getElem?_eq_getElem hlt];rfl
        rw [this]
        rfl
      have hwl:(mssV (wrM b.ms vs i)).length=b.ms.length:=by rw [mssV_length,wrM_len]
      have hgs:((mssV (wrM b.ms vs i)).set i [.str (b.ms.getD i msz).name,.int .i64 (vs.getD i 0),.int .i64 (b.ms.getD i msz).low,.int .i64 (b.ms.getD i msz).high])[i]?=some [.str (b.ms.getD i msz).name,.int .i64 (vs.getD i 0),.int .i64 (b.ms.getD i msz).low,.int .i64 (b.ms.getD i msz).high]:=by
        rw [List.getElem?_set_self (by rw [hwl];exact hlt)]
      have hnx:=hK (i+1)
      rw [hsu] at hnx
      have hny:=fun(_:Unit)=>hnx
      have hol:((b.ms.take i).map (·.name)).length=i:=by rw [List.length_map,List.length_take];omega
      clear hnx hsu hK
      simp only [rgE]
      generalize mssV (wrM b.ms vs i)=es at*
      generalize vs.getD i 0=vv at*
      generalize b.ms.getD i msz=x at*
      generalize (b.ms.take i).map (·.name)=o at*
      obtain⟨nm,vl,lo,hg⟩:=x
      unfold msV at hga
      dsimp only at hga hny hgs hset
      cases o with
      | nil=>
        have hll:=hlm
        have hlt2:=hlm
        have hsn:txV ([]++[nm])=[[V.str nm]]:=rfl
        simp only [rgS,nmSt,nmEx]
        simp only [List.map_cons,List.map_nil,TB.inst,TV.inst,tv_map,zipT,List.cons_append,List.nil_append,Nat.add_zero]
        (have FX:=fx8 hlm hlv hga hgv hwl hgs hll hlt2;repeat'(first|(refine sx ?_ ?_<;>intro h<;>first|(exfalso;omega)|skip)|refine ny ?_|refine WA_block ?_))
        all_goals(try(exfalso;omega))
        all_goals((refine nextU_ hny (()) [0,2] (hlt) (by omega) ?_ (ht:=?_);(focus (simp only [rgE,nmEx,hsn,←hset,List.nil_append,List.map_cons,List.map_nil,TB.inst,TV.inst,tv_map,List.cons_append,List.nil_append];first|rfl|(simp [ptsV,ptV];done)|(simp [hpsV,hpV];done)|(simp [frsV,frV];done)|(simp [txV];done)|(simp [prtsV,prtV];done)));(simp only [rgS,nmSt,List.length_cons,List.map_cons,List.map_nil,TV.inst,List.getD_cons_zero,List.getD_cons_succ];exact tv_)))
      | cons p r=>
        have hll:(txV (p::r)).length=r.length+1:=txV_length
        have hlt2:(txV (p::r)).take (r.length+1)=txV (p::r):=by rw [List.take_of_length_le (by rw [hll];exact Nat.le_refl _)]
        simp only [List.length_cons] at hol
        simp only [rgS,nmSt,nmEx]
        simp only [List.map_cons,List.map_nil,TB.inst,TV.inst,tv_map,zipT,List.cons_append,List.nil_append,Nat.add_zero]
        (have FX:=fx8 hlm hlv hga hgv hwl hgs hll hlt2;repeat'(first|(refine sx ?_ ?_<;>intro h<;>first|(exfalso;omega)|skip)|refine ny ?_|refine WA_block ?_))
        all_goals(try(exfalso;omega))
        all_goals((refine nextU_ hny (()) [0,3] (hlt) (by omega) ?_ (ht:=?_);(focus (simp only [rgE,nmEx,txV_snoc,←hset,List.cons_append,List.map_cons,List.map_nil,TB.inst,TV.inst,tv_map,List.cons_append,List.nil_append];first|rfl|(simp [ptsV,ptV];done)|(simp [hpsV,hpV];done)|(simp [frsV,frV];done)|(simp [txV];done)|(simp [prtsV,prtV];done)));(simp only [rgS,nmSt,List.cons_append,List.length_append,List.length_cons,List.length_nil,Nat.zero_add,List.map_cons,List.map_nil,TV.inst,List.getD_cons_zero,List.getD_cons_succ];exact tv_)))
    · obtain rfl:i=b.ms.length:=by omega
      clear hK
      have hne:∀ (a c d:Nat),(a+c=a+d)=(c=d):=fun a c d=>by simp
      have hn0:∀ (a d:Nat),(a=a+d)=(0=d):=fun a d=>by rw [eq_iff_iff];omega
      have hwl:(mssV (wrM b.ms vs b.ms.length)).length=b.ms.length:=by rw [mssV_length,wrM_len]
      rw [List.take_of_length_le (Nat.le_refl b.ms.length)]
      simp only [rgE]
      generalize mssV (wrM b.ms vs b.ms.length)=es at*
      have hwt:es.take b.ms.length=es:=List.take_of_length_le (by omega)
      have hga:=hlm
      have hgv:=hlm
      have hll:=hlm
      have hlt2:=hlm
      cases hml:b.ms.map (·.name) with
      | nil=>
        rw [hml] at hch
        have hch:=fun m=>Gives_nlM (hch m)
        simp only [rgS,nmSt,nmEx]
        simp only [List.map_cons,List.map_nil,TB.inst,TV.inst,tv_map,zipT,List.cons_append,List.nil_append,Nat.add_zero]
        refine WA_fzM (j:=0) rfl ?_
        simp (decide:=true) only [List.map_cons,List.map_nil,List.map_append,frzV,frzC,List.set_cons_succ,List.set_cons_zero,hne,hn0,Nat.reduceEqDiff,false_and,true_and,if_false,if_true,hwl,hwt,Nat.le_refl]
        clear hne hn0
        (have FX:=fx3 hlm hlv hwl;repeat'(first|(refine sx ?_ ?_<;>intro h<;>first|(exfalso;omega)|skip)|(refine na ?_;(first|refine nb hle ?_|refine nb hch ?_)<;>try first|omega|assumption)|refine ny ?_|refine WA_block ?_))
        all_goals(try(exfalso;omega))
        all_goals(refine r_es hQ ?_;try with_reducible rfl)
      | cons p r=>
        rw [hml] at hch
        have hll:(txV (p::r)).length=r.length+1:=txV_length
        have hlt2:(txV (p::r)).take (r.length+1)=txV (p::r):=by rw [List.take_of_length_le (by rw [hll];exact Nat.le_refl _)]
        have htf:∀ (B:Nat) (e:List (List V)),(txV (p::r)).map (List.map (frzV B e))=txV (p::r):=fun B e=>by simp [txV,frzV]
        simp only [rgS,nmSt,nmEx]
        simp only [List.map_cons,List.map_nil,TB.inst,TV.inst,tv_map,zipT,List.cons_append,List.nil_append,Nat.add_zero]
        generalize txV (p::r)=tx at*
        refine WA_fzM (j:=0) rfl ?_
        simp (decide:=true) only [List.map_cons,List.map_nil,List.map_append,frzV,frzC,List.set_cons_succ,List.set_cons_zero,hne,hn0,Nat.reduceEqDiff,false_and,true_and,if_false,if_true,hwl,hwt,htf,Nat.le_refl]
        refine WA_fzM (j:=1) rfl ?_
        simp (decide:=true) only [List.map_cons,List.map_nil,List.map_append,frzV,frzC,List.set_cons_succ,List.set_cons_zero,hne,hn0,Nat.reduceEqDiff,false_and,true_and,if_false,if_true,hll,hlt2,htf,Nat.le_refl]
        clear hne hn0
        (have FX:=fx3 hlm hlv hwl;repeat'(first|(refine sx ?_ ?_<;>intro h<;>first|(exfalso;omega)|skip)|(refine na ?_;(first|refine nb hle ?_|refine nb hch ?_)<;>try first|omega|assumption)|refine ny ?_|refine WA_block ?_))
        all_goals(try(exfalso;omega))
        all_goals(refine r_es hQ ?_;try with_reducible rfl)
end Go.Proofs.YtnablpehkeicmaaGreat
