import Derived.Test.YtjonlmpjdhoogaaGreatDoorGAH
import Derived.Test.YtjonlmpjdhoogaaGreatDoorY3
import Derived.Test.YtjonlmpjdhoogaaGreatDoorGAG
import Derived.Test.YtjonlmpjdhoogaaGreatDoorG8
set_option linter.unusedSimpArgs false
set_option linter.unusedVariables false
/- contract: the reference's Parse -/
namespace Go.Proofs.YtjonlmpjdhoogaaGreatDoor
open Go.RowKit
attribute [local irreducible] WA WOs WDs WAn qThen qBlock tput
set_option maxHeartbeats 1000000
set_option maxRecDepth 20000
set_option linter.unusedSimpArgs false
set_option linter.unusedVariables false
set_option maxHeartbeats 4000000
def rxE:List Pl→List TB
  |[]=>[]
  |p::r=>[.cells .own 62 6 ((plsV (p::r)).map (List.map TV.v))]
def rxL:List Pl→TV
  |[]=> .v .nilsl
  |_::r=> .sl 0 (r.length+1)
def rxS(rows:List Txt)(z:Nat×List Pl):List TV:=[.v (.lst (xsV rows)),.v (.int .i64 ((rows.length:Int) - 1)),rxL z.2,.v (.int .i64 z.1)]
theorem rxE_ok{l:List Pl}:(rxE l).all (TB.ok (rxE l).length)=true:=by
  cases l with
  |nil=>rfl
  |cons p r=>simp only [rxE,List.all_cons,TB.ok,TV.okT,List.all_nil,Bool.and_true,Bool.and_self,tv_ok,List.length_cons,List.length_nil]
theorem rxS_ok{rows:List Txt}{z:Nat×List Pl}:(rxS rows z).all (TV.okT (rxE z.2).length)=true:=by
  obtain⟨i,l⟩:=z
  cases l<;>simp [rxS,rxL,rxE,TV.okT]

theorem rparse_long(s:Txt)(hs:60000<s.length)(m:Mem):Gives Tryz.prog 12 [.str s] m (pfV (prsF s)):=by
  suffices key:CallA Tryz.prog 12 [.str s] m (fun v mo=>mo=none∧WkV v (pfV (prsF s))) from Gives_ofX key fun v mo h=>h
  refine CallA_in Tryz.func12 rfl Tryz.ntmps12 Tryz.results12 (by kernel_rfl) (by simp) fun Q hQ=>?_
  unfold prsF at hQ
  rw [if_pos hs] at hQ
  (repeat'(first|(refine sx ?_ ?_<;>intro h<;>first|(exfalso;omega)|skip)|refine ny ?_|refine WA_block ?_))
  all_goals(try(exfalso;omega))
  exact r_esA hQ (v':= .tup [.nilsl,.int .i64 0,.int .i64 8]) (.inl ⟨rfl,rfl,wk_tup ⟨show WkV _ (.lst []) from wk_nil,WkV.refl _,WkV.refl _,trivial⟩⟩)
theorem rparse_walk (s:Txt) (hs:s.length≤600) (m:Mem):Gives Tryz.prog 12 [.str s] m (pfV (prsF s)):=by
  suffices key:CallA Tryz.prog 12 [.str s] m (fun v mo=>mo=none∧WkV v (pfV (prsF s))) from Gives_ofX key fun v mo h=>h
  refine CallA_in Tryz.func12 rfl Tryz.ntmps12 Tryz.results12 (by kernel_rfl) (by simp) fun Q hQ=>?_
  unfold prsF at hQ
  rw [if_neg (by omega)] at hQ
  have hct:=fun m=>bcut_c s 10 (by omega) m
  have hrl:=cutP_len 10 s
  have hr0:=cutP_ne 10 s
  have hrm:=fun p=>cutP_sub (c:=10) (s:=s) (p:=p)
  generalize cutP 10 s=rows at *
  have hlr:=xsV_length (l:=rows)
  have har:(xsV rows).all (fun e=>e.length==1)=true:=by simp [xsV]
  (have FX:=And.intro hlr (And.intro har hrl);repeat'(first|(refine sx ?_ ?_<;>intro h<;>first|(exfalso;omega)|skip)|(refine g_op ?_;refine g_call ?_;refine g_args ?_;(first|refine s_fn (hct _) ?_)<;>try first|omega|assumption)|refine ny ?_|refine WA_block ?_))
  all_goals(try(exfalso;omega))
  refine WA_whileT (σ:=Nat×List Pl) (L:=lend m) [5,6,7,8] (rxS rows) (fun z=>rxE z.2) (fun z=>z.1<rows.length∧z.2.length=z.1∧rowsF z.2 (rows.drop z.1)=rowsF [] rows) (fun z=>rows.length - z.1) (0,[]) ⟨List.length_pos_iff.2 hr0,rfl,rfl⟩ (by simp only [rxS,rxL,List.map_cons,List.map_nil,TV.inst];exact tv_) rfl (by decide) (fun _ _=>rxS_ok) (fun _ _=>rxE_ok) ?_
  rintro⟨i,l⟩ ⟨hi,hli,hrw⟩ B ⟨D,hB⟩ K hK
  dsimp only at hi hli hrw
  have hgi:=xsV_get hi
  have hul:(rows.getD i []).length≤600:=by
    have:=hrm (rows.getD i []) (by rw [List.getD_eq_getElem?_getD,List.getElem?_eq_getElem hi];exact List.getElem_mem _)
    omega
  have hrl2:rows.length≤601:=by omega
  have hms:=plsV_length (l:=l)
  clear hrm hr0 hct hrl
  rcases Nat.lt_or_ge (i+1) rows.length with hlt|hge
  · rw [rows_step hlt] at hrw
    have hnx:=fun p (h:lineF (rows.getD i [])=some p)=>hK (i+1,l++[p])
    generalize rows.getD i []=u at *
    have hmt:(plsV l).take l.length=plsV l:=List.take_of_length_le (by rw [hms];exact Nat.le_refl _)
    rcases l with _|⟨e,l⟩
    all_goals(
      simp only [List.length_cons,List.length_nil] at hms hmt hli
      simp only [rxS,rxE,rxL]
      simp only [List.map_cons,List.map_nil,TB.inst,TV.inst,tv_map,zipT,List.cons_append,List.nil_append,Nat.add_zero]
      (have FX:=And.intro hlr (And.intro har (And.intro hgi (And.intro hlt (And.intro hrl2 (And.intro hms hmt)))));repeat'(first|(refine sx ?_ ?_<;>intro h<;>first|(exfalso;omega)|skip)|refine ny ?_|refine WA_block ?_)))
    all_goals(try(exfalso;omega))
    all_goals(
      refine g_op ?_;refine g_call ?_;refine g_args ?_;refine s_fnA (rline_c u (by omega) _) ?_
      rintro v mo ⟨rfl,p,rfl,hq⟩
      simp only [Option.getD_none,plV]
      obtain⟨wn,hy⟩:∃ wn,lineF u=wn:=⟨_,rfl⟩
      rw [hy] at hq hrw ⊢
      rcases wn with _|wn)
    all_goals simp only [Option.isSome,decide_true,decide_false,Bool.false_eq_true]
    all_goals(have FX:=And.intro hlr (And.intro har (And.intro hgi (And.intro hlt (And.intro hrl2 (And.intro hms hmt)))));repeat'(first|(refine sx ?_ ?_<;>intro h<;>first|(exfalso;omega)|skip)|refine ny ?_|refine WA_block ?_))
    · rw [←hrw] at hQ
      exact r_esA hQ (v':= .tup [.nilsl,.int .i64 ((i:Int)+1),.int .i64 7]) (.inl ⟨rfl,rfl,by rw [←hli];exact wk_tup ⟨show WkV _ (.lst []) from wk_nil,WkV.refl _,WkV.refl _,trivial⟩⟩)
    · obtain rfl:=hq _ rfl
      have hnz:=fun(_:Unit)=>hnx _ hy
      (refine nextU_ hnz (()) [2] (⟨by dsimp only;omega,by simp;omega,hrw⟩) (by dsimp only;omega) ?_ (ht:=?_);(focus (simp only [rxE,List.nil_append,plsV,plV,List.map_cons,List.map_nil,TB.inst,TV.inst,tv_map,List.cons_append,List.nil_append];first|rfl|(simp [ptsV,ptV];done)|(simp [hpsV,hpV];done)|(simp [frsV,frV];done)|(simp [txV];done)|(simp [prtsV,prtV];done)));(simp only [rxS,rxL,List.nil_append,List.length_nil,List.map_cons,List.map_nil,TV.inst,List.getD_cons_zero,List.getD_cons_succ];exact tv_))
    · rw [←hrw] at hQ
      exact r_esA hQ (v':= .tup [.nilsl,.int .i64 ((i:Int)+1),.int .i64 7]) (.inl ⟨rfl,rfl,by rw [←hli];exact wk_tup ⟨show WkV _ (.lst []) from wk_nil,WkV.refl _,WkV.refl _,trivial⟩⟩)
    · obtain rfl:=hq _ rfl
      have hnz:=fun(_:Unit)=>hnx _ hy
      have hsn:plsV (e::(l++[wn]))=plsV (e::l)++[plV wn]:=plsV_snoc (e::l) _
      (refine nextU_ hnz (()) [3] (⟨by dsimp only;omega,by simp;omega,hrw⟩) (by dsimp only;omega) ?_ (ht:=?_);(focus (simp only [rxE,List.cons_append,hsn,plV,List.map_cons,List.map_nil,TB.inst,TV.inst,tv_map,List.cons_append,List.nil_append];first|rfl|(simp [ptsV,ptV];done)|(simp [hpsV,hpV];done)|(simp [frsV,frV];done)|(simp [txV];done)|(simp [prtsV,prtV];done)));(simp only [rxS,rxL,List.cons_append,List.length_append,List.length_cons,List.length_nil,Nat.zero_add,List.map_cons,List.map_nil,TV.inst,List.getD_cons_zero,List.getD_cons_succ];exact tv_))
  · obtain rfl:i=rows.length - 1:=by omega
    have hi1:rows.length - 1+1=rows.length:=by omega
    rw [rows_last hi1] at hrw
    have hcb:=fun m=>rcheckf_c l (by omega) m
    have hic:((rows.length - 1:Nat):Int)=(rows.length:Int) - 1:=by omega
    have hgi2:(xsV rows)[((rows.length:Int) - 1).toNat]?=some [V.str (rows.getD (rows.length - 1) [])]:=by rw [show((rows.length:Int) - 1).toNat=rows.length - 1 by omega];exact hgi
    clear hK
    generalize rows.getD (rows.length - 1) []=u at *
    by_cases hu:u=[]
    · subst hu
      rw [if_pos rfl] at hrw
      rw [←hrw] at hQ
      dsimp only at hQ
      have hgi3:(xsV rows)[((rows.length:Int) - 1).toNat]?=some [V.str []]:=hgi2
      rcases l with _|⟨e,l⟩
      · simp only [rxS,rxE,rxL]
        simp only [List.map_cons,List.map_nil,TB.inst,TV.inst,tv_map,zipT,List.cons_append,List.nil_append,Nat.add_zero]
        have hcc:=fun m=>Gives_argX (vs:=[.nilsl]) (vs':=[.lst (plsV [])]) ⟨wk_nil,trivial⟩ (hcb m)
        (have FX:=And.intro hlr (And.intro har (And.intro hgi3 (And.intro hic (And.intro hrl2 hi))));repeat'(first|(refine sx ?_ ?_<;>intro h<;>first|(exfalso;omega)|skip)|(refine g_op ?_;refine g_call ?_;refine g_args ?_;(first|refine s_fn (hcc _) ?_)<;>try first|omega|assumption)|refine ny ?_|refine WA_block ?_))
        all_goals(try(exfalso;omega))
        · rw [if_neg (by assumption)] at hQ
          exact r_esA hQ (v':= .tup [.nilsl,.int .i64 0,.int .i64 (frcErr [])]) (.inl ⟨rfl,rfl,wk_tup ⟨show WkV _ (.lst []) from wk_nil,WkV.refl _,WkV.refl _,trivial⟩⟩)
        · rw [if_pos (by assumption)] at hQ
          exact r_esA hQ (v':= .tup [.nilsl,.int .i64 0,.int .i64 0]) (.inl ⟨rfl,rfl,wk_tup ⟨show WkV _ (.lst []) from wk_nil,WkV.refl _,WkV.refl _,trivial⟩⟩)
      · simp only [List.length_cons] at hms hli
        simp only [rxS,rxE,rxL]
        simp only [List.map_cons,List.map_nil,TB.inst,TV.inst,tv_map,zipT,List.cons_append,List.nil_append,Nat.add_zero]
        refine WA_fzM (j:=0) rfl ?_
        simp only [List.map_cons,List.map_nil,frzV,frzC,List.set_cons_zero]
        rw [if_pos ⟨by first|rfl|trivial,by rw [hms];exact Nat.le_refl _⟩,List.take_of_length_le (by rw [hms];exact Nat.le_refl _)]
        simp only [plsV_frz]
        have hcc:=hcb
        (have FX:=And.intro hlr (And.intro har (And.intro hgi3 (And.intro hic (And.intro hrl2 hi))));repeat'(first|(refine sx ?_ ?_<;>intro h<;>first|(exfalso;omega)|skip)|(refine g_op ?_;refine g_call ?_;refine g_args ?_;(first|refine s_fn (hcc _) ?_)<;>try first|omega|assumption)|refine ny ?_|refine WA_block ?_))
        all_goals(try(exfalso;omega))
        · rw [if_neg (by assumption)] at hQ
          exact r_esA hQ (v':= .tup [.nilsl,.int .i64 0,.int .i64 (frcErr (e::l))]) (.inl ⟨rfl,rfl,wk_tup ⟨show WkV _ (.lst []) from wk_nil,WkV.refl _,WkV.refl _,trivial⟩⟩)
        · rw [if_pos (by assumption)] at hQ
          exact r_esA hQ (v':= .tup [.lst (plsV (e::l)),.int .i64 0,.int .i64 0]) (fin_pr1 hB (frz_ls (plsV_plain _)) ⟨rfl,WkV.refl _⟩)
    · rw [if_neg hu,hli,hi1] at hrw
      rw [←hrw] at hQ
      dsimp only at hQ
      rcases l with _|⟨e,l⟩
      all_goals(
        simp only [rxS,rxE,rxL]
        simp only [List.map_cons,List.map_nil,TB.inst,TV.inst,tv_map,zipT,List.cons_append,List.nil_append,Nat.add_zero]
        (have FX:=And.intro hlr (And.intro har (And.intro hgi2 (And.intro hic (And.intro hrl2 (And.intro hi hu)))));repeat'(first|(refine sx ?_ ?_<;>intro h<;>first|(exfalso;omega)|skip)|refine ny ?_|refine WA_block ?_)))
      all_goals(try(exfalso;omega))
      all_goals(try contradiction)
      all_goals exact r_esA hQ (v':= .tup [.nilsl,.int .i64 ((rows.length:Int) - 1+1),.int .i64 7]) (.inl ⟨rfl,rfl,by rw [show(rows.length:Int) - 1+1=rows.length by omega];exact wk_tup ⟨show WkV _ (.lst []) from wk_nil,WkV.refl _,WkV.refl _,trivial⟩⟩)
theorem rparse_c(s:Txt)(hs:s.length≤600∨60000<s.length)(m:Mem):Gives Tryz.prog 12 [.str s] m (pfV (prsF s)):=by
  rcases hs with h|h
  · exact rparse_walk s h m
  · exact rparse_long s h m
end Go.Proofs.YtjonlmpjdhoogaaGreatDoor
namespace Go.Proofs.YtjonlmpjdhoogaaGreatDoor
end Go.Proofs.YtjonlmpjdhoogaaGreatDoor
namespace Go.Proofs.YtjonlmpjdhoogaaGreatDoor
open Go.RowKit
attribute [local irreducible] WA WOs WDs WAn qThen qBlock tput
set_option maxHeartbeats 1000000
set_option maxRecDepth 20000
set_option linter.unusedSimpArgs false
set_option linter.unusedVariables false
theorem Sml.le{n k a b c:Int}(h:Sml n a b c)(hk:n≤k):Sml k a b c:=by unfold Sml at *;omega

theorem few_c(l:List Pl)(b:Bool)(hb:decide (l.length≤20∨(300<l.length∧l.length≤305))=b)(m:Mem):Gives Tryz.prog 5 [.lst (plsV l)] m (.bool b):=by
  have hla:=plsV_length (l:=l)
  subst hb
  by_cases h0:l.length≤20∨(300<l.length∧l.length≤305)
  all_goals
    simp only [h0,decide_true,decide_false]
    refine Gives_in Tryz.func5 rfl Tryz.ntmps5 Tryz.results5 (by kernel_rfl) (by simp) rfl fun Q hQ=>?_
    (have FX:=hla;repeat'(first|(refine sx ?_ ?_<;>intro h<;>first|(exfalso;omega)|skip)|refine ny ?_|refine WA_block ?_))
    all_goals(refine r_es hQ ?_;try with_reducible rfl)

theorem copied_c(l:List Pl)(hl:l.length≤1000000)(m:Mem):Gives Tryz.prog 7 [.lst (plsV l)] m (.lst (plsV l)):=by
  have hla:=plsV_length (l:=l)
  have hall:=plsV_all l
  refine CallA_in Tryz.func7 rfl Tryz.ntmps7 Tryz.results7 (by kernel_rfl) (by simp) fun Q hQ=>?_
  (have FX:=And.intro hla hall;repeat'(first|(refine sx ?_ ?_<;>intro h<;>first|(exfalso;omega)|skip)|refine ny ?_|refine WA_block ?_))
  refine r_esA hQ ?_
  refine fin_sl (B:=lend m) (D:=[]) (j:=1) (by simp) rfl (by omega) ?_ ?_
  · rw [List.take_of_length_le (by omega)]
    exact plsV_plain l
  · rw [List.take_of_length_le (by omega)]
    exact⟨rfl,rfl⟩
theorem uG33_11_6{N:Nat}{l:List Oper}{t:List (Nat×V)}{m:Mem}{Q:Exit→List (Nat×V)→Mem→Prop}(h:RgN Tryz.prog N l t m Q (fun i=>if i==3 || i==7 || i==8 then .q else .p) [.one 0,.one 1,.one 2,.one 3,.one 4,.one 5,.one 6,.one 7,.one 8]):WA Tryz.prog N (.region 6 l.toArray true) t m Q:=d_rgN h
theorem same_c (a b:List Pl) (h1:a.length≤1000000) (h2:b.length≤1000000) (m:Mem):Gives Tryz.prog 11 [.lst (plsV a),.lst (plsV b)] m (.bool (decide (a=b))):=by
  have hla:=plsV_length (l:=a)
  have hlb:=plsV_length (l:=b)
  have hga:=hla
  have hgb:=hlb
  by_cases hl:a.length=b.length
  · generalize hE:decide (a=b)=E
    refine Gives_in Tryz.func11 rfl Tryz.ntmps11 Tryz.results11 (by kernel_rfl) (by simp) rfl fun Q hQ=>?_
    (have FX:=And.intro hla (And.intro hlb (And.intro hga hgb));repeat'(first|(refine sx ?_ ?_<;>intro h<;>first|(exfalso;omega)|skip)|refine ny ?_|refine WA_block ?_|(refine uG33_11_6 ?_;refine⟨by kernel_rfl,?_⟩)))
    refine WA_while (σ:=Nat) [0,1,5] (fun i=>[.lst (plsV a),.lst (plsV b),.int .i64 i]) (fun _=>lend m++[]) (fun i=>i≤a.length∧∀ j (h:j<a.length) (h':j<b.length),j<i→a[j]=b[j]) (fun i=>a.length - i) 0 ⟨Nat.zero_le _,fun j h1 h2 h3=>absurd h3 (Nat.not_lt_zero _)⟩ tv_ rfl ?_
    rintro i ⟨hi1,hi2⟩ K hK
    rcases Nat.lt_or_ge i a.length with hi|hi
    · have hga:=plsV_get hi
      have hgb:=plsV_get (l:=b) (i:=i) (by omega)
      simp only [zipT]
      clear FX
      (have FX:=And.intro hla (And.intro hlb (And.intro hga hgb));repeat'(first|(refine sx ?_ ?_<;>intro h<;>first|(exfalso;omega)|skip)|refine ny ?_|refine WA_block ?_|(refine uG33_11_6 ?_;refine⟨by kernel_rfl,?_⟩)))
      · (refine r_es hQ ?_;try with_reducible rfl)
        rename_i hne
        rw [←hE]
        simp only [V.bool.injEq]
        symm
        rw [decide_eq_false_iff_not]
        intro e
        subst e
        simp at h
      · refine next_ hK (i+1) ⟨hi,fun j h1 h2 h3=>?_⟩ (by omega)
        rcases Nat.lt_or_ge j i with q|q
        · exact hi2 j h1 h2 q
        · have:j=i:=by omega
          subst this
          have hb:j<b.length:=h2
          apply Pl.ext'<;>omega
    · simp only [zipT]
      clear FX
      (have FX:=And.intro hla (And.intro hlb (And.intro hga hgb));repeat'(first|(refine sx ?_ ?_<;>intro h<;>first|(exfalso;omega)|skip)|refine ny ?_|refine WA_block ?_|(refine uG33_11_6 ?_;refine⟨by kernel_rfl,?_⟩)))
      (refine r_es hQ ?_;try with_reducible rfl)
      rw [←hE]
      simp only [V.bool.injEq]
      symm
      rw [decide_eq_true_iff]
      apply List.ext_getElem hl
      intro j h1 h2
      exact hi2 j h1 h2 (by omega)
  · have hne:¬ a=b:=fun e=>hl (by rw [e])
    simp only [hne,decide_false]
    refine Gives_in Tryz.func11 rfl Tryz.ntmps11 Tryz.results11 (by kernel_rfl) (by simp) rfl fun Q hQ=>?_
    (have FX:=And.intro hla (And.intro hlb (And.intro hga hgb));repeat'(first|(refine sx ?_ ?_<;>intro h<;>first|(exfalso;omega)|skip)|refine ny ?_|refine WA_block ?_|(refine uG33_11_6 ?_;refine⟨by kernel_rfl,?_⟩)))
    (refine r_es hQ ?_;try with_reducible rfl)
theorem aw1(m:Mem):Gives Tryz.prog 13 [.agg [.int .i64 1000,.int .i64 1000],.agg [.int .i64 (0),.int .i64 (0),.int .i64 (0)],.agg [.int .i64 (100),.int .i64 (100),.int .i64 (0)]] m (.tup [.agg [.int .i64 707,.int .i64 708,.int .i64 707,.int .i64 708,.int .i64 0,.int .i64 0],.int .i64 0]):=by
  have h:=ppull_ok 1000 1000 0 0 0 100 100 0 100 100 0 100 100 0 14142 14143 (by omega) (by unfold Plc;omega) (by unfold Plc;omega) rfl rfl rfl (by unfold Plc;omega) (by omega) (by decide) (by decide) (by decide) (by unfold IsRoot;omega) (by decide) m
  have e1:compLo 1000 1000 100 14142 14143=707:=by decide +kernel
  have e2:compHi 1000 1000 100 14142 14143=708:=by decide +kernel
  have e3:compLo 1000 1000 0 14142 14143=0:=by decide +kernel
  have e4:compHi 1000 1000 0 14142 14143=0:=by decide +kernel
  rw [e1,e2,e3,e4] at h
  exact h
theorem aw2(m:Mem):Gives Tryz.prog 14 [.lst [[.int .i64 0],[.int .i64 100],[.int .i64 300]],.lst [[.int .i64 50,.int .i64 60],[.int .i64 200,.int .i64 90],[.int .i64 300,.int .i64 10]]] m (.tup [.lst [[.int .i64 30,.int .i64 1],[.int .i64 75,.int .i64 1],[.int .i64 55,.int .i64 1]],.int .i64 0]):=by
  have h:=distr_ok [0,100,300] [(50,60),(200,90),(300,10)] (by decide) (by decide) (by decide +kernel) (by decide +kernel) m
  have e:distr [0,100,300] [(50,60),(200,90),(300,10)]=[(30,1),(75,1),(55,1)]:=by decide +kernel
  rw [e] at h
  exact h
theorem aw3(m:Mem):Gives Tryz.prog 15 [.agg [.int .i64 0,.int .i64 100,.int .i64 0,.int .i64 10000,.int .i64 5000],.int .i64 70000] m (.tup [.agg [.int .i64 2100,.int .i64 1],.int .i64 0]):=by
  have h:=downbearing_ok 0 100 0 10000 5000 70000 (by unfold bearOk;omega) (by omega) m
  have e:lowF (70000 * ((100 - 0) * 5000+(100 - 0) * 10000)) (10000 * 5000)=(2100,1):=by decide +kernel
  rw [e] at h
  exact h
theorem aw4(m:Mem):Gives Tryz.prog 16 [.lst [[.int .i64 30,.int .i64 1],[.int .i64 75,.int .i64 1],[.int .i64 55,.int .i64 1]],.lst [[.int .i64 30,.int .i64 1],[.int .i64 75,.int .i64 1],[.int .i64 55,.int .i64 1]]] m (.bool true):=
  fracs_c [(30,1),(75,1),(55,1)] [(30,1),(75,1),(55,1)] (by decide) (by decide) m

theorem awake_c(m:Mem):Gives Tryz.prog 4 [] m (.bool true):=by
  refine Gives_in Tryz.func4 rfl Tryz.ntmps4 Tryz.results4 (by kernel_rfl) (by simp) rfl fun Q hQ=>?_
  (repeat'(first|(refine sx ?_ ?_<;>intro h<;>first|(exfalso;omega)|skip)|(refine g_op ?_;refine g_call ?_;refine g_args ?_;(first|refine s_fn (aw1 _) ?_|refine s_fn (aw3 _) ?_)<;>try first|omega|assumption)|refine ny ?_|refine WA_block ?_))
  refine g_op ?_
  refine g_call ?_
  refine g_args ?_
  refine s_fz2 (B:=lend m) 1 0 2 1 (aw2 _) ?_
  (repeat'(first|(refine sx ?_ ?_<;>intro h<;>first|(exfalso;omega)|skip)|(refine g_op ?_;refine g_call ?_;refine g_args ?_;(first|refine s_fn (aw1 _) ?_|refine s_fn (aw3 _) ?_)<;>try first|omega|assumption)|refine ny ?_|refine WA_block ?_))
  refine g_op ?_
  refine g_call ?_
  refine g_args ?_
  refine s_fz1 (B:=lend m) 4 1 (aw4 _) ?_
  (repeat'(first|(refine sx ?_ ?_<;>intro h<;>first|(exfalso;omega)|skip)|(refine g_op ?_;refine g_call ?_;refine g_args ?_;(first|refine s_fn (aw1 _) ?_|refine s_fn (aw3 _) ?_)<;>try first|omega|assumption)|refine ny ?_|refine WA_block ?_))
  (refine r_es hQ ?_;try with_reducible rfl)
end Go.Proofs.YtjonlmpjdhoogaaGreatDoor
