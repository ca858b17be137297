import Derived.Test.YtookikhphobnlaaGreatDoorX14
import Derived.Test.YtookikhphobnlaaGreatDoorB25
set_option linter.unusedSimpArgs false
set_option linter.unusedVariables false
/- contract: the reference's Parse -/
namespace Go.Proofs.YtookikhphobnlaaGreatDoor
open Go.RowKit
attribute [local irreducible] WA WOs WDs WAn qThen qBlock tput
set_option maxHeartbeats 1000000
set_option maxRecDepth 20000
set_option linter.unusedSimpArgs false
set_option linter.unusedVariables false
set_option maxHeartbeats 4000000
theorem uX15_33_6{N:Nat}{l:List Oper}{t:List (Nat×V)}{m:Mem}{Q:Exit→List (Nat×V)→Mem→Prop}(h:RgN Tryz.prog N l t m Q (fun i=>if i==11 then .f else if i==10 then .a else if i==2 || i==4 || i==6 || i==8 then .q else .p) [.one 0,.one 1,.one 2,.one 3,.one 4,.one 5,.one 6,.one 7,.one 8,.one 9,.one 10,.one 11]):WA Tryz.prog N (.region 6 l.toArray true) t m Q:=d_rgN h
theorem uX15_33_12{N:Nat}{l:List Oper}{t:List (Nat×V)}{m:Mem}{Q:Exit→List (Nat×V)→Mem→Prop}(h:RgN Tryz.prog N l t m Q (fun i=>if i==10 || i==12 then .w else if i==9 then .a else if i==1 || i==6 then .q else .p) [.one 0,.one 1,.one 2,.one 3,.one 4,.one 5,.one 6,.one 7,.one 8,.one 9,.one 10,.one 11,.one 12]):WA Tryz.prog N (.region 12 l.toArray true) t m Q:=d_rgN h
theorem uX15_33_15{N:Nat}{l:List Oper}{t:List (Nat×V)}{m:Mem}{Q:Exit→List (Nat×V)→Mem→Prop}(h:RgN Tryz.prog N l t m Q (fun i=>if i==8 || i==10 then .w else if i==7 then .a else if i==1 || i==6 then .q else .p) [.one 0,.one 1,.one 2,.one 3,.one 4,.one 5,.one 6,.one 7,.one 8,.one 9,.one 10]):WA Tryz.prog N (.region 15 l.toArray true) t m Q:=d_rgN h
theorem radj_short(w:List Txt)(h:w.length<5)(m:Mem):Gives Tryz.prog 33 [.lst (xsV w)] m (.tup [.agg (adV adz),.bool false]):=by
  have hll:=xsV_length (l:=w)
  suffices key:CallA Tryz.prog 33 [.lst (xsV w)] m (fun v mo=>mo=none∧WkV v (.tup [.agg (adV adz),.bool false])) from Gives_ofX key fun v mo h=>h
  refine CallA_in Tryz.func33 rfl Tryz.ntmps33 Tryz.results33 (by kernel_rfl) (by simp) fun Q hQ=>?_
  (have FX:=hll;repeat'(first|(refine sx ?_ ?_<;>intro h<;>first|(exfalso;omega)|skip)|refine ny ?_|refine WA_block ?_|(refine uX15_33_6 ?_;refine⟨by kernel_rfl,?_⟩)|(refine uX15_33_12 ?_;refine⟨by kernel_rfl,?_⟩)|(refine uX15_33_15 ?_;refine⟨by kernel_rfl,?_⟩)))
  all_goals(try(exfalso;omega))
  exact r_esA hQ (v':= .tup [.agg [.str [],.nilsl,.int .i64 0,.int .i64 0,.int .i64 0,.nilsl],.bool false]) (.inl ⟨rfl,rfl,wk_tup ⟨show WkV _ (.agg [.str [],.lst [],.int .i64 0,.int .i64 0,.int .i64 0,.lst []]) from wk_agg ⟨WkV.refl _,wk_nil,WkV.refl _,WkV.refl _,WkV.refl _,wk_nil,trivial⟩,WkV.refl _,trivial⟩⟩)
theorem radj_all(o:Txt)(w:List Txt)(hl:w.length≤100000)(ho:o.length≤100000)(hw:∀ x∈w,x.length≤100000)(m:Mem):Gives Tryz.prog 33 [.lst (xsV (o::w))] m (.tup [.agg (adV (adjT w).1),.bool (adjT w).2]):=by
  by_cases h:w.length<4
  · have e:adjT w=(adz,false):=by
      rcases w with _|⟨a,_|⟨b,_|⟨c,_|⟨d,r⟩⟩⟩⟩
      · rfl
      · rfl
      · rfl
      · rfl
      · simp at h;omega
    rw [e]
    exact radj_short (o::w) (by simp;omega) m
  · rcases w with _|⟨a,_|⟨b,_|⟨c,_|⟨d,r⟩⟩⟩⟩
    · exact absurd (by decide) h
    · exact absurd (by simp) h
    · exact absurd (by simp) h
    · exact absurd (by simp) h
    · exact radjust_c o a b c d r (by simp only [List.length_cons] at hl;omega) (fun x hx=>by rcases List.mem_cons.1 hx with rfl|hx;exact ho;exact hw x hx) m
def rmX:List MsR→List TB
  |[]=>[]
  |p::q=>[.cells .own 75 4 ((mssV (p::q)).map (List.map TV.v))]
def raX:List AdR→List TB
  |[]=>[]
  |p::q=>[.cells .own 78 6 ((adsV (p::q)).map (List.map TV.v))]
def rmS:List MsR→TV
  |[]=> .v .nilsl
  |_::q=> .sl 2 (q.length+1)
def raS(j:Nat):List AdR→TV
  |[]=> .v .nilsl
  |_::q=> .sl j (q.length+1)
def rpE(b:BnR):List TB:=[.cells .own 28 2 [[.v .nilsl,.v .nilsl]],.cells .own 28 2 [[rmS b.ms,raS (2+(rmX b.ms).length) b.ads]]]++(rmX b.ms++raX b.ads)
def rpS(s:Txt)(rows:List Txt)(i:Nat):List TV:=[.v (.str s),.ptr 0 0 0,.v (.int .i64 0),.v (.int .i64 0),.v (.lst (xsV rows)),.ptr 1 0 0,.v (.int .i64 i)]
theorem rpE_ok{b:BnR}:(rpE b).all (TB.ok (rpE b).length)=true:=by
  obtain⟨mz,ads⟩:=b
  cases mz<;>cases ads<;>simp [rpE,rmX,raX,rmS,raS,TB.ok,TV.okT,tv_ok]
theorem rpS_ok{s:Txt}{rows:List Txt}{i:Nat}{b:BnR}:(rpS s rows i).all (TV.okT (rpE b).length)=true:=by
  obtain⟨mz,ads⟩:=b
  cases mz<;>cases ads<;>simp [rpE,rmX,raX,rpS,TV.okT]
theorem rows_step{rows:List Txt}{i:Nat}{b:BnR}(h:i+1<rows.length):rowsP i b (rows.drop i)=match lineP b (rows.getD i []) with
    |some b'=>rowsP (i+1) b' (rows.drop (i+1))
    |none=> .error (i+1):=by
  rw [drop_1 (k:=i) (by omega),drop_1 (k:=i+1) h]
  rfl
theorem rows_last{rows:List Txt}{i:Nat}{b:BnR}(h:i+1=rows.length):rowsP i b (rows.drop i)=if rows.getD i []=[] then .ok b else .error (i+1):=by
  rw [drop_1 (k:=i) (by omega),List.drop_eq_nil_of_le (by omega)]
  rfl
theorem uX15_7_14{N:Nat}{l:List Oper}{t:List (Nat×V)}{m:Mem}{Q:Exit→List (Nat×V)→Mem→Prop}(h:RgN Tryz.prog N l t m Q (fun i=>if i==13 || i==15 then .w else if i==12 then .a else if i==1 || i==4 || i==6 || i==8 || i==10 then .q else .p) [.one 0,.one 1,.one 2,.one 3,.one 4,.one 5,.one 6,.one 7,.one 8,.one 9,.one 10,.one 11,.one 12,.one 13,.one 14,.one 15]):WA Tryz.prog N (.region 14 l.toArray true) t m Q:=d_rgN h
theorem rparse_long(s:Txt)(hs:60000<s.length)(m:Mem):Gives Tryz.prog 7 [.str s] m (paV (prsP s)):=by
  suffices key:CallA Tryz.prog 7 [.str s] m (fun v mo=>mo=none∧WkV v (paV (prsP s))) from Gives_ofX key fun v mo h=>h
  refine CallA_in Tryz.func7 rfl Tryz.ntmps7 Tryz.results7 (by kernel_rfl) (by simp) fun Q hQ=>?_
  unfold prsP at hQ
  rw [if_pos hs] at hQ
  (repeat'(first|(refine sx ?_ ?_<;>intro h<;>first|(exfalso;omega)|skip)|refine ny ?_|refine WA_block ?_|(refine uX15_7_14 ?_;refine⟨by kernel_rfl,?_⟩)))
  all_goals(try(exfalso;omega))
  exact r_esA hQ (v':= .tup [.agg [.nilsl,.nilsl],.int .i64 0,.int .i64 8]) (.inl ⟨rfl,rfl,wk_tup ⟨show WkV _ (.agg [.lst [],.lst []]) from wk_agg ⟨wk_nil,wk_nil,trivial⟩,WkV.refl _,WkV.refl _,trivial⟩⟩)
theorem rparse_walk (s:Txt) (hs:s.length≤600) (m:Mem):Gives Tryz.prog 7 [.str s] m (paV (prsP s)):=by
  suffices key:CallA Tryz.prog 7 [.str s] m (fun v mo=>mo=none∧WkV v (paV (prsP s))) from Gives_ofX key fun v mo h=>h
  refine CallA_in Tryz.func7 rfl Tryz.ntmps7 Tryz.results7 (by kernel_rfl) (by simp) fun Q hQ=>?_
  unfold prsP at hQ
  rw [if_neg (by omega)] at hQ
  have hct:=fun m=>bcut_c s 10 (by omega) m
  have hrl:=cutP_len 10 s
  have hr0:=cutP_ne 10 s
  have hrm:=fun p=>cutP_sub (c:=10) (s:=s) (p:=p)
  generalize cutP 10 s=rows at *
  (repeat'(first|(refine sx ?_ ?_<;>intro h<;>first|(exfalso;omega)|skip)|(refine g_op ?_;refine g_call ?_;refine g_args ?_;(first|refine s_fn (hct _) ?_)<;>try first|omega|assumption)|refine ny ?_|refine WA_block ?_|(refine uX15_7_14 ?_;refine⟨by kernel_rfl,?_⟩)|((first|refine grp_cons (fun _=>hct _) ?_)<;>try first|omega|assumption)|(refine g_d ?_;refine d_args ?_;(first|refine d_fn (hct _) ?_|refine d_fnQ (fun _=>hct _) ?_)<;>try first|omega|assumption)|(refine g_d ?_;(first|refine d_fnY (hct _) ?_)<;>try first|omega|assumption)))
  all_goals(try(exfalso;omega))
  refine WA_whileT (σ:=Nat×BnR) (L:=lend m) [0,2,3,4,5,6,7] (fun z=>rpS s rows z.1) (fun z=>rpE z.2) (fun z=>z.1<rows.length∧BlN z.1 z.2∧rowsP z.1 z.2 (rows.drop z.1)=rowsP 0 bnz rows) (fun z=>rows.length - z.1) (0,bnz) ⟨List.length_pos_iff.2 hr0,⟨Nat.zero_le _,by simp [bnz],by simp [bnz]⟩,rfl⟩ (by simp only [rpS,List.map_cons,List.map_nil,TV.inst];exact tv_) rfl (by decide) (fun _ _=>rpS_ok) (fun _ _=>rpE_ok) ?_
  rintro⟨i,b⟩ ⟨hi,hbl,hrw⟩ B ⟨D,hB⟩ K hK
  dsimp only at hi hbl hrw
  have hlr:=xsV_length (l:=rows)
  have har:(xsV rows).all (fun e=>e.length==1)=true:=by simp [xsV]
  have hgi:=xsV_get hi
  have hul:(rows.getD i []).length≤600:=by
    have:=hrm (rows.getD i []) (by rw [List.getD_eq_getElem?_getD,List.getElem?_eq_getElem hi];exact List.getElem_mem _)
    omega
  have hn0:=hbl.n
  have hrl2:rows.length≤601:=by omega
  clear hrm hr0 hct hrl
  rcases Nat.lt_or_ge (i+1) rows.length with hlt|hge
  · rw [rows_step hlt] at hrw
    have hnx:=fun b' (h:lineP b (rows.getD i [])=some b')=>hK (i+1,b')
    have hbx:=fun b' (h:lineP b (rows.getD i [])=some b')=>lineP_bl hbl (by omega) h
    generalize rows.getD i []=u at *
    have hcm:=fun p=>cutP_sub (c:=32) (s:=u) (p:=p)
    have hcl:=cutP_len 32 u
    have hcw:=fun m=>bcut_c u 32 (by omega) m
    have hlp:∀ o w,cutP 32 u=o::w→lineP b u=if o=measureT∧w.length=4∧b.ads=[] then (numsP 7 (w.drop 1)).map fun n=>⟨b.ms++[⟨w.getD 0 [],n.getD 0 0,n.getD 1 0,n.getD 2 0⟩],b.ads⟩
      else if o=adjustT then (if (adjT w).2=true then some ⟨b.ms,b.ads++[(adjT w).1]⟩ else none) else none:=fun o w h=>by
      unfold lineP
      rw [h]
    rcases hcu:cutP 32 u with _|⟨o,w⟩
    · exact absurd hcu (cutP_ne 32 u)
    have hlp:=hlp o w hcu
    rw [hcu] at hcm hcl hcw
    clear hcu
    rw [List.length_cons] at hcl
    have hwl:(xsV (o::w)).length=w.length+1:=by rw [xsV_length];rfl
    have hwa:(xsV (o::w)).all (fun e=>e.length==1)=true:=by simp [xsV]
    have hw0:(xsV (o::w))[0]?=some [.str o]:=rfl
    by_cases hm:o=measureT∧w.length=4∧b.ads=[]
    · rw [if_pos hm] at hlp
      obtain⟨rfl,hw4,h0⟩:=hm
      obtain⟨mz,ads⟩:=b
      dsimp only at h0 hn0
      subst h0
      obtain⟨nm,p,q,r,rfl⟩:∃ nm p q r,w=[nm,p,q,r]:=by
        rcases w with _|⟨a,_|⟨b,_|⟨c,_|⟨d,_|⟨e,r⟩⟩⟩⟩⟩
        · simp at hw4
        · simp at hw4
        · simp at hw4
        · simp at hw4
        · exact⟨_,_,_,_,rfl⟩
        · simp at hw4
      have hw1:(xsV [measureT,nm,p,q,r])[1]?=some [.str nm]:=rfl
      have hw0:(xsV [measureT,nm,p,q,r])[0]?=some [.str [109,101,97,115,117,114,101]]:=rfl
      have hwl:(xsV [measureT,nm,p,q,r]).length=5:=rfl
      have hrt:=fun m=>rthree_c p q r (Nat.le_trans (hcm p (by simp)) (by omega)) (Nat.le_trans (hcm q (by simp)) (by omega)) (Nat.le_trans (hcm r (by simp)) (by omega)) m
      have hms:=mssV_length (l:=mz)
      have hmt:(mssV mz).take mz.length=mssV mz:=List.take_of_length_le (by rw [hms];exact Nat.le_refl _)
      rcases mz with _|⟨e,mz⟩
      all_goals(
        simp only [List.length_cons,List.length_nil] at hms hmt hn0
        simp only [rpS,rpE,rmX,raX,rmS,raS]
        simp only [List.map_cons,List.map_nil,TB.inst,TV.inst,tv_map,zipT,List.cons_append,List.nil_append,Nat.add_zero]
        (have FX:=And.intro hlr (And.intro har (And.intro hgi (And.intro hwl (And.intro hwa (And.intro hw0 (And.intro hw1 (And.intro hlt (And.intro hrl2 (And.intro hms (And.intro hmt hn0))))))))));repeat'(first|(refine sx ?_ ?_<;>intro h<;>first|(exfalso;omega)|skip)|(refine g_op ?_;refine g_call ?_;refine g_args ?_;(first|refine s_fn (hcw _) ?_)<;>try first|omega|assumption)|refine ny ?_|refine WA_block ?_|(refine uX15_7_14 ?_;refine⟨by kernel_rfl,?_⟩)|((first|refine grp_cons (fun _=>hcw _) ?_)<;>try first|omega|assumption)|(refine g_d ?_;refine d_args ?_;(first|refine d_fn (hcw _) ?_|refine d_fnQ (fun _=>hcw _) ?_)<;>try first|omega|assumption)|(refine g_d ?_;(first|refine d_fnY (hcw _) ?_)<;>try first|omega|assumption))))
      all_goals(try(exfalso;omega))
      all_goals(
        refine g_op ?_;refine g_call ?_;refine g_args ?_;refine s_fnA (hrt _) ?_
        rintro v mo ⟨rfl,x,y,z,rfl,hn⟩
        simp only [Option.getD_none]
        obtain⟨wn,hy⟩:∃ wn,numsP 7 [p,q,r]=wn:=⟨_,rfl⟩
        rw [hy] at hn ⊢
        rw [show List.drop 1 [nm,p,q,r]=[p,q,r] from rfl,hy] at hlp
        rcases wn with _|wn)
      all_goals simp only [Option.isSome,decide_true,decide_false,Bool.false_eq_true]
      all_goals(have FX:=And.intro hlr (And.intro har (And.intro hgi (And.intro hwl (And.intro hwa (And.intro hw0 (And.intro hw1 (And.intro hlt (And.intro hrl2 (And.intro hms (And.intro hmt hn0))))))))));repeat'(first|(refine sx ?_ ?_<;>intro h<;>first|(exfalso;omega)|skip)|(refine g_op ?_;refine g_call ?_;refine g_args ?_;(first|refine s_fn (hcw _) ?_)<;>try first|omega|assumption)|refine ny ?_|refine WA_block ?_|(refine uX15_7_14 ?_;refine⟨by kernel_rfl,?_⟩)|((first|refine grp_cons (fun _=>hcw _) ?_)<;>try first|omega|assumption)|(refine g_d ?_;refine d_args ?_;(first|refine d_fn (hcw _) ?_|refine d_fnQ (fun _=>hcw _) ?_)<;>try first|omega|assumption)|(refine g_d ?_;(first|refine d_fnY (hcw _) ?_)<;>try first|omega|assumption)))
      · rw [hlp] at hrw
        rw [show rowsP 0 bnz rows= .error (i+1) from hrw.symm] at hQ
        exact r_esA hQ (v':= .tup [.agg [.nilsl,.nilsl],.int .i64 ((i:Int)+1),.int .i64 7]) (.inl ⟨rfl,rfl,wk_tup ⟨show WkV _ (.agg [.lst [],.lst []]) from wk_agg ⟨wk_nil,wk_nil,trivial⟩,WkV.refl _,WkV.refl _,trivial⟩⟩)
      · obtain rfl:=hn _ rfl
        have hl2:lineP ⟨[],[]⟩ u=some ⟨[⟨nm,x,y,z⟩],[]⟩:=hlp
        rw [hl2] at hrw
        have hnz:=fun(_:Unit)=>hnx _ hl2
        have hb2:=hbx _ hl2
        (refine nextU_ hnz (()) [0,1,4] (⟨by dsimp only;omega,hb2,hrw⟩) (by dsimp only;omega) ?_ (ht:=?_);(focus (simp only [rpE,rmX,raX,rmS,raS,mssV,msV,List.map_cons,List.map_nil,List.length_append,List.length_cons,List.length_nil,Nat.zero_add,Nat.add_zero,Nat.reduceAdd,List.map_cons,List.map_nil,TB.inst,TV.inst,tv_map,List.cons_append,List.nil_append];first|rfl|(simp [ptsV,ptV];done)|(simp [hpsV,hpV];done)|(simp [frsV,frV];done)|(simp [txV];done)|(simp [prtsV,prtV];done)));(simp only [rpS,List.map_cons,List.map_nil,TV.inst,List.getD_cons_zero,List.getD_cons_succ];exact tv_))
      · rw [hlp] at hrw
        rw [show rowsP 0 bnz rows= .error (i+1) from hrw.symm] at hQ
        exact r_esA hQ (v':= .tup [.agg [.nilsl,.nilsl],.int .i64 ((i:Int)+1),.int .i64 7]) (.inl ⟨rfl,rfl,wk_tup ⟨show WkV _ (.agg [.lst [],.lst []]) from wk_agg ⟨wk_nil,wk_nil,trivial⟩,WkV.refl _,WkV.refl _,trivial⟩⟩)
      · obtain rfl:=hn _ rfl
        have hl2:lineP ⟨e::mz,[]⟩ u=some ⟨e::(mz++[⟨nm,x,y,z⟩]),[]⟩:=hlp
        rw [hl2] at hrw
        have hnz:=fun(_:Unit)=>hnx _ hl2
        have hb2:=hbx _ hl2
        have hsn:mssV (e::(mz++[⟨nm,x,y,z⟩]))=mssV (e::mz)++[msV ⟨nm,x,y,z⟩]:=mssV_snocX (e::mz) _
        (refine nextU_ hnz (()) [0,1,5] (⟨by dsimp only;omega,hb2,hrw⟩) (by dsimp only;omega) ?_ (ht:=?_);(focus (simp only [rpE,rmX,raX,rmS,raS,hsn,msV,List.length_append,List.length_cons,List.length_nil,Nat.zero_add,Nat.add_zero,Nat.reduceAdd,List.map_cons,List.map_nil,TB.inst,TV.inst,tv_map,List.cons_append,List.nil_append];first|rfl|(simp [ptsV,ptV];done)|(simp [hpsV,hpV];done)|(simp [frsV,frV];done)|(simp [txV];done)|(simp [prtsV,prtV];done)));(simp only [rpS,List.map_cons,List.map_nil,TV.inst,List.getD_cons_zero,List.getD_cons_succ];exact tv_))
    · rw [if_neg hm] at hlp
      have hmm:¬ (o=[109,101,97,115,117,114,101]∧w.length=4∧b.ads.length=0):=fun q=>hm ⟨q.1,q.2.1,List.length_eq_zero_iff.1 q.2.2⟩
      obtain⟨mz,ads⟩:=b
      dsimp only at hn0 hmm
      have hms:=mssV_length (l:=mz)
      have hds:=adsV_length (l:=ads)
      have hdt:(adsV ads).take ads.length=adsV ads:=List.take_of_length_le (by rw [hds];exact Nat.le_refl _)
      by_cases ha:o=adjustT
      · rw [if_pos ha] at hlp
        subst ha
        have hra:=fun m=>radj_all adjustT w (by omega) (by decide) (fun x hx=>Nat.le_trans (hcm x (List.mem_cons_of_mem _ hx)) (by omega)) m
        have hw0:(xsV (adjustT::w))[0]?=some [.str [97,100,106,117,115,116]]:=rfl
        have hne:¬ ([97,100,106,117,115,116]:Txt)=[109,101,97,115,117,114,101]:=by decide
        simp only [adV] at hra
        clear hmm hm hcm
        generalize hga:(adjT w).1=ad at *
        generalize hgo:(adjT w).2=ok at *
        clear hga hgo
        rcases mz with _|⟨e,mz⟩
        all_goals rcases ads with _|⟨f,ads⟩
        all_goals rcases ok with _|_
        all_goals(
          simp only [List.length_cons,List.length_nil] at hms hds hdt hn0
          simp only [rpS,rpE,rmX,raX,rmS,raS]
          simp only [List.map_cons,List.map_nil,TB.inst,TV.inst,tv_map,zipT,List.cons_append,List.nil_append,Nat.add_zero]
          (have FX:=And.intro hlr (And.intro har (And.intro hgi (And.intro hwl (And.intro hwa (And.intro hw0 (And.intro hlt (And.intro hrl2 (And.intro hms (And.intro hds (And.intro hdt (And.intro hn0 hne)))))))))));repeat'(first|(refine sx ?_ ?_<;>intro h<;>first|(exfalso;omega)|skip)|(refine g_op ?_;refine g_call ?_;refine g_args ?_;(first|refine s_fn (hcw _) ?_|refine s_fn (hra _) ?_)<;>try first|omega|assumption)|refine ny ?_|refine WA_block ?_|(refine uX15_7_14 ?_;refine⟨by kernel_rfl,?_⟩)|((first|refine grp_cons (fun _=>hcw _) ?_|refine grp_cons (fun _=>hra _) ?_)<;>try first|omega|assumption)|(refine g_d ?_;refine d_args ?_;(first|refine d_fn (hcw _) ?_|refine d_fn (hra _) ?_|refine d_fnQ (fun _=>hcw _) ?_|refine d_fnQ (fun _=>hra _) ?_)<;>try first|omega|assumption)|(refine g_d ?_;(first|refine d_fnY (hcw _) ?_|refine d_fnY (hra _) ?_)<;>try first|omega|assumption))))
        all_goals(try(exfalso;omega))
        all_goals(try contradiction)
        all_goals simp only [Bool.false_eq_true,if_false,if_true] at hlp
        all_goals rw [hlp] at hrw
        all_goals first
          | (rw [show rowsP 0 bnz rows= .error (i+1) from hrw.symm] at hQ
             exact r_esA hQ (v':= .tup [.agg [.nilsl,.nilsl],.int .i64 ((i:Int)+1),.int .i64 7]) (.inl ⟨rfl,rfl,wk_tup ⟨show WkV _ (.agg [.lst [],.lst []]) from wk_agg ⟨wk_nil,wk_nil,trivial⟩,WkV.refl _,WkV.refl _,trivial⟩⟩))
          |skip
        all_goals(
          have hnz:=fun(_:Unit)=>hnx _ hlp
          have hb2:=hbx _ hlp)
        · (refine nextU_ hnz (()) [0,1,4] (⟨by dsimp only;omega,hb2,hrw⟩) (by dsimp only;omega) ?_ (ht:=?_);(focus (simp only [rpE,rmX,raX,rmS,raS,List.nil_append,adsV,adV,List.map_cons,List.map_nil,List.length_append,List.length_cons,List.length_nil,Nat.zero_add,Nat.add_zero,Nat.reduceAdd,List.map_cons,List.map_nil,TB.inst,TV.inst,tv_map,List.cons_append,List.nil_append];first|rfl|(simp [ptsV,ptV];done)|(simp [hpsV,hpV];done)|(simp [frsV,frV];done)|(simp [txV];done)|(simp [prtsV,prtV];done)));(simp only [rpS,List.map_cons,List.map_nil,TV.inst,List.getD_cons_zero,List.getD_cons_succ];exact tv_))
        · have hsn:adsV (f::(ads++[ad]))=adsV (f::ads)++[adV ad]:=adsV_snocX (f::ads) _
          (refine nextU_ hnz (()) [0,1,5] (⟨by dsimp only;omega,hb2,hrw⟩) (by dsimp only;omega) ?_ (ht:=?_);(focus (simp only [rpE,rmX,raX,rmS,raS,List.cons_append,hsn,adV,List.length_append,List.length_cons,List.length_nil,Nat.zero_add,Nat.add_zero,Nat.reduceAdd,List.map_cons,List.map_nil,TB.inst,TV.inst,tv_map,List.cons_append,List.nil_append];first|rfl|(simp [ptsV,ptV];done)|(simp [hpsV,hpV];done)|(simp [frsV,frV];done)|(simp [txV];done)|(simp [prtsV,prtV];done)));(simp only [rpS,List.map_cons,List.map_nil,TV.inst,List.getD_cons_zero,List.getD_cons_succ];exact tv_))
        · (refine nextU_ hnz (()) [0,1,2,5] (⟨by dsimp only;omega,hb2,hrw⟩) (by dsimp only;omega) ?_ (ht:=?_);(focus (simp only [rpE,rmX,raX,rmS,raS,List.nil_append,adsV,adV,List.map_cons,List.map_nil,List.length_append,List.length_cons,List.length_nil,Nat.zero_add,Nat.add_zero,Nat.reduceAdd,List.map_cons,List.map_nil,TB.inst,TV.inst,tv_map,List.cons_append,List.nil_append];first|rfl|(simp [ptsV,ptV];done)|(simp [hpsV,hpV];done)|(simp [frsV,frV];done)|(simp [txV];done)|(simp [prtsV,prtV];done)));(simp only [rpS,List.map_cons,List.map_nil,TV.inst,List.getD_cons_zero,List.getD_cons_succ];exact tv_))
        · have hsn:adsV (f::(ads++[ad]))=adsV (f::ads)++[adV ad]:=adsV_snocX (f::ads) _
          (refine nextU_ hnz (()) [0,1,2,6] (⟨by dsimp only;omega,hb2,hrw⟩) (by dsimp only;omega) ?_ (ht:=?_);(focus (simp only [rpE,rmX,raX,rmS,raS,List.cons_append,hsn,adV,List.length_append,List.length_cons,List.length_nil,Nat.zero_add,Nat.add_zero,Nat.reduceAdd,List.map_cons,List.map_nil,TB.inst,TV.inst,tv_map,List.cons_append,List.nil_append];first|rfl|(simp [ptsV,ptV];done)|(simp [hpsV,hpV];done)|(simp [frsV,frV];done)|(simp [txV];done)|(simp [prtsV,prtV];done)));(simp only [rpS,List.map_cons,List.map_nil,TV.inst,List.getD_cons_zero,List.getD_cons_succ];exact tv_))
      · rw [if_neg ha] at hlp
        rw [hlp] at hrw
        rw [show rowsP 0 bnz rows= .error (i+1) from hrw.symm] at hQ
        have hne:¬ o=[97,100,106,117,115,116]:=ha
        rcases mz with _|⟨e,mz⟩
        all_goals rcases ads with _|⟨f,ads⟩
        all_goals(
          simp only [List.length_cons,List.length_nil] at hms hds hdt hn0 hmm
          simp only [rpS,rpE,rmX,raX,rmS,raS]
          simp only [List.map_cons,List.map_nil,TB.inst,TV.inst,tv_map,zipT,List.cons_append,List.nil_append,Nat.add_zero]
          (have FX:=And.intro hlr (And.intro har (And.intro hgi (And.intro hwl (And.intro hwa (And.intro hw0 (And.intro hlt (And.intro hrl2 (And.intro hms (And.intro hds (And.intro hdt (And.intro hn0 hne)))))))))));repeat'(first|(refine sx ?_ ?_<;>intro h<;>first|(exfalso;omega)|skip)|(refine g_op ?_;refine g_call ?_;refine g_args ?_;(first|refine s_fn (hcw _) ?_)<;>try first|omega|assumption)|refine ny ?_|refine WA_block ?_|(refine uX15_7_14 ?_;refine⟨by kernel_rfl,?_⟩)|((first|refine grp_cons (fun _=>hcw _) ?_)<;>try first|omega|assumption)|(refine g_d ?_;refine d_args ?_;(first|refine d_fn (hcw _) ?_|refine d_fnQ (fun _=>hcw _) ?_)<;>try first|omega|assumption)|(refine g_d ?_;(first|refine d_fnY (hcw _) ?_)<;>try first|omega|assumption))))
        all_goals(try(exfalso;first|omega|contradiction|exact hmm ⟨by assumption,by omega,by first|trivial|omega⟩))
        all_goals exact r_esA hQ (v':= .tup [.agg [.nilsl,.nilsl],.int .i64 ((i:Int)+1),.int .i64 7]) (.inl ⟨rfl,rfl,wk_tup ⟨show WkV _ (.agg [.lst [],.lst []]) from wk_agg ⟨wk_nil,wk_nil,trivial⟩,WkV.refl _,WkV.refl _,trivial⟩⟩)
  · obtain rfl:i=rows.length - 1:=by omega
    have hi1:rows.length - 1+1=rows.length:=by omega
    rw [rows_last hi1] at hrw
    have hcb:=fun m=>rcheckbench_c b (hbl.bl (by omega)) m
    have hic:((rows.length - 1:Nat):Int)=(rows.length:Int) - 1:=by omega
    have hgi2:(xsV rows)[((rows.length:Int) - 1).toNat]?=some [V.str (rows.getD (rows.length - 1) [])]:=by rw [show((rows.length:Int) - 1).toNat=rows.length - 1 by omega];exact hgi
    clear hK hbl
    obtain⟨mz,ads⟩:=b
    dsimp only at hn0 hcb
    generalize rows.getD (rows.length - 1) []=u at *
    have hms:=mssV_length (l:=mz)
    have hds:=adsV_length (l:=ads)
    by_cases hu:u=[]
    · subst hu
      rw [if_pos rfl] at hrw
      rw [←hrw] at hQ
      dsimp only at hQ
      have hgi3:(xsV rows)[((rows.length:Int) - 1).toNat]?=some [V.str []]:=hgi2
      rcases mz with _|⟨e,mz⟩
      all_goals rcases ads with _|⟨f,ads⟩
      · simp only [List.length_cons,List.length_nil] at hms hds
        simp only [rpS,rpE,rmX,raX,rmS,raS]
        simp only [List.map_cons,List.map_nil,TB.inst,TV.inst,tv_map,zipT,List.cons_append,List.nil_append,Nat.add_zero]
        have hcc:=fun m=>Gives_argX (vs:=[.agg [.nilsl,.nilsl]]) (vs':=[.agg [.lst (mssV []),.lst (adsV [])]]) ⟨wk_agg ⟨wk_nil,wk_nil,trivial⟩,trivial⟩ (hcb m)
        (have FX:=And.intro hlr (And.intro har (And.intro hgi3 (And.intro hic (And.intro hrl2 hi))));repeat'(first|(refine sx ?_ ?_<;>intro h<;>first|(exfalso;omega)|skip)|(refine g_op ?_;refine g_call ?_;refine g_args ?_;(first|refine s_fn (hcc _) ?_)<;>try first|omega|assumption)|refine ny ?_|refine WA_block ?_|(refine uX15_7_14 ?_;refine⟨by kernel_rfl,?_⟩)|((first|refine grp_cons (fun _=>hcc _) ?_)<;>try first|omega|assumption)|(refine g_d ?_;refine d_args ?_;(first|refine d_fn (hcc _) ?_|refine d_fnQ (fun _=>hcc _) ?_)<;>try first|omega|assumption)|(refine g_d ?_;(first|refine d_fnY (hcc _) ?_)<;>try first|omega|assumption)))
        · rw [if_neg (by assumption)] at hQ
          exact r_esA hQ (v':= .tup [.agg [.nilsl,.nilsl],.int .i64 0,.int .i64 (bnErr ⟨[],[]⟩)]) (.inl ⟨rfl,rfl,wk_tup ⟨show WkV _ (.agg [.lst [],.lst []]) from wk_agg ⟨wk_nil,wk_nil,trivial⟩,WkV.refl _,WkV.refl _,trivial⟩⟩)
        · rw [if_pos (by assumption)] at hQ
          exact r_esA hQ (v':= .tup [.agg [.nilsl,.nilsl],.int .i64 0,.int .i64 0]) (fin_prs hB (by first|exact frz_nl|exact frz_ls (mssV_plain _)) (by first|exact frz_nl|exact frz_ls (adsV_plain _)) ⟨rfl,show WkV _ (.tup [.agg [.lst (mssV _),.lst (adsV _)],.int .i64 0,.int .i64 0]) from wk_tup ⟨wk_agg ⟨wk_nil,wk_nil,trivial⟩,WkV.refl _,WkV.refl _,trivial⟩⟩)
      · simp only [List.length_cons,List.length_nil] at hms hds
        simp only [rpS,rpE,rmX,raX,rmS,raS,List.length_cons,List.length_nil,Nat.zero_add,Nat.reduceAdd]
        simp only [List.map_cons,List.map_nil,TB.inst,TV.inst,tv_map,zipT,List.cons_append,List.nil_append,Nat.add_zero]
        refine WA_fzM (j:=2) rfl ?_
        simp only [List.map_cons,List.map_nil,frzV,frzC,List.set_cons_succ,List.set_cons_zero]
        rw [if_pos ⟨by first|rfl|trivial,by first|(rw [hms];exact Nat.le_refl _)|(rw [hds];exact Nat.le_refl _)⟩,List.take_of_length_le (by first|(rw [hms];exact Nat.le_refl _)|(rw [hds];exact Nat.le_refl _))]
        simp only [mssV_frz,adsV_frz]
        have hcc:=fun m=>Gives_argX (vs:=[.agg [.nilsl,.lst (adsV (f::ads))]]) (vs':=[.agg [.lst (mssV []),.lst (adsV (f::ads))]]) ⟨wk_agg ⟨wk_nil,WkV.refl _,trivial⟩,trivial⟩ (hcb m)
        (have FX:=And.intro hlr (And.intro har (And.intro hgi3 (And.intro hic (And.intro hrl2 hi))));repeat'(first|(refine sx ?_ ?_<;>intro h<;>first|(exfalso;omega)|skip)|(refine g_op ?_;refine g_call ?_;refine g_args ?_;(first|refine s_fn (hcc _) ?_)<;>try first|omega|assumption)|refine ny ?_|refine WA_block ?_|(refine uX15_7_14 ?_;refine⟨by kernel_rfl,?_⟩)|((first|refine grp_cons (fun _=>hcc _) ?_)<;>try first|omega|assumption)|(refine g_d ?_;refine d_args ?_;(first|refine d_fn (hcc _) ?_|refine d_fnQ (fun _=>hcc _) ?_)<;>try first|omega|assumption)|(refine g_d ?_;(first|refine d_fnY (hcc _) ?_)<;>try first|omega|assumption)))
        · rw [if_neg (by assumption)] at hQ
          exact r_esA hQ (v':= .tup [.agg [.nilsl,.nilsl],.int .i64 0,.int .i64 (bnErr ⟨[],f::ads⟩)]) (.inl ⟨rfl,rfl,wk_tup ⟨show WkV _ (.agg [.lst [],.lst []]) from wk_agg ⟨wk_nil,wk_nil,trivial⟩,WkV.refl _,WkV.refl _,trivial⟩⟩)
        · rw [if_pos (by assumption)] at hQ
          exact r_esA hQ (v':= .tup [.agg [.nilsl,.lst (adsV (f::ads))],.int .i64 0,.int .i64 0]) (fin_prs hB (by first|exact frz_nl|exact frz_ls (mssV_plain _)) (by first|exact frz_nl|exact frz_ls (adsV_plain _)) ⟨rfl,show WkV _ (.tup [.agg [.lst (mssV _),.lst (adsV _)],.int .i64 0,.int .i64 0]) from wk_tup ⟨wk_agg ⟨wk_nil,WkV.refl _,trivial⟩,WkV.refl _,WkV.refl _,trivial⟩⟩)
      · simp only [List.length_cons,List.length_nil] at hms hds
        simp only [rpS,rpE,rmX,raX,rmS,raS,List.length_cons,List.length_nil,Nat.zero_add,Nat.reduceAdd]
        simp only [List.map_cons,List.map_nil,TB.inst,TV.inst,tv_map,zipT,List.cons_append,List.nil_append,Nat.add_zero]
        refine WA_fzM (j:=2) rfl ?_
        simp only [List.map_cons,List.map_nil,frzV,frzC,List.set_cons_succ,List.set_cons_zero]
        rw [if_pos ⟨by first|rfl|trivial,by first|(rw [hms];exact Nat.le_refl _)|(rw [hds];exact Nat.le_refl _)⟩,List.take_of_length_le (by first|(rw [hms];exact Nat.le_refl _)|(rw [hds];exact Nat.le_refl _))]
        simp only [mssV_frz,adsV_frz]
        have hcc:=fun m=>Gives_argX (vs:=[.agg [.lst (mssV (e::mz)),.nilsl]]) (vs':=[.agg [.lst (mssV (e::mz)),.lst (adsV [])]]) ⟨wk_agg ⟨WkV.refl _,wk_nil,trivial⟩,trivial⟩ (hcb m)
        (have FX:=And.intro hlr (And.intro har (And.intro hgi3 (And.intro hic (And.intro hrl2 hi))));repeat'(first|(refine sx ?_ ?_<;>intro h<;>first|(exfalso;omega)|skip)|(refine g_op ?_;refine g_call ?_;refine g_args ?_;(first|refine s_fn (hcc _) ?_)<;>try first|omega|assumption)|refine ny ?_|refine WA_block ?_|(refine uX15_7_14 ?_;refine⟨by kernel_rfl,?_⟩)|((first|refine grp_cons (fun _=>hcc _) ?_)<;>try first|omega|assumption)|(refine g_d ?_;refine d_args ?_;(first|refine d_fn (hcc _) ?_|refine d_fnQ (fun _=>hcc _) ?_)<;>try first|omega|assumption)|(refine g_d ?_;(first|refine d_fnY (hcc _) ?_)<;>try first|omega|assumption)))
        · rw [if_neg (by assumption)] at hQ
          exact r_esA hQ (v':= .tup [.agg [.nilsl,.nilsl],.int .i64 0,.int .i64 (bnErr ⟨e::mz,[]⟩)]) (.inl ⟨rfl,rfl,wk_tup ⟨show WkV _ (.agg [.lst [],.lst []]) from wk_agg ⟨wk_nil,wk_nil,trivial⟩,WkV.refl _,WkV.refl _,trivial⟩⟩)
        · rw [if_pos (by assumption)] at hQ
          exact r_esA hQ (v':= .tup [.agg [.lst (mssV (e::mz)),.nilsl],.int .i64 0,.int .i64 0]) (fin_prs hB (by first|exact frz_nl|exact frz_ls (mssV_plain _)) (by first|exact frz_nl|exact frz_ls (adsV_plain _)) ⟨rfl,show WkV _ (.tup [.agg [.lst (mssV _),.lst (adsV _)],.int .i64 0,.int .i64 0]) from wk_tup ⟨wk_agg ⟨WkV.refl _,wk_nil,trivial⟩,WkV.refl _,WkV.refl _,trivial⟩⟩)
      · simp only [List.length_cons,List.length_nil] at hms hds
        simp only [rpS,rpE,rmX,raX,rmS,raS,List.length_cons,List.length_nil,Nat.zero_add,Nat.reduceAdd]
        simp only [List.map_cons,List.map_nil,TB.inst,TV.inst,tv_map,zipT,List.cons_append,List.nil_append,Nat.add_zero]
        refine WA_fzM (j:=2) rfl ?_
        simp only [List.map_cons,List.map_nil,frzV,frzC,List.set_cons_succ,List.set_cons_zero]
        rw [if_pos ⟨by first|rfl|trivial,by first|(rw [hms];exact Nat.le_refl _)|(rw [hds];exact Nat.le_refl _)⟩,List.take_of_length_le (by first|(rw [hms];exact Nat.le_refl _)|(rw [hds];exact Nat.le_refl _))]
        rw [if_neg (fun h=>absurd h.1 (by omega))]
        simp only [mssV_frz,adsV_frz]
        refine WA_fzM (j:=3) rfl ?_
        simp only [List.map_cons,List.map_nil,frzV,frzC,List.set_cons_succ,List.set_cons_zero]
        rw [if_pos ⟨by first|rfl|trivial,by first|(rw [hms];exact Nat.le_refl _)|(rw [hds];exact Nat.le_refl _)⟩,List.take_of_length_le (by first|(rw [hms];exact Nat.le_refl _)|(rw [hds];exact Nat.le_refl _))]
        simp only [mssV_frz,adsV_frz]
        have hcc:=fun m=>Gives_argX (vs:=[.agg [.lst (mssV (e::mz)),.lst (adsV (f::ads))]]) (vs':=[.agg [.lst (mssV (e::mz)),.lst (adsV (f::ads))]]) ⟨wk_agg ⟨WkV.refl _,WkV.refl _,trivial⟩,trivial⟩ (hcb m)
        (have FX:=And.intro hlr (And.intro har (And.intro hgi3 (And.intro hic (And.intro hrl2 hi))));repeat'(first|(refine sx ?_ ?_<;>intro h<;>first|(exfalso;omega)|skip)|(refine g_op ?_;refine g_call ?_;refine g_args ?_;(first|refine s_fn (hcc _) ?_)<;>try first|omega|assumption)|refine ny ?_|refine WA_block ?_|(refine uX15_7_14 ?_;refine⟨by kernel_rfl,?_⟩)|((first|refine grp_cons (fun _=>hcc _) ?_)<;>try first|omega|assumption)|(refine g_d ?_;refine d_args ?_;(first|refine d_fn (hcc _) ?_|refine d_fnQ (fun _=>hcc _) ?_)<;>try first|omega|assumption)|(refine g_d ?_;(first|refine d_fnY (hcc _) ?_)<;>try first|omega|assumption)))
        · rw [if_neg (by assumption)] at hQ
          exact r_esA hQ (v':= .tup [.agg [.nilsl,.nilsl],.int .i64 0,.int .i64 (bnErr ⟨e::mz,f::ads⟩)]) (.inl ⟨rfl,rfl,wk_tup ⟨show WkV _ (.agg [.lst [],.lst []]) from wk_agg ⟨wk_nil,wk_nil,trivial⟩,WkV.refl _,WkV.refl _,trivial⟩⟩)
        · rw [if_pos (by assumption)] at hQ
          exact r_esA hQ (v':= .tup [.agg [.lst (mssV (e::mz)),.lst (adsV (f::ads))],.int .i64 0,.int .i64 0]) (fin_prs hB (by first|exact frz_nl|exact frz_ls (mssV_plain _)) (by first|exact frz_nl|exact frz_ls (adsV_plain _)) ⟨rfl,show WkV _ (.tup [.agg [.lst (mssV _),.lst (adsV _)],.int .i64 0,.int .i64 0]) from wk_tup ⟨wk_agg ⟨WkV.refl _,WkV.refl _,trivial⟩,WkV.refl _,WkV.refl _,trivial⟩⟩)
    · rw [if_neg hu,hi1] at hrw
      rw [←hrw] at hQ
      dsimp only at hQ
      rcases mz with _|⟨e,mz⟩
      all_goals rcases ads with _|⟨f,ads⟩
      all_goals(
        simp only [rpS,rpE,rmX,raX,rmS,raS]
        simp only [List.map_cons,List.map_nil,TB.inst,TV.inst,tv_map,zipT,List.cons_append,List.nil_append,Nat.add_zero]
        (have FX:=And.intro hlr (And.intro har (And.intro hgi2 (And.intro hic (And.intro hrl2 (And.intro hi hu)))));repeat'(first|(refine sx ?_ ?_<;>intro h<;>first|(exfalso;omega)|skip)|refine ny ?_|refine WA_block ?_|(refine uX15_7_14 ?_;refine⟨by kernel_rfl,?_⟩))))
      all_goals(try(exfalso;omega))
      all_goals(try contradiction)
      all_goals exact r_esA hQ (v':= .tup [.agg [.nilsl,.nilsl],.int .i64 rows.length,.int .i64 7]) (.inl ⟨rfl,rfl,wk_tup ⟨show WkV _ (.agg [.lst [],.lst []]) from wk_agg ⟨wk_nil,wk_nil,trivial⟩,WkV.refl _,WkV.refl _,trivial⟩⟩)
theorem valD_dec(u:Nat):valD 0 (Lib.decDigits u)=u:=by
  induction u using Nat.strongRecOn with
  | _ u ih=>
    rw [Lib.decDigits]
    split
    · show 10 * 0+((UInt8.ofNat (48+u)).toNat - 48)=u
      have:=u8_of (d:=48+u) (by omega)
      omega
    · rw [valD_snoc,ih (u / 10) (by omega)]
      have:=u8_of (d:=48+u % 10) (by omega)
      omega
theorem dec_len:∀ (k u:Nat),u<10 ^ (k+1)→(Lib.decDigits u).length≤k+1
  | 0,u,h=>by
    rw [Lib.decDigits,dif_pos (by simpa using h)]
    exact Nat.le_refl _
  | k +1,u,h=>by
    by_cases h9:u<10
    · rw [Lib.decDigits,dif_pos h9];simp
    · rw [Lib.decDigits,dif_neg h9,List.length_append]
      have:=dec_len k (u / 10) (by rw [Nat.pow_succ] at h;omega)
      simp only [List.length_cons,List.length_nil]
      omega
theorem dec_ne(u:Nat):Lib.decDigits u≠[]:=by
  rw [Lib.decDigits]
  split
  · simp
  · simp
theorem dec_fr(u:Nat):frP (Lib.decDigits u)=0:=by
  unfold frP
  rw [if_neg]
  intro h
  rcases hd:Lib.decDigits u with _|⟨c,r⟩
  · exact dec_ne u hd
  · rw [hd] at h
    simp at h
    have:=dec_dig u c (by rw [hd];exact List.mem_cons_self)
    subst h
    exact absurd this.1 (by decide)
theorem numP_itoa {d:Nat} (hd:d≤17) {n:Int} (h:n.natAbs<10 ^ (d+1)):numP (d+1) (Lib.itoa n)=some n:=by
  have key:nGood (d+1) (Lib.itoa n)∧nV (Lib.itoa n)=n:=by
    unfold Lib.itoa nGood nV
    split
    · have hf:frP (45::Lib.decDigits n.natAbs)=1:=rfl
      rw [hf]
      refine⟨⟨?_,?_,?_⟩,?_⟩
      · have:=dec_ne n.natAbs
        intro q
        simp at q
        exact this q
      · have:=dec_len d n.natAbs h
        simp only [List.length_cons]
        omega
      · exact dec_dig _
      · rw [if_pos rfl]
        show -((valD 0 (Lib.decDigits n.natAbs):Nat):Int)=n
        rw [valD_dec]
        omega
    · rename_i hn
      have hf:frP (Lib.decDigits n.toNat)=0:=dec_fr _
      rw [hf]
      refine⟨⟨?_,?_,?_⟩,?_⟩
      · have:=dec_ne n.toNat
        intro q
        exact this (List.length_eq_zero_iff.1 q)
      · have:=dec_len d n.toNat (by rw [show n.toNat=n.natAbs by omega];exact h)
        omega
      · exact dec_dig _
      · rw [if_neg (by decide)]
        show((valD 0 (Lib.decDigits n.toNat):Nat):Int)=n
        rw [valD_dec]
        omega
  rw [numP_good (by omega) key.1,key.2,if_pos rfl]
theorem itoa_ne{n:Int}{c:UInt8}(hc:c∈Lib.itoa n):c≠32∧c≠10:=by
  unfold Lib.itoa at hc
  have key:∀ u,c∈Lib.decDigits u→c≠32∧c≠10:=fun u h=>by
    have:=dec_dig u c h
    constructor
    · rintro rfl;exact absurd this.1 (by decide)
    · rintro rfl;exact absurd this.1 (by decide)
  split at hc
  · rcases List.mem_cons.1 hc with rfl|hc
    · decide
    · exact key _ hc
  · exact key _ hc
theorem cutP_no{c:UInt8}:∀ {s:Txt},(∀ x∈s,x≠c)→cutP c s=[s]
  |[],_=>rfl
  | b::l,h=>by
    have ih:=cutP_no (c:=c) (s:=l) fun x hx=>h x (List.mem_cons_of_mem _ hx)
    unfold cutP
    rw [if_neg (h b List.mem_cons_self),ih]
theorem cutP_app{c:UInt8}{s:Txt}:∀ {p:Txt},(∀ x∈p,x≠c)→cutP c (p++c::s)=p::cutP c s
  | [],_=>by
    rw [List.nil_append]
    conv=>lhs;unfold cutP
    rw [if_pos rfl]
  | b::l,h=>by
    have ih:=cutP_app (c:=c) (s:=s) (p:=l) fun x hx=>h x (List.mem_cons_of_mem _ hx)
    rw [List.cons_append]
    conv=>lhs;unfold cutP
    rw [if_neg (h b List.mem_cons_self),ih]
theorem step_back{a b:Int}(ha:a.natAbs≤9999999)(hb:b.natAbs≤9999999):stepP (Lib.itoa a++32::Lib.itoa b)=some (a,b):=by
  unfold stepP
  rw [cutP_app (fun x hx=>(itoa_ne hx).1),cutP_no (fun x hx=>(itoa_ne hx).1)]
  simp only [numsP]
  rw [numP_itoa (d:=6) (by decide) (by omega),numP_itoa (d:=6) (by decide) (by omega)]
  rfl
theorem rowsP_bl:∀ {rows:List Txt} {k:Nat} {b b':BnR},BlN k b→(∀ r∈rows,r.length≤999)→rowsP k b rows= .ok b'→BlN (k+rows.length) b'
  |[],k,b,b',h,_,e=>by cases e;exact h
  | [r],k,b,b',h,_,e=>by
    unfold rowsP at e
    split at e
    · cases e
      exact⟨by have:=h.n;simp;omega,h.m,h.a⟩
    · cases e
  | r ::q::rs,k,b,b',h,hr,e=>by
    unfold rowsP at e
    cases hl:lineP b r with
    |none=>rw [hl] at e;cases e
    | some c=>
      rw [hl] at e
      have:=rowsP_bl (lineP_bl h (hr r List.mem_cons_self) hl) (fun x hx=>hr x (List.mem_cons_of_mem _ hx)) e
      rw [show k+1+(q::rs).length=k+(r::q::rs).length by simp;omega] at this
      exact this
theorem bnz_bl:BlN 0 bnz:=⟨Nat.zero_le _,by simp [bnz],by simp [bnz]⟩
theorem prs_bl{s:Txt}(h:¬ (600<s.length∧s.length≤60000)):Bl (prsP s).1:=by
  unfold prsP
  split
  · exact bnz_bl.bl (by decide)
  · have hs:s.length≤600:=by omega
    have hrl:=cutP_len 10 s
    have hrm:=fun p=>cutP_sub (c:=10) (s:=s) (p:=p)
    split
    · exact bnz_bl.bl (by decide)
    · rename_i b hb
      split
      · exact(rowsP_bl bnz_bl (fun r hr=>Nat.le_trans (hrm r hr) (by omega)) hb).bl (by omega)
      · exact bnz_bl.bl (by decide)
theorem gparse_c(s:Txt)(h:¬ (600<s.length∧s.length≤60000))(m:Mem):Gives Tryz.prog 6 [.str s] m (paV (prsP s)):=by
  by_cases hs:60000<s.length
  · exact gparse_long s hs m
  · exact gparse_walk s (by omega) m
theorem rparse_c(s:Txt)(h:¬ (600<s.length∧s.length≤60000))(m:Mem):Gives Tryz.prog 7 [.str s] m (paV (prsP s)):=by
  by_cases hs:60000<s.length
  · exact rparse_long s hs m
  · exact rparse_walk s (by omega) m
end Go.Proofs.YtookikhphobnlaaGreatDoor
