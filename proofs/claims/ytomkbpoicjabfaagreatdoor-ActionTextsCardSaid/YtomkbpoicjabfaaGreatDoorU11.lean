/- contract: the reference's Parse -/
import Derived.Test.YtomkbpoicjabfaaGreatDoorGAL
import Derived.Test.YtomkbpoicjabfaaGreatDoorU102
import Derived.Test.YtomkbpoicjabfaaGreatDoorU8
import Derived.Test.YtomkbpoicjabfaaGreatDoorC20
set_option linter.unusedSimpArgs false
set_option linter.unusedVariables false
namespace Go.Proofs.YtomkbpoicjabfaaGreatDoor
open Go.RowKit
attribute [local irreducible] WA WOs WDs WAn qThen qBlock tput
set_option maxHeartbeats 1000000
set_option maxRecDepth 20000
set_option linter.unusedSimpArgs false
set_option linter.unusedVariables false
set_option maxHeartbeats 4000000
/-- how far the kinds of lines have come -/
def rkA(k:Nat)(a:ActR):Int:=if k=0 then 0 else if a.leads.length≠0 then 3 else if a.evs.length≠0 then 2 else 1
theorem rkA_bd(k:Nat)(a:ActR):0≤rkA k a∧rkA k a≤3∧(rkA k a=0↔k=0)∧(rkA k a≤1↔k=0∨(a.leads=[]∧a.evs=[]))∧(rkA k a≤2↔k=0∨a.leads=[]):=by
  rw [←List.length_eq_zero_iff,←List.length_eq_zero_iff]
  unfold rkA
  split
  · omega
  · split
    · omega
    · split<;>omega
def rlV(A:Mem)(k:Nat)(a:ActR)(s:Txt)(v:V)(mo:Option Mem):Prop:=(∃ b M',v= .bool true∧mo=some M'∧lineA (decide (k=0)) a s=some b∧rlI A (rkA (k+1) b) b M')∨∃ Z,v= .bool false∧mo=some (A++Z)∧lineA (decide (k=0)) a s=none
theorem rline_c (A:Mem) (k:Nat) (a:ActR) (hk:AcN k a) (hk2:k≤1000) (M:Mem) (hI:rlI A (rkA k a) a M) (s:Txt) (hs:s.length≤1000) (n:Nat) (hA:A.length=n):CallA Tryz.prog 26 [.ptr n 0 0,.str s] M (rlV A k a s):=by
  subst hA
  have hn:=hk.n
  obtain⟨r0,r1,r2,r3,r4⟩:=rkA_bd k a
  obtain⟨o,w,hc⟩:∃ o w,cutP 32 s=o::w:=by
    rcases h:cutP 32 s with _|⟨o,w⟩
    · exact absurd h (cutP_ne 32 s)
    · exact⟨o,w,rfl⟩
  have hl:lineA (decide (k=0)) a s=if decide (o=actionT)≠decide (k=0) then none
    else if o=partT∧a.evs=[]∧a.leads=[] then (partP w).map fun p=>⟨a.dip,a.parts++[p],a.evs,a.leads⟩
    else if o=eventT∧a.leads=[] then (evP w).map fun e=>⟨a.dip,a.parts,a.evs++[e],a.leads⟩
    else if o=actionT∧w.length=1 then (numsP 7 w).map fun n=>⟨n.getD 0 0,a.parts,a.evs,a.leads⟩
    else if o=leadT∧w.length=2 then (numsP 7 w).map fun n=>⟨a.dip,a.parts,a.evs,a.leads++[(n.getD 0 0,n.getD 1 0)]⟩
    else none:=by
    unfold lineA
    rw [hc]
  by_cases h1:o=actionT
  · subst h1
    rw [if_neg (show ¬ (actionT=partT∧a.evs=[]∧a.leads=[]) from fun q=>absurd q.1 (by decide)),if_neg (show ¬ (actionT=eventT∧a.leads=[]) from fun q=>absurd q.1 (by decide)),if_neg (show ¬ (actionT=leadT∧w.length=2) from fun q=>absurd q.1 (by decide))] at hl
    refine rline_act A _ a M hI s w hc hs _ (fun n M' g1 g2 g3=> .inl ⟨⟨n,a.parts,a.evs,a.leads⟩,M',rfl,rfl,?_,?_⟩) (fun Z g=> .inr ⟨Z,rfl,rfl,?_⟩) r0
    · have h0:=r2.1 g2
      have:=numsP_len g1
      rw [hl,if_neg (by simp [h0]),if_pos ⟨rfl,by simpa using this.symm⟩,g1]
      rfl
    · have h0:=r2.1 g2
      have e1:a.leads.length=0:=by omega
      have e2:a.evs.length=0:=by omega
      have e:rkA (k+1) ⟨n,a.parts,a.evs,a.leads⟩=1:=by
        unfold rkA
        rw [if_neg (by omega),if_neg (by dsimp only;omega),if_neg (by dsimp only;omega)]
      rw [e]
      exact g3
    · rw [hl]
      by_cases h0:k=0
      · rw [if_neg (by simp [h0])]
        by_cases hw:w.length=1
        · rcases g with g|g|g
          · rw [if_pos ⟨rfl,hw⟩,g];rfl
          · exact absurd hw g
          · exact absurd (r2.2 h0) g
        · rw [if_neg fun q=>hw q.2]
      · rw [if_pos (by simp [h0])]
  by_cases h2:o=partT
  · subst h2
    rw [if_neg (show ¬ (partT=eventT∧a.leads=[]) from fun q=>absurd q.1 (by decide)),if_neg (show ¬ (partT=actionT∧w.length=1) from fun q=>absurd q.1 (by decide)),if_neg (show ¬ (partT=leadT∧w.length=2) from fun q=>absurd q.1 (by decide))] at hl
    have hno:(partP w=none∨rkA k a=0∨1<rkA k a)→lineA (decide (k=0)) a s=none:=fun g=>by
      rw [hl]
      split
      · rfl
      · rename_i q0
        have h0:k≠0:=fun q=>q0 (by simp [q];decide)
        split
        · rename_i q
          rcases g with g|g|g
          · rw [g];rfl
          · exact absurd (r2.1 g) h0
          · have:=r3.2 (.inr ⟨q.2.2,q.2.1⟩);omega
        · rfl
    have hyes:∀ p M',partP w=some p→rkA k a≠0→rkA k a≤1→rlI A 1 ⟨a.dip,a.parts++[p],a.evs,a.leads⟩ M'→rlV A k a s (.bool true) (some M'):=fun p M' g1 g2 g3 g4=>by
      have h0:k≠0:=fun q=>g2 (r2.2 q)
      obtain⟨e1,e2⟩:=(r3.1 g3).resolve_left h0
      refine .inl ⟨⟨a.dip,a.parts++[p],a.evs,a.leads⟩,M',rfl,rfl,?_,?_⟩
      · rw [hl,if_neg (by simp [h0];decide),if_pos ⟨rfl,e2,e1⟩,g1]
        rfl
      · have e:rkA (k+1) ⟨a.dip,a.parts++[p],a.evs,a.leads⟩=1:=by
          unfold rkA
          rw [if_neg (by omega),if_neg (by simp [e1]),if_neg (by simp [e2])]
        rw [e]
        exact g4
    by_cases hsh:w.length<4∨w.length % 2=1
    · refine rline_pno A _ a M hI s w hc hs hsh _ fun Z=> .inr ⟨Z,rfl,rfl,hno (.inl ?_)⟩
      rcases w with _|⟨nm,_|⟨dr,r⟩⟩
      · rfl
      · rfl
      · simp only [List.length_cons] at hsh
        exact rp_out fun q=>by omega
    · obtain⟨nm,dr,r,rfl⟩:∃ nm dr r,w=nm::dr::r:=by
        rcases w with _|⟨nm,_|⟨dr,r⟩⟩
        · exact absurd (.inl (by decide)) hsh
        · exact absurd (.inl (by simp)) hsh
        · exact⟨nm,dr,r,rfl⟩
      simp only [List.length_cons] at hsh
      exact rline_pyes A _ a M hI s nm dr r hc hs (by omega) (by omega) (by omega) _ hyes fun Z g=> .inr ⟨Z,rfl,rfl,hno g⟩
  rw [if_neg (show ¬ (o=partT∧a.evs=[]∧a.leads=[]) from fun q=>h2 q.1),if_neg (show ¬ (o=actionT∧w.length=1) from fun q=>h1 q.1)] at hl
  have hd:decide (o=actionT)=false:=decide_eq_false h1
  rw [hd] at hl
  by_cases h3:o=eventT
  · subst h3
    rw [if_neg (show ¬ (eventT=leadT∧w.length=2) from fun q=>absurd q.1 (by decide))] at hl
    refine rline_ev A _ a M hI s w hc hs (by omega) _ (fun p M' g1 g2 g3 g4=> .inl ⟨⟨a.dip,a.parts,a.evs++[p],a.leads⟩,M',rfl,rfl,?_,?_⟩) fun Z g=> .inr ⟨Z,rfl,rfl,?_⟩
    · have h0:k≠0:=fun q=>g2 (r2.2 q)
      rw [hl,if_neg (by simp [h0]),if_pos ⟨rfl,(r4.1 g3).resolve_left h0⟩,g1]
      rfl
    · have h0:k≠0:=fun q=>g2 (r2.2 q)
      have e1:=(r4.1 g3).resolve_left h0
      have e:rkA (k+1) ⟨a.dip,a.parts,a.evs++[p],a.leads⟩=2:=by
        unfold rkA
        rw [if_neg (by omega),if_neg (by simp [e1]),if_pos (by simp)]
      rw [e]
      exact g4
    · rw [hl]
      split
      · rfl
      · rename_i q0
        have h0:k≠0:=fun q=>q0 (by simp [q])
        split
        · rename_i q
          rcases g with g|g|g
          · rw [g];rfl
          · exact absurd (r2.1 g) h0
          · have:=r4.2 (.inr q.2);omega
        · rfl
  rw [if_neg (show ¬ (o=eventT∧a.leads=[]) from fun q=>h3 q.1)] at hl
  by_cases h4:o=leadT
  · subst h4
    refine rline_ld A _ a M hI s w hc hs (by omega) _ (fun x y M' g1 g2 g3=> .inl ⟨⟨a.dip,a.parts,a.evs,a.leads++[(x,y)]⟩,M',rfl,rfl,?_,?_⟩) (fun Z g=> .inr ⟨Z,rfl,rfl,?_⟩) r1
    · have h0:k≠0:=fun q=>g2 (r2.2 q)
      have:=numsP_len g1
      rw [hl,if_neg (by simp [h0]),if_pos ⟨rfl,by simpa using this.symm⟩,g1]
      rfl
    · have e:rkA (k+1) ⟨a.dip,a.parts,a.evs,a.leads++[(x,y)]⟩=3:=by
        unfold rkA
        rw [if_neg (by omega),if_pos (by simp)]
      rw [e]
      exact g3
    · rw [hl]
      split
      · rfl
      · rename_i q0
        have h0:k≠0:=fun q=>q0 (by simp [q])
        split
        · rename_i q
          rcases g with g|g|g
          · rw [g];rfl
          · exact absurd q.2 g
          · exact absurd (r2.1 g) h0
        · rfl
  · rw [if_neg (show ¬ (o=leadT∧w.length=2) from fun q=>h4 q.1),ite_self] at hl
    exact rline_no A _ a M hI s o w hc hs h1 h2 h3 h4 _ fun Z=> .inr ⟨Z,rfl,rfl,hl⟩
theorem drop_1{ws:List Txt}{k:Nat}(h:k<ws.length):ws.drop k=ws.getD k []::ws.drop (k+1):=by
  rw [List.drop_eq_getElem_cons h,List.getD_eq_getElem?_getD,List.getElem?_eq_getElem h];rfl
theorem rows_step{rows:List Txt}{i:Nat}{a:ActR}(h:i+1<rows.length):rowsA i a (rows.drop i)=match lineA (decide (i=0)) a (rows.getD i []) with
    |some b=>rowsA (i+1) b (rows.drop (i+1))
    |none=> .error (i+1):=by
  rw [drop_1 (k:=i) (by omega),drop_1 (k:=i+1) h]
  rfl
theorem rows_last{rows:List Txt}{i:Nat}{a:ActR}(h:i+1=rows.length):rowsA i a (rows.drop i)=if rows.getD i []=[] then .ok a else .error (i+1):=by
  rw [drop_1 (k:=i) (by omega),List.drop_eq_nil_of_le (by omega)]
  rfl

theorem rparse_long(s:Txt)(hs:60000<s.length)(m:Mem):Gives Tryz.prog 7 [.str s] m (paV (prsA s)):=by
  suffices key:CallA Tryz.prog 7 [.str s] m (fun v mo=>mo=none∧WkV v (paV (prsA s))) from Gives_ofX key fun v mo h=>h
  refine CallA_in Tryz.func7 rfl Tryz.ntmps7 Tryz.results7 (by kernel_rfl) (by simp) fun Q hQ=>?_
  unfold prsA at hQ
  rw [if_pos hs] at hQ
  (repeat'(first|(refine sx ?_ ?_<;>intro h<;>first|(exfalso;omega)|skip)|refine ny ?_|refine WA_block ?_))
  all_goals(try(exfalso;omega))
  exact r_esA hQ (v':= .tup [.agg [.int .i64 0,.nilsl,.nilsl,.nilsl],.int .i64 0,.int .i64 8]) (.inl ⟨rfl,rfl,wk_az 0 8⟩)
theorem rparse_walk (s:Txt) (hs:s.length≤600) (m:Mem):Gives Tryz.prog 7 [.str s] m (paV (prsA s)):=by
  suffices key:CallA Tryz.prog 7 [.str s] m (fun v mo=>mo=none∧WkV v (paV (prsA s))) from Gives_ofX key fun v mo h=>h
  refine CallA_in Tryz.func7 rfl Tryz.ntmps7 Tryz.results7 (by kernel_rfl) (by simp) fun Q hQ=>?_
  unfold prsA at hQ
  rw [if_neg (by omega)] at hQ
  have hct:=fun m=>bcut_c s 10 (by omega) m
  have hrl:=cutP_len 10 s
  have hr0:=cutP_ne 10 s
  have hrm:=fun p=>cutP_sub (c:=10) (s:=s) (p:=p)
  generalize cutP 10 s=rows at *
  have hrl0:0<rows.length:=List.length_pos_iff.2 hr0
  (repeat'(first|(refine sx ?_ ?_<;>intro h<;>first|(exfalso;omega)|skip)|(refine g_op ?_;refine g_call ?_;refine g_args ?_;(first|refine s_fn (hct _) ?_)<;>try first|omega|assumption)|refine ny ?_|refine WA_block ?_))
  all_goals(try(exfalso;omega))
  refine WA_while (σ:=Nat×Mem) [2,5,6,7] (fun q=>[.ptr (lend m).length 0 0,.lst (xsV rows),.ptr ((lend m).length+1) 0 0,.int .i64 q.1]) (fun q=>q.2) (fun q=>q.1<rows.length∧∃ a,AcN q.1 a∧rowsA q.1 a (rows.drop q.1)=rowsA 0 az rows∧rlI (lend m++[azB]) (rkA q.1 a) a q.2) (fun q=>rows.length - q.1) (0,lend m++[azB,.cells .own 69 5 [[.int .i64 0,.nilsl,.nilsl,.nilsl,.int .i64 0]]]) ⟨hrl0,az,az_n,rfl,.nilsl,.nilsl,.nilsl,[],by simp [az,rkA],⟨.inl ⟨rfl,rfl⟩,.inl ⟨rfl,rfl⟩,.inl ⟨rfl,rfl⟩⟩⟩ tv_ (by first|rfl|simp) ?_
  rintro⟨i,M'⟩ ⟨hi,a,han,hrw,hI⟩ K hK
  dsimp only at hi han hrw hI
  simp only [zipT]
  have hlr:=xsV_length (l:=rows)
  have har:(xsV rows).all (fun e=>e.length==1)=true:=by simp [xsV]
  have hgi:=xsV_get hi
  have hul:(rows.getD i []).length≤600:=Nat.le_trans (hrm _ (gdm hi)) hs
  have hrl2:rows.length≤601:=by omega
  have hi6:i≤601:=by omega
  rcases Nat.lt_or_ge (i+1) rows.length with hlt|hge
  · rw [rows_step hlt] at hrw
    generalize rows.getD i []=u at *
    clear hrm hr0 hct hrl
    (have FX:=And.intro hlr (And.intro har (And.intro hgi (And.intro hlt (And.intro hrl2 hi6))));repeat'(first|(refine sx ?_ ?_<;>intro h<;>first|(exfalso;omega)|skip)|refine ny ?_|refine WA_block ?_))
    all_goals(try(exfalso;omega))
    refine g_op ?_;refine g_call ?_;refine g_args ?_;refine s_fnA (rline_c (lend m++[azB]) i a han (by omega) _ hI u (by omega) _ (by simp)) ?_
    rintro v mo (⟨b,M2,rfl,rfl,hb,hI2⟩|⟨Z,rfl,rfl,hb⟩)
    all_goals simp only [Option.getD_some]
    · rw [show M2=M2++[] from(List.append_nil _).symm]
      (have FX:=And.intro hlr (And.intro har (And.intro hgi (And.intro hlt (And.intro hrl2 hi6))));repeat'(first|(refine sx ?_ ?_<;>intro h<;>first|(exfalso;omega)|skip)|refine ny ?_|refine WA_block ?_))
      rw [List.append_nil]
      rw [hb] at hrw
      exact next_ hK (i+1,M2) ⟨hlt,b,lineA_n han (by omega) hb,hrw,hI2⟩ (by dsimp only;omega)
    · rw [hb] at hrw
      rw [←hrw] at hQ
      dsimp only at hQ
      simp only [List.append_assoc,List.cons_append,List.nil_append]
      (have FX:=And.intro hlr (And.intro har (And.intro hgi (And.intro hlt (And.intro hrl2 hi6))));repeat'(first|(refine sx ?_ ?_<;>intro h<;>first|(exfalso;omega)|skip)|refine ny ?_|refine WA_block ?_))
      exact r_esA hQ (v':= .tup [.agg [.int .i64 0,.nilsl,.nilsl,.nilsl],.int .i64 ((i:Int)+1),.int .i64 7]) (.inl ⟨rfl,rfl,wk_az _ 7⟩)
  · obtain rfl:i=rows.length - 1:=by omega
    have hi1:rows.length - 1+1=rows.length:=by omega
    rw [rows_last hi1] at hrw
    generalize rows.getD (rows.length - 1) []=u at *
    clear hrm hr0 hct hrl
    obtain⟨v1,v2,v3,X,rfl,hv⟩:=hI
    have hic:((rows.length - 1:Nat):Int)=(rows.length:Int) - 1:=by omega
    have hit:((rows.length:Int) - 1).toNat=rows.length - 1:=by omega
    have hcb:=fun m=>rcheckaction_c a (han.lt (by omega)) m
    unfold actV at hcb
    obtain⟨-, -,r2, -⟩:=rkA_bd (rows.length - 1) a
    generalize rkA (rows.length - 1) a=rk at *
    rw [show(lend m++[azB]++(Blk.cells .own 69 5 [[.int .i64 a.dip,v1,v2,v3,.int .i64 rk]]::X))=lend m++([azB]++(Blk.cells .own 69 5 [[.int .i64 a.dip,v1,v2,v3,.int .i64 rk]]::([]++X))) by simp]
    refine WA_fzAct (L:=lend m) (Y1:=[azB]) (Y2:=[]) (o:=(lend m++[azB]).length+1) hv (by simp) (fun _ _=>rfl) (fun _ _=>rfl) (fun _ _=>rfl) (fun _ _=>rfl) (fun _ _=>rfl) fun X'=>?_
    clear hv
    simp only [List.append_assoc,List.cons_append,List.nil_append]
    rw [hic]
    by_cases hu:u=[]
    · rw [if_pos hu] at hrw
      rw [←hrw] at hQ
      dsimp only at hQ
      by_cases h1:rows.length=1
      · rw [if_pos h1] at hQ
        have hrk:rk=0:=r2.2 (by omega)
        (have FX:=And.intro hlr (And.intro har (And.intro hgi (And.intro hic (And.intro hit (And.intro hrl2 (And.intro hrl0 (And.intro hu hrk)))))));repeat'(first|(refine sx ?_ ?_<;>intro h<;>first|(exfalso;omega)|skip)|(refine g_op ?_;refine g_call ?_;refine g_args ?_;(first|refine s_fn (hcb _) ?_)<;>try first|omega|assumption)|refine ny ?_|refine WA_block ?_))
        all_goals(try(exfalso;first|omega|contradiction))
        have h1i:(rows.length:Int)=1:=by omega
        rw [h1i]
        exact r_esA hQ (v':= .tup [.agg [.int .i64 0,.nilsl,.nilsl,.nilsl],.int .i64 1,.int .i64 7]) (.inl ⟨rfl,rfl,wk_az 1 7⟩)
      · rw [if_neg h1] at hQ
        have hrk:¬ rk=0:=fun q=>by have:=r2.1 q;omega
        (have FX:=And.intro hlr (And.intro har (And.intro hgi (And.intro hic (And.intro hit (And.intro hrl2 (And.intro hrl0 (And.intro hu hrk)))))));repeat'(first|(refine sx ?_ ?_<;>intro h<;>first|(exfalso;omega)|skip)|(refine g_op ?_;refine g_call ?_;refine g_args ?_;(first|refine s_fn (hcb _) ?_)<;>try first|omega|assumption)|refine ny ?_|refine WA_block ?_))
        all_goals(try(exfalso;first|omega|contradiction))
        · rw [if_neg (by assumption)] at hQ
          exact r_esA hQ (v':= .tup [.agg [.int .i64 0,.nilsl,.nilsl,.nilsl],.int .i64 0,.int .i64 (acErr a)]) (.inl ⟨rfl,rfl,wk_az 0 _⟩)
        · rw [if_pos (by assumption)] at hQ
          exact r_esA hQ (v':= .tup [.agg [.int .i64 a.dip,.lst (prtsV a.parts),.lst (evsV a.evs),.lst (ldsV a.leads)],.int .i64 0,.int .i64 0]) (fin_pa (prtsV_pl _) (evsV_pl _) (ldsV_pl _) ⟨rfl,WkV.refl _⟩)
    · rw [if_neg hu,hi1] at hrw
      rw [←hrw] at hQ
      dsimp only at hQ
      (have FX:=And.intro hlr (And.intro har (And.intro hgi (And.intro hic (And.intro hit (And.intro hrl2 (And.intro hrl0 hu))))));repeat'(first|(refine sx ?_ ?_<;>intro h<;>first|(exfalso;omega)|skip)|(refine g_op ?_;refine g_call ?_;refine g_args ?_;(first|refine s_fn (hcb _) ?_)<;>try first|omega|assumption)|refine ny ?_|refine WA_block ?_))
      all_goals(try(exfalso;first|omega|contradiction))
      exact r_esA hQ (v':= .tup [.agg [.int .i64 0,.nilsl,.nilsl,.nilsl],.int .i64 rows.length,.int .i64 7]) (.inl ⟨rfl,rfl,wk_az _ 7⟩)
end Go.Proofs.YtomkbpoicjabfaaGreatDoor
