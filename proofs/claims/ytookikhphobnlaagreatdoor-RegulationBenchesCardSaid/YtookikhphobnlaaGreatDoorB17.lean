/- contract: the steps with the fewest passes -/
import Derived.Test.YtookikhphobnlaaGreatDoorB16
import Derived.Test.YtookikhphobnlaaGreatDoorB9
set_option linter.unusedSimpArgs false
set_option linter.unusedVariables false
namespace Go.Proofs.YtookikhphobnlaaGreatDoor
open Go.RowKit
attribute [local irreducible] WA WOs WDs WAn qThen qBlock tput
set_option maxHeartbeats 1000000
set_option maxRecDepth 20000
set_option linter.unusedSimpArgs false
set_option linter.unusedVariables false
set_option maxHeartbeats 8000000
theorem trK_pos{ads:List AdR}(hw:∀ i,i<ads.length→(ads.getD i adz).least≤(ads.getD i adz).most):∀ k,k≤ads.length→1≤trK ads k
  |0,_=>Int.le_refl 1
  | k+1,hk=>by
    have ih:=trK_pos hw k (by omega)
    have h:=hw k (by omega)
    simp only [trK]
    have:=Int.mul_le_mul (a:=1) (c:=trK ads k) (b:=1) (d:=(ads.getD k adz).most - (ads.getD k adz).least+1) ih (by omega) (by decide) (by omega)
    omega
theorem trK_mono{ads:List AdR}(hw:∀ i,i<ads.length→(ads.getD i adz).least≤(ads.getD i adz).most){k:Nat}:∀ d,k+d≤ads.length→trK ads k≤trK ads (k+d)
  |0,_=>Int.le_refl _
  | d+1,hd=>by
    have ih:=trK_mono hw (k:=k) d (by omega)
    have h:=hw (k+d) (by omega)
    have hp:=trK_pos hw (k+d) (by omega)
    show trK ads k≤trK ads (k+d+1)
    simp only [trK]
    have:=Int.mul_le_mul (a:=trK ads (k+d)) (c:=trK ads (k+d)) (b:=1) (d:=(ads.getD (k+d) adz).most - (ads.getD (k+d) adz).least+1) (Int.le_refl _) (by omega) (by decide) (by omega)
    omega
def fwV(b:BnR):V:=if 100000<trK b.ads b.ads.length then .tup [.nilsl,.int .i64 0,.int .i64 8] else if (fwB b).f=true then .tup [.lst (nsV (fwB b).l),.int .i64 (fwB b).p,.int .i64 0] else .tup [.nilsl,.int .i64 0,.int .i64 12]
theorem uB17_25_18{N:Nat}{l:List Oper}{t:List (Nat×V)}{m:Mem}{Q:Exit→List (Nat×V)→Mem→Prop}(h:RgN Tryz.prog N l t m Q (fun i=>if i==12 || i==13 || i==17 || i==19 || i==20 then .a else if i==0 || i==3 || i==5 || i==6 || i==8 || i==10 || i==11 then .q else .p) [.one 0,.one 1,.one 2,.one 3,.one 4,.one 5,.one 6,.one 7,.one 8,.one 9,.one 10,.one 11,.one 12,.one 13,.one 14,.one 15,.one 16,.one 18,.one 17,.one 19,.one 20,.one 21]):WA Tryz.prog N (.region 18 l.toArray true) t m Q:=d_rgN h
theorem uB17_25_19{N:Nat}{l:List Oper}{t:List (Nat×V)}{m:Mem}{Q:Exit→List (Nat×V)→Mem→Prop}(h:RgT Tryz.prog N l t m Q 43 (fun i=>if i==4 || i==5 then .w else if i==3 then .f else if i==1 then .a else if i==2 then .q else .p) [.one 0,.one 2,.one 1,.one 3,.one 4,.one 5]):WA Tryz.prog N (.region 19 l.toArray true) t m Q:=d_rgT h
theorem uB17_25_22{N:Nat}{l:List Oper}{t:List (Nat×V)}{m:Mem}{Q:Exit→List (Nat×V)→Mem→Prop}(h:RgN Tryz.prog N l t m Q (fun i=>if i==0 || i==2 then .q else .p) [.one 0,.one 1,.one 2,.one 3,.one 4,.one 5]):WA Tryz.prog N (.region 22 l.toArray true) t m Q:=d_rgN h
theorem fin_lii{m0 D:Mem}{es:List (List V)}{a c:Int}{R:V→Option Mem→Prop}(h:plainLL es=true)(hR:R (.tup [.lst es,.int .i64 a,.int .i64 c]) none):Fin m0 R (.tup [.lst es,.int .i64 a,.int .i64 c]) (lend m0++D):=by
  refine .inr ⟨D,_,rfl,?_,hR⟩
  show(frzs (frz _ _ 3) [_,_,_]).map V.tup=_
  rw [frzs_cons (frz_ls h) (frzs_cons (frz_int _ _ _ _ _) (frzs_cons (frz_int _ _ _ _ _) rfl))]
  rfl
theorem gfewest_ok (b:BnR) (hb:Bl b) (h0:bnErr b=0) (m:Mem):Gives Tryz.prog 25 [.agg (bnV b)] m (fwV b):=by
  have hok:=bn_ok h0
  have hbd:=bnd_ok hok
  have hw:∀ i,i<b.ads.length→(b.ads.getD i adz).least≤(b.ads.getD i adz).most:=fun i hi=>by have:=hbd.le i hi;have:=hbd.mo i hi;omega
  have hop:=fun m=>gopen_ok b hb h0 m
  have hla:=adsV_length (l:=b.ads)
  have hga:=hla
  have hfa:=hbd.fa
  unfold bnV at hop ⊢
  refine CallA_in Tryz.func25 rfl Tryz.ntmps25 Tryz.results25 (by kernel_rfl) (by simp) fun Q hQ=>?_
  (have FX:=And.intro hla hga;repeat'(first|(refine sx ?_ ?_<;>intro h<;>first|(exfalso;omega)|skip)|(refine g_op ?_;refine g_call ?_;refine g_args ?_;(first|refine s_fn (hop _) ?_)<;>try first|omega|assumption)|refine ny ?_|refine WA_block ?_|(refine uB17_25_18 ?_;refine⟨by kernel_rfl,?_⟩)|(refine uB17_25_19 ?_;refine⟨by kernel_rfl,?_⟩)|(refine uB17_25_22 ?_;refine⟨by kernel_rfl,?_⟩)|((first|refine grp_cons (fun _=>hop _) ?_)<;>try first|omega|assumption)|(refine g_d ?_;refine d_args ?_;(first|refine d_fn (hop _) ?_|refine d_fnQ (fun _=>hop _) ?_)<;>try first|omega|assumption)|(refine g_d ?_;(first|refine d_fnY (hop _) ?_)<;>try first|omega|assumption)))
  all_goals(try(exfalso;omega))
  refine WA_whileK (σ:=Nat) (L:=m) [1,5,7,24,25,26] (fun k=>[.ptr (lend m).length 0 0,.ptr ((lend m).length+1) 0 0,.int .i64 (trK b.ads k),.lst (adsV b.ads),.int .i64 b.ads.length,.int .i64 k]) (fun _=>[.cells .own 28 2 [[.lst (mssV b.ms),.lst (adsV b.ads)]],.cells .own 111 1 [[.bp (bxC b) 0]]]) 2 (fun k=>k≤b.ads.length∧trK b.ads k≤100000) (fun k=>b.ads.length - k) 0 ⟨Nat.zero_le _,show(1:Int)≤100000 by decide⟩ tv_ rfl (fun _=>rfl) (by intro s s' _ _;simp [conB,conS,V.keeps,V.plain,Blk.flat,flatL,plainL,V.flat]) (by intro s s' _ _;simp [conB,conS,V.keeps,V.plain,Blk.flat,flatL,plainL,V.flat]) ?_
  rintro k ⟨hk1,htk⟩ K hK
  simp only [zipT]
  clear FX hga hop
  have hop:=hla
  have htp:=trK_pos hw k hk1
  rcases Nat.lt_or_ge k b.ads.length with hk|hk
  · have hga:=adsV_get hk
    have hsu:trK b.ads (k+1)=trK b.ads k * ((b.ads.getD k adz).most - (b.ads.getD k adz).least+1):=rfl
    have hmn:=trK_mono hw (k:=k+1) (b.ads.length - (k+1)) (by omega)
    rw [show k+1+(b.ads.length - (k+1))=b.ads.length by omega] at hmn
    have hbl:=hbd.le k hk
    have hbm:=hbd.mo k hk
    have hmb:=mul_bd (a:=100000) (c:=2001) (x:=trK b.ads k) (y:=(b.ads.getD k adz).most - (b.ads.getD k adz).least+1) (by decide) ⟨by omega,htk⟩ (by omega)
    have hbig:100000<trK b.ads (k+1)→fwV b= .tup [.nilsl,.int .i64 0,.int .i64 8]:=fun h=>by unfold fwV;rw [if_pos (by omega)]
    generalize b.ads.getD k adz=x at *
    obtain⟨nm,ef,le,mo,pa,af⟩:=x
    unfold adV at hga
    dsimp only at hga hsu hmb hbl hbm
    generalize hv1:trK b.ads (k+1)=t1 at *
    generalize hv0:trK b.ads k=t0 at *
    (have FX:=And.intro hla hga;repeat'(first|(refine sx ?_ ?_<;>intro h<;>first|(exfalso;omega)|skip)|(refine g_op ?_;refine g_call ?_;refine g_args ?_;(first|refine s_fn (hop _) ?_)<;>try first|omega|assumption)|refine ny ?_|refine WA_block ?_|(refine uB17_25_18 ?_;refine⟨by kernel_rfl,?_⟩)|(refine uB17_25_19 ?_;refine⟨by kernel_rfl,?_⟩)|(refine uB17_25_22 ?_;refine⟨by kernel_rfl,?_⟩)|((first|refine grp_cons (fun _=>hop _) ?_)<;>try first|omega|assumption)|(refine g_d ?_;refine d_args ?_;(first|refine d_fn (hop _) ?_|refine d_fnQ (fun _=>hop _) ?_)<;>try first|omega|assumption)|(refine g_d ?_;(first|refine d_fnY (hop _) ?_)<;>try first|omega|assumption)))
    all_goals(try(exfalso;omega))
    all_goals try
      (rw [hbig (by omega)] at hQ
       exact r_esA hQ (.inl ⟨rfl,rfl,rfl⟩))
    all_goals(refine nextL_ hK (k+1) ⟨hk,by omega⟩ (by omega) (by rw [hv1,hsu];exact tv_))
  · obtain rfl :k=b.ads.length:=by omega
    have hga:=hla
    (have FX:=And.intro hla hga;repeat'(first|(refine sx ?_ ?_<;>intro h<;>first|(exfalso;omega)|skip)|(refine g_op ?_;refine g_call ?_;refine g_args ?_;(first|refine s_fn (hop _) ?_)<;>try first|omega|assumption)|refine ny ?_|refine WA_block ?_|(refine uB17_25_18 ?_;refine⟨by kernel_rfl,?_⟩)|(refine uB17_25_19 ?_;refine⟨by kernel_rfl,?_⟩)|(refine uB17_25_22 ?_;refine⟨by kernel_rfl,?_⟩)|((first|refine grp_cons (fun _=>hop _) ?_)<;>try first|omega|assumption)|(refine g_d ?_;refine d_args ?_;(first|refine d_fn (hop _) ?_|refine d_fnQ (fun _=>hop _) ?_)<;>try first|omega|assumption)|(refine g_d ?_;(first|refine d_fnY (hop _) ?_)<;>try first|omega|assumption)))
    all_goals(try(exfalso;omega))
    have hsm:∀ A1 A2 x y z w:Blk,lend m++[A1,A2,x,y,z]++[w]=(lend m++[A1,A2])++[x,y,z,w]:=fun _ _ _ _ _ _=>by simp
    have hsp:∀ A1 A2 x y z w u:Blk,(lend m++[A1,A2])++[x,y,z,w,u]=(lend m++[A1,A2,x,y,z])++w::[u]:=fun _ _ _ _ _ _ _=>by simp
    have hse:∀ (A1 A2 x y z w:Blk) (e:Mem),(lend m++[A1,A2])++(x::y::z::w::e)=(lend m++[A1,A2,x,y,z])++w::e:=fun _ _ _ _ _ _ _=>by simp
    have hln:∀ A1 A2:Blk,(lend m++[A1,A2]).length+4=(lend m).length+6:=fun _ _=>by simp
    refine WA_rfA (fun m'=>∃ ext,m'=lend m++(.cells .own 28 2 [[.lst (mssV b.ms),.lst (adsV b.ads)]]:: .cells .own 111 1 [[.bp (bxC b) 0]]::b10 (fwB b)::b11 (fwB b)::b12 (fwB b):: .dead::ext)) (fun _ _=>False) (fun lp LB LL LD hY=>?_) (fun m' hm=>?_) (fun c m' hm=>hm.elim)
    · rw [hsm]
      refine(gall_c b hbd hw lp _ LB ⟨false,[],0,0⟩ (fun s l hst R hR=>?_)).mono ?_
      · rw [hsp,hln]
        refine hY _ _ _ R rfl ?_
        have hll:=hst.1
        have hls:=steps_bd hbd hst.2
        simp only [setPs,List.append_assoc,List.cons_append,List.nil_append]
        have hR2:=hR
        simp only [hse] at hR2
        clear hR
        obtain⟨f,bl,bp,bq⟩:=s
        simp only [b10,b11,b12,cI] at hR2 ⊢
        (have FX:=And.intro hla hga;repeat'(first|(refine sx ?_ ?_<;>intro h<;>first|(exfalso;omega)|skip)|(refine g_op ?_;refine g_call ?_;refine g_args ?_;(first|refine s_fn (geffort_s b hbd l hll hls _ ((lend m).length+6)) ?_|refine s_fn (gholds_s b hbd l hll hls _ ((lend m).length+6)) ?_|refine s_fn (ccompare_c _ _ _) ?_|refine s_fn (cor_c _ _ _ ((lend m).length+8)) ?_|refine s_fn (gclone_s l (by omega) _ ((lend m).length+6)) ?_)<;>try first|omega|assumption)|refine ny ?_|refine WA_block ?_|(refine uB17_25_18 ?_;refine⟨by kernel_rfl,?_⟩)|(refine uB17_25_19 ?_;refine⟨by kernel_rfl,?_⟩)|(refine uB17_25_22 ?_;refine⟨by kernel_rfl,?_⟩)|((first|refine grp_cons (fun _=>geffort_s b hbd l hll hls _ ((lend m).length+6)) ?_|refine grp_cons (fun _=>gholds_s b hbd l hll hls _ ((lend m).length+6)) ?_|refine grp_cons (fun _=>ccompare_c _ _ _) ?_|refine grp_cons (fun _=>cor_c _ _ _ ((lend m).length+8)) ?_|refine grp_cons (fun _=>gclone_s l (by omega) _ ((lend m).length+6)) ?_)<;>try first|omega|assumption)|(refine g_d ?_;refine d_args ?_;(first|refine d_fn (geffort_s b hbd l hll hls _ ((lend m).length+6)) ?_|refine d_fn (gholds_s b hbd l hll hls _ ((lend m).length+6)) ?_|refine d_fn (ccompare_c _ _ _) ?_|refine d_fn (cor_c _ _ _ ((lend m).length+8)) ?_|refine d_fn (gclone_s l (by omega) _ ((lend m).length+6)) ?_|refine d_fnQ (fun _=>geffort_s b hbd l hll hls _ ((lend m).length+6)) ?_|refine d_fnQ (fun _=>gholds_s b hbd l hll hls _ ((lend m).length+6)) ?_|refine d_fnQ (fun _=>ccompare_c _ _ _) ?_|refine d_fnQ (fun _=>cor_c _ _ _ ((lend m).length+8)) ?_|refine d_fnQ (fun _=>gclone_s l (by omega) _ ((lend m).length+6)) ?_)<;>try first|omega|assumption)|(refine g_d ?_;(first|refine d_fnY (geffort_s b hbd l hll hls _ ((lend m).length+6)) ?_|refine d_fnY (gholds_s b hbd l hll hls _ ((lend m).length+6)) ?_|refine d_fnY (ccompare_c _ _ _) ?_|refine d_fnY (cor_c _ _ _ ((lend m).length+8)) ?_|refine d_fnY (gclone_s l (by omega) _ ((lend m).length+6)) ?_)<;>try first|omega|assumption)))
        refine⟨rfl,by simp,?_⟩
        cases f with
        | false=>
          have hu1:brkP b l b.ms.length=[]→updB b l ⟨false,bl,bp,bq⟩=⟨true,l,pasK b.ads l b.ads.length,sumA l b.ads.length⟩:=fun h=>by
            unfold updB
            rw [if_neg]
            rintro(g|g)
            · cases g.1
            · exact g h
          have hu2:brkP b l b.ms.length≠[]→updB b l ⟨false,bl,bp,bq⟩=⟨false,bl,bp,bq⟩:=fun h=>by
            unfold updB
            rw [if_pos (.inr h)]
          simp only [Bool.false_eq_true,if_false]
          (have FX:=And.intro hla hga;repeat'(first|(refine sx ?_ ?_<;>intro h<;>first|(exfalso;omega)|skip)|(refine g_op ?_;refine g_call ?_;refine g_args ?_;(first|refine s_fn (geffort_s b hbd l hll hls _ ((lend m).length+6)) ?_|refine s_fn (gholds_s b hbd l hll hls _ ((lend m).length+6)) ?_|refine s_fn (ccompare_c _ _ _) ?_|refine s_fn (cor_c _ _ _ ((lend m).length+8)) ?_|refine s_fn (gclone_s l (by omega) _ ((lend m).length+6)) ?_)<;>try first|omega|assumption)|refine ny ?_|refine WA_block ?_|(refine uB17_25_18 ?_;refine⟨by kernel_rfl,?_⟩)|(refine uB17_25_19 ?_;refine⟨by kernel_rfl,?_⟩)|(refine uB17_25_22 ?_;refine⟨by kernel_rfl,?_⟩)|((first|refine grp_cons (fun _=>geffort_s b hbd l hll hls _ ((lend m).length+6)) ?_|refine grp_cons (fun _=>gholds_s b hbd l hll hls _ ((lend m).length+6)) ?_|refine grp_cons (fun _=>ccompare_c _ _ _) ?_|refine grp_cons (fun _=>cor_c _ _ _ ((lend m).length+8)) ?_|refine grp_cons (fun _=>gclone_s l (by omega) _ ((lend m).length+6)) ?_)<;>try first|omega|assumption)|(refine g_d ?_;refine d_args ?_;(first|refine d_fn (geffort_s b hbd l hll hls _ ((lend m).length+6)) ?_|refine d_fn (gholds_s b hbd l hll hls _ ((lend m).length+6)) ?_|refine d_fn (ccompare_c _ _ _) ?_|refine d_fn (cor_c _ _ _ ((lend m).length+8)) ?_|refine d_fn (gclone_s l (by omega) _ ((lend m).length+6)) ?_|refine d_fnQ (fun _=>geffort_s b hbd l hll hls _ ((lend m).length+6)) ?_|refine d_fnQ (fun _=>gholds_s b hbd l hll hls _ ((lend m).length+6)) ?_|refine d_fnQ (fun _=>ccompare_c _ _ _) ?_|refine d_fnQ (fun _=>cor_c _ _ _ ((lend m).length+8)) ?_|refine d_fnQ (fun _=>gclone_s l (by omega) _ ((lend m).length+6)) ?_)<;>try first|omega|assumption)|(refine g_d ?_;(first|refine d_fnY (geffort_s b hbd l hll hls _ ((lend m).length+6)) ?_|refine d_fnY (gholds_s b hbd l hll hls _ ((lend m).length+6)) ?_|refine d_fnY (ccompare_c _ _ _) ?_|refine d_fnY (cor_c _ _ _ ((lend m).length+8)) ?_|refine d_fnY (gclone_s l (by omega) _ ((lend m).length+6)) ?_)<;>try first|omega|assumption)))
          all_goals(try(exfalso;first|omega|contradiction))
          all_goals first
            | (rw [hu1 (by assumption)] at hR2
               exact rndQ_nrm (by simp only [List.append_assoc,List.cons_append,List.nil_append];rfl) (by simp) (hR2 _))
            | (rw [hu2 (by assumption)] at hR2
               exact rndQ_nrm (by simp only [List.append_assoc,List.cons_append,List.nil_append];rfl) (by simp) (hR2 _))
        | true =>
          have hu1:0≤(if cmpI (pasK b.ads l b.ads.length) bp≠0 then cmpI (pasK b.ads l b.ads.length) bp else cmpI (sumA l b.ads.length) bq)∨brkP b l b.ms.length≠[]→updB b l ⟨true,bl,bp,bq⟩=⟨true,bl,bp,bq⟩:=fun h=>by
            unfold updB
            rw [if_pos]
            exact h.imp (fun h=>⟨rfl,h⟩) id
          have hu2:¬ 0≤(if cmpI (pasK b.ads l b.ads.length) bp≠0 then cmpI (pasK b.ads l b.ads.length) bp else cmpI (sumA l b.ads.length) bq)→brkP b l b.ms.length=[]→updB b l ⟨true,bl,bp,bq⟩=⟨true,l,pasK b.ads l b.ads.length,sumA l b.ads.length⟩:=fun h1 h2=>by
            unfold updB
            rw [if_neg]
            rintro(h|h)
            · exact h1 h.2
            · exact h h2
          simp only [if_true]
          (have FX:=And.intro hla hga;repeat'(first|(refine sx ?_ ?_<;>intro h<;>first|(exfalso;omega)|skip)|(refine g_op ?_;refine g_call ?_;refine g_args ?_;(first|refine s_fn (geffort_s b hbd l hll hls _ ((lend m).length+6)) ?_|refine s_fn (gholds_s b hbd l hll hls _ ((lend m).length+6)) ?_|refine s_fn (ccompare_c _ _ _) ?_|refine s_fn (cor_c _ _ _ ((lend m).length+8)) ?_|refine s_fn (gclone_s l (by omega) _ ((lend m).length+6)) ?_)<;>try first|omega|assumption)|refine ny ?_|refine WA_block ?_|(refine uB17_25_18 ?_;refine⟨by kernel_rfl,?_⟩)|(refine uB17_25_19 ?_;refine⟨by kernel_rfl,?_⟩)|(refine uB17_25_22 ?_;refine⟨by kernel_rfl,?_⟩)|((first|refine grp_cons (fun _=>geffort_s b hbd l hll hls _ ((lend m).length+6)) ?_|refine grp_cons (fun _=>gholds_s b hbd l hll hls _ ((lend m).length+6)) ?_|refine grp_cons (fun _=>ccompare_c _ _ _) ?_|refine grp_cons (fun _=>cor_c _ _ _ ((lend m).length+8)) ?_|refine grp_cons (fun _=>gclone_s l (by omega) _ ((lend m).length+6)) ?_)<;>try first|omega|assumption)|(refine g_d ?_;refine d_args ?_;(first|refine d_fn (geffort_s b hbd l hll hls _ ((lend m).length+6)) ?_|refine d_fn (gholds_s b hbd l hll hls _ ((lend m).length+6)) ?_|refine d_fn (ccompare_c _ _ _) ?_|refine d_fn (cor_c _ _ _ ((lend m).length+8)) ?_|refine d_fn (gclone_s l (by omega) _ ((lend m).length+6)) ?_|refine d_fnQ (fun _=>geffort_s b hbd l hll hls _ ((lend m).length+6)) ?_|refine d_fnQ (fun _=>gholds_s b hbd l hll hls _ ((lend m).length+6)) ?_|refine d_fnQ (fun _=>ccompare_c _ _ _) ?_|refine d_fnQ (fun _=>cor_c _ _ _ ((lend m).length+8)) ?_|refine d_fnQ (fun _=>gclone_s l (by omega) _ ((lend m).length+6)) ?_)<;>try first|omega|assumption)|(refine g_d ?_;(first|refine d_fnY (geffort_s b hbd l hll hls _ ((lend m).length+6)) ?_|refine d_fnY (gholds_s b hbd l hll hls _ ((lend m).length+6)) ?_|refine d_fnY (ccompare_c _ _ _) ?_|refine d_fnY (cor_c _ _ _ ((lend m).length+8)) ?_|refine d_fnY (gclone_s l (by omega) _ ((lend m).length+6)) ?_)<;>try first|omega|assumption)))
          all_goals(try(exfalso;first|omega|contradiction))
          all_goals first
            | (rw [hu1 (.inl (by assumption))] at hR2
               exact rndQ_nrm (by simp only [List.append_assoc,List.cons_append,List.nil_append];rfl) (by simp) (hR2 _))
            | (rw [hu2 (by assumption) (by assumption)] at hR2
               exact rndQ_nrm (by simp only [List.append_assoc,List.cons_append,List.nil_append];rfl) (by simp) (hR2 _))
            | (rw [hu1 (.inr (by assumption))] at hR2
               exact rndQ_nrm (by simp only [List.append_assoc,List.cons_append,List.nil_append];rfl) (by simp) (hR2 _))
      · rintro v mo ⟨ext,rfl⟩
        refine⟨_,rfl,.inl ⟨?_,ext,?_⟩⟩
        · rw [hse];simp
        · rw [hse];simp [fwB]
    · obtain⟨ext,rfl⟩:=hm
      have hfv:fwV b=if (fwB b).f=true then .tup [.lst (nsV (fwB b).l),.int .i64 (fwB b).p,.int .i64 0] else .tup [.nilsl,.int .i64 0,.int .i64 12]:=by unfold fwV;rw [if_neg (by omega)]
      rw [hfv] at hQ
      clear hfv
      generalize fwB b=s at *
      obtain⟨f,bl,bp,bq⟩:=s
      simp only [b10,b11,b12] at hQ ⊢
      cases f with
      | false=>
        simp only [Bool.false_eq_true,if_false] at hQ ⊢
        (have FX:=And.intro hla hga;repeat'(first|(refine sx ?_ ?_<;>intro h<;>first|(exfalso;omega)|skip)|(refine g_op ?_;refine g_call ?_;refine g_args ?_;(first|refine s_fn (geffort_s b hbd l hll hls _ ((lend m).length+6)) ?_|refine s_fn (gholds_s b hbd l hll hls _ ((lend m).length+6)) ?_|refine s_fn (ccompare_c _ _ _) ?_|refine s_fn (cor_c _ _ _ ((lend m).length+8)) ?_|refine s_fn (gclone_s l (by omega) _ ((lend m).length+6)) ?_)<;>try first|omega|assumption)|refine ny ?_|refine WA_block ?_|(refine uB17_25_18 ?_;refine⟨by kernel_rfl,?_⟩)|(refine uB17_25_19 ?_;refine⟨by kernel_rfl,?_⟩)|(refine uB17_25_22 ?_;refine⟨by kernel_rfl,?_⟩)|((first|refine grp_cons (fun _=>geffort_s b hbd l hll hls _ ((lend m).length+6)) ?_|refine grp_cons (fun _=>gholds_s b hbd l hll hls _ ((lend m).length+6)) ?_|refine grp_cons (fun _=>ccompare_c _ _ _) ?_|refine grp_cons (fun _=>cor_c _ _ _ ((lend m).length+8)) ?_|refine grp_cons (fun _=>gclone_s l (by omega) _ ((lend m).length+6)) ?_)<;>try first|omega|assumption)|(refine g_d ?_;refine d_args ?_;(first|refine d_fn (geffort_s b hbd l hll hls _ ((lend m).length+6)) ?_|refine d_fn (gholds_s b hbd l hll hls _ ((lend m).length+6)) ?_|refine d_fn (ccompare_c _ _ _) ?_|refine d_fn (cor_c _ _ _ ((lend m).length+8)) ?_|refine d_fn (gclone_s l (by omega) _ ((lend m).length+6)) ?_|refine d_fnQ (fun _=>geffort_s b hbd l hll hls _ ((lend m).length+6)) ?_|refine d_fnQ (fun _=>gholds_s b hbd l hll hls _ ((lend m).length+6)) ?_|refine d_fnQ (fun _=>ccompare_c _ _ _) ?_|refine d_fnQ (fun _=>cor_c _ _ _ ((lend m).length+8)) ?_|refine d_fnQ (fun _=>gclone_s l (by omega) _ ((lend m).length+6)) ?_)<;>try first|omega|assumption)|(refine g_d ?_;(first|refine d_fnY (geffort_s b hbd l hll hls _ ((lend m).length+6)) ?_|refine d_fnY (gholds_s b hbd l hll hls _ ((lend m).length+6)) ?_|refine d_fnY (ccompare_c _ _ _) ?_|refine d_fnY (cor_c _ _ _ ((lend m).length+8)) ?_|refine d_fnY (gclone_s l (by omega) _ ((lend m).length+6)) ?_)<;>try first|omega|assumption)))
        all_goals(try(exfalso;first|omega|contradiction))
        all_goals(refine r_esA hQ (.inl ⟨rfl,rfl,rfl⟩))
      | true=>
        simp only [if_true] at hQ ⊢
        (have FX:=And.intro hla hga;repeat'(first|(refine sx ?_ ?_<;>intro h<;>first|(exfalso;omega)|skip)|(refine g_op ?_;refine g_call ?_;refine g_args ?_;(first|refine s_fn (geffort_s b hbd l hll hls _ ((lend m).length+6)) ?_|refine s_fn (gholds_s b hbd l hll hls _ ((lend m).length+6)) ?_|refine s_fn (ccompare_c _ _ _) ?_|refine s_fn (cor_c _ _ _ ((lend m).length+8)) ?_|refine s_fn (gclone_s l (by omega) _ ((lend m).length+6)) ?_)<;>try first|omega|assumption)|refine ny ?_|refine WA_block ?_|(refine uB17_25_18 ?_;refine⟨by kernel_rfl,?_⟩)|(refine uB17_25_19 ?_;refine⟨by kernel_rfl,?_⟩)|(refine uB17_25_22 ?_;refine⟨by kernel_rfl,?_⟩)|((first|refine grp_cons (fun _=>geffort_s b hbd l hll hls _ ((lend m).length+6)) ?_|refine grp_cons (fun _=>gholds_s b hbd l hll hls _ ((lend m).length+6)) ?_|refine grp_cons (fun _=>ccompare_c _ _ _) ?_|refine grp_cons (fun _=>cor_c _ _ _ ((lend m).length+8)) ?_|refine grp_cons (fun _=>gclone_s l (by omega) _ ((lend m).length+6)) ?_)<;>try first|omega|assumption)|(refine g_d ?_;refine d_args ?_;(first|refine d_fn (geffort_s b hbd l hll hls _ ((lend m).length+6)) ?_|refine d_fn (gholds_s b hbd l hll hls _ ((lend m).length+6)) ?_|refine d_fn (ccompare_c _ _ _) ?_|refine d_fn (cor_c _ _ _ ((lend m).length+8)) ?_|refine d_fn (gclone_s l (by omega) _ ((lend m).length+6)) ?_|refine d_fnQ (fun _=>geffort_s b hbd l hll hls _ ((lend m).length+6)) ?_|refine d_fnQ (fun _=>gholds_s b hbd l hll hls _ ((lend m).length+6)) ?_|refine d_fnQ (fun _=>ccompare_c _ _ _) ?_|refine d_fnQ (fun _=>cor_c _ _ _ ((lend m).length+8)) ?_|refine d_fnQ (fun _=>gclone_s l (by omega) _ ((lend m).length+6)) ?_)<;>try first|omega|assumption)|(refine g_d ?_;(first|refine d_fnY (geffort_s b hbd l hll hls _ ((lend m).length+6)) ?_|refine d_fnY (gholds_s b hbd l hll hls _ ((lend m).length+6)) ?_|refine d_fnY (ccompare_c _ _ _) ?_|refine d_fnY (cor_c _ _ _ ((lend m).length+8)) ?_|refine d_fnY (gclone_s l (by omega) _ ((lend m).length+6)) ?_)<;>try first|omega|assumption)))
        all_goals(try(exfalso;first|omega|contradiction))
        all_goals(refine r_esA hQ (fin_lii (nsV_plain _) ⟨rfl,rfl⟩))
end Go.Proofs.YtookikhphobnlaaGreatDoor
