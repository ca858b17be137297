import Derived.Test.YtookikhphobnlaaGreatDoorGAM
import Derived.Test.YtookikhphobnlaaGreatDoorB9
import Derived.Test.YtookikhphobnlaaGreatDoorGAP
set_option linter.unusedSimpArgs false
set_option linter.unusedVariables false
/- contract: the steps with the fewest passes -/
namespace Go.Proofs.YtookikhphobnlaaGreatDoor
open Go.RowKit
attribute [local irreducible] WA WOs WDs WAn qThen qBlock tput
set_option maxHeartbeats 1000000
set_option maxRecDepth 20000
set_option linter.unusedSimpArgs false
set_option linter.unusedVariables false
set_option maxHeartbeats 8000000
theorem trK_pos{ads:List AdR}(hw:∀ i,i<ads.length→(ads.getD i adz).least≤(ads.getD i adz).most):∀ k,k≤ads.length→1≤trK ads k
  |0,_=>Int.le_refl 1
  | k+1,hk=>by
    have ih:=trK_pos hw k (by omega)
    have h:=hw k (by omega)
    simp only [trK]
    have:=Int.mul_le_mul (a:=1) (c:=trK ads k) (b:=1) (d:=(ads.getD k adz).most - (ads.getD k adz).least+1) ih (by omega) (by decide) (by omega)
    omega
theorem trK_mono{ads:List AdR}(hw:∀ i,i<ads.length→(ads.getD i adz).least≤(ads.getD i adz).most){k:Nat}:∀ d,k+d≤ads.length→trK ads k≤trK ads (k+d)
  |0,_=>Int.le_refl _
  | d+1,hd=>by
    have ih:=trK_mono hw (k:=k) d (by omega)
    have h:=hw (k+d) (by omega)
    have hp:=trK_pos hw (k+d) (by omega)
    show trK ads k≤trK ads (k+d+1)
    simp only [trK]
    have:=Int.mul_le_mul (a:=trK ads (k+d)) (c:=trK ads (k+d)) (b:=1) (d:=(ads.getD (k+d) adz).most - (ads.getD (k+d) adz).least+1) (Int.le_refl _) (by omega) (by decide) (by omega)
    omega
def fwV(b:BnR):V:=if 100000<trK b.ads b.ads.length then .tup [.nilsl,.int .i64 0,.int .i64 8] else if (fwB b).f=true then .tup [.lst (nsV (fwB b).l),.int .i64 (fwB b).p,.int .i64 0] else .tup [.nilsl,.int .i64 0,.int .i64 12]
theorem uB17_25_18{N:Nat}{l:List Oper}{t:List (Nat×V)}{m:Mem}{Q:Exit→List (Nat×V)→Mem→Prop}(h:RgN Tryz.prog N l t m Q (fun i=>if i==12 || i==13 || i==17 || i==19 || i==20 then .a else if i==0 || i==3 || i==5 || i==6 || i==8 || i==10 || i==11 then .q else .p) [.one 0,.one 1,.one 2,.one 3,.one 4,.one 5,.one 6,.one 7,.one 8,.one 9,.one 10,.one 11,.one 12,.one 13,.one 14,.one 15,.one 16,.one 18,.one 17,.one 19,.one 20,.one 21]):WA Tryz.prog N (.region 18 l.toArray true) t m Q:=d_rgN h
theorem uB17_25_19{N:Nat}{l:List Oper}{t:List (Nat×V)}{m:Mem}{Q:Exit→List (Nat×V)→Mem→Prop}(h:RgT Tryz.prog N l t m Q 43 (fun i=>if i==4 || i==5 then .w else if i==3 then .f else if i==1 then .a else if i==2 then .q else .p) [.one 0,.one 2,.one 1,.one 3,.one 4,.one 5]):WA Tryz.prog N (.region 19 l.toArray true) t m Q:=d_rgT h
theorem uB17_25_22{N:Nat}{l:List Oper}{t:List (Nat×V)}{m:Mem}{Q:Exit→List (Nat×V)→Mem→Prop}(h:RgN Tryz.prog N l t m Q (fun i=>if i==0 || i==2 then .q else .p) [.one 0,.one 1,.one 2,.one 3,.one 4,.one 5]):WA Tryz.prog N (.region 22 l.toArray true) t m Q:=d_rgN h
theorem fin_lii{m0 D:Mem}{es:List (List V)}{a c:Int}{R:V→Option Mem→Prop}(h:plainLL es=true)(hR:R (.tup [.lst es,.int .i64 a,.int .i64 c]) none):Fin m0 R (.tup [.lst es,.int .i64 a,.int .i64 c]) (lend m0++D):=by
  refine .inr ⟨D,_,rfl,?_,hR⟩
  show(frzs (frz _ _ 3) [_,_,_]).map V.tup=_
  rw [frzs_cons (frz_ls h) (frzs_cons (frz_int _ _ _ _ _) (frzs_cons (frz_int _ _ _ _ _) rfl))]
  rfl
theorem gfewest_ok (b:BnR) (hb:Bl b) (h0:bnErr b=0) (m:Mem):Gives Tryz.prog 25 [.agg (bnV b)] m (fwV b):=by
  have hok:=bn_ok h0
  have hbd:=bnd_ok hok
  have hw:∀ i,i<b.ads.length→(b.ads.getD i adz).least≤(b.ads.getD i adz).most:=fun i hi=>by have:=hbd.le i hi;have:=hbd.mo i hi;omega
  have hop:=fun m=>gopen_ok b hb h0 m
  have hla:=adsV_length (l:=b.ads)
  have hga:=hla
  have hfa:=hbd.fa
  unfold bnV at hop ⊢
  refine CallA_in Tryz.func25 rfl Tryz.ntmps25 Tryz.results25 (by kernel_rfl) (by simp) fun Q hQ=>?_
  (have FX:=And.intro hla hga;repeat'(first|(refine sx ?_ ?_<;>intro h<;>first|(exfalso;omega)|skip)|(refine g_op ?_;refine g_call ?_;refine g_args ?_;(first|refine s_fn (hop _) ?_)<;>try first|omega|assumption)|refine ny ?_|refine WA_block ?_|(refine uB17_25_18 ?_;refine⟨by kernel_rfl,?_⟩)|(refine uB17_25_19 ?_;refine⟨by kernel_rfl,?_⟩)|(refine uB17_25_22 ?_;refine⟨by kernel_rfl,?_⟩)|((first|refine grp_cons (fun _=>hop _) ?_)<;>try first|omega|assumption)|(refine g_d ?_;refine d_args ?_;(first|refine d_fn (hop _) ?_|refine d_fnQ (fun _=>hop _) ?_)<;>try first|omega|assumption)|(refine g_d ?_;(first|refine d_fnY (hop _) ?_)<;>try first|omega|assumption)))
  all_goals(try(exfalso;omega))
  refine WA_whileK (σ:=Nat) (L:=m) [1,5,7,24,25,26] (fun k=>[.ptr (lend m).length 0 0,.ptr ((lend m).length+1) 0 0,.int .i64 (trK b.ads k),.lst (adsV b.ads),.int .i64 b.ads.length,.int .i64 k]) (fun _=>[.cells .own 28 2 [[.lst (mssV b.ms),.lst (adsV b.ads)]],.cells .own 111 1 [[.bp (bxC b) 0]]]) 2 (fun k=>k≤b.ads.length∧trK b.ads k≤100000) (fun k=>b.ads.length - k) 0 ⟨Nat.zero_le _,show(1:Int)≤100000 by decide⟩ tv_ rfl (fun _=>rfl) (by intro s s' _ _;simp [conB,conS,V.keeps,V.plain,Blk.flat,flatL,plainL,V.flat]) (by intro s s' _ _;simp [conB,conS,V.keeps,V.plain,Blk.flat,flatL,plainL,V.flat]) ?_
  rintro k ⟨hk1,htk⟩ K hK
  simp only [zipT]
  clear FX hga hop
  have hop:=hla
  have htp:=trK_pos hw k hk1
  rcases Nat.lt_or_ge k b.ads.length with hk|hk
  · have hga:=adsV_get hk
    have hsu:trK b.ads (k+1)=trK b.ads k * ((b.ads.getD k adz).most - (b.ads.getD k adz).least+1):=rfl
    have hmn:=trK_mono hw (k:=k+1) (b.ads.length - (k+1)) (by omega)
    rw [show k+1+(b.ads.length - (k+1))=b.ads.length by omega] at hmn
    have hbl:=hbd.le k hk
    have hbm:=hbd.mo k hk
    have hmb:=mul_bd (a:=100000) (c:=2001) (x:=trK b.ads k) (y:=(b.ads.getD k adz).most - (b.ads.getD k adz).least+1) (by decide) ⟨by omega,htk⟩ (by omega)
    have hbig:100000<trK b.ads (k+1)→fwV b= .tup [.nilsl,.int .i64 0,.int .i64 8]:=fun h=>by unfold fwV;rw [if_pos (by omega)]
    generalize b.ads.getD k adz=x at *
    obtain⟨nm,ef,le,mo,pa,af⟩:=x
    unfold adV at hga
    dsimp only at hga hsu hmb hbl hbm
    generalize hv1:trK b.ads (k+1)=t1 at *
    generalize hv0:trK b.ads k=t0 at *
    (have FX:=And.intro hla hga;repeat'(first|(refine sx ?_ ?_<;>intro h<;>first|(exfalso;omega)|skip)|(refine g_op ?_;refine g_call ?_;refine g_args ?_;(first|refine s_fn (hop _) ?_)<;>try first|omega|assumption)|refine ny ?_|refine WA_block ?_|(refine uB17_25_18 ?_;refine⟨by kernel_rfl,?_⟩)|(refine uB17_25_19 ?_;refine⟨by kernel_rfl,?_⟩)|(refine uB17_25_22 ?_;refine⟨by kernel_rfl,?_⟩)|((first|refine grp_cons (fun _=>hop _) ?_)<;>try first|omega|assumption)|(refine g_d ?_;refine d_args ?_;(first|refine d_fn (hop _) ?_|refine d_fnQ (fun _=>hop _) ?_)<;>try first|omega|assumption)|(refine g_d ?_;(first|refine d_fnY (hop _) ?_)<;>try first|omega|assumption)))
    all_goals(try(exfalso;omega))
    all_goals try
      (rw [hbig (by omega)] at hQ
       exact r_esA hQ (.inl ⟨rfl,rfl,rfl⟩))
    all_goals(refine nextL_ hK (k+1) ⟨hk,by omega⟩ (by omega) (by rw [hv1,hsu];exact tv_))
  · obtain rfl :k=b.ads.length:=by omega
    have hga:=hla
    (have FX:=And.intro hla hga;repeat'(first|(refine sx ?_ ?_<;>intro h<;>first|(exfalso;omega)|skip)|(refine g_op ?_;refine g_call ?_;refine g_args ?_;(first|refine s_fn (hop _) ?_)<;>try first|omega|assumption)|refine ny ?_|refine WA_block ?_|(refine uB17_25_18 ?_;refine⟨by kernel_rfl,?_⟩)|(refine uB17_25_19 ?_;refine⟨by kernel_rfl,?_⟩)|(refine uB17_25_22 ?_;refine⟨by kernel_rfl,?_⟩)|((first|refine grp_cons (fun _=>hop _) ?_)<;>try first|omega|assumption)|(refine g_d ?_;refine d_args ?_;(first|refine d_fn (hop _) ?_|refine d_fnQ (fun _=>hop _) ?_)<;>try first|omega|assumption)|(refine g_d ?_;(first|refine d_fnY (hop _) ?_)<;>try first|omega|assumption)))
    all_goals(try(exfalso;omega))
    have hsm:∀ A1 A2 x y z w:Blk,lend m++[A1,A2,x,y,z]++[w]=(lend m++[A1,A2])++[x,y,z,w]:=fun _ _ _ _ _ _=>by simp
    have hsp:∀ A1 A2 x y z w u:Blk,(lend m++[A1,A2])++[x,y,z,w,u]=(lend m++[A1,A2,x,y,z])++w::[u]:=fun _ _ _ _ _ _ _=>by simp
    have hse:∀ (A1 A2 x y z w:Blk) (e:Mem),(lend m++[A1,A2])++(x::y::z::w::e)=(lend m++[A1,A2,x,y,z])++w::e:=fun _ _ _ _ _ _ _=>by simp
    have hln:∀ A1 A2:Blk,(lend m++[A1,A2]).length+4=(lend m).length+6:=fun _ _=>by simp
    refine WA_rfA (fun m'=>∃ ext,m'=lend m++(.cells .own 28 2 [[.lst (mssV b.ms),.lst (adsV b.ads)]]:: .cells .own 111 1 [[.bp (bxC b) 0]]::b10 (fwB b)::b11 (fwB b)::b12 (fwB b):: .dead::ext)) (fun _ _=>False) (fun lp LB LL LD hY=>?_) (fun m' hm=>?_) (fun c m' hm=>hm.elim)
    · rw [hsm]
      refine(gall_c b hbd hw lp _ LB ⟨false,[],0,0⟩ (fun s l hst R hR=>?_)).mono ?_
      · rw [hsp,hln]
        refine hY _ _ _ R rfl ?_
        have hll:=hst.1
        have hls:=steps_bd hbd hst.2
        simp only [setPs,List.append_assoc,List.cons_append,List.nil_append]
        have hR2:=hR
        simp only [hse] at hR2
        clear hR
        obtain⟨f,bl,bp,bq⟩:=s
        simp only [b10,b11,b12,cI] at hR2 ⊢
        (have FX:=And.intro hla hga;repeat'(first|(refine sx ?_ ?_<;>intro h<;>first|(exfalso;omega)|skip)|(refine g_op ?_;refine g_call ?_;refine g_args ?_;(first|refine s_fn (geffort_s b hbd l hll hls _ ((lend m).length+6)) ?_|refine s_fn (gholds_s b hbd l hll hls _ ((lend m).length+6)) ?_|refine s_fn (ccompare_c _ _ _) ?_|refine s_fn (cor_c _ _ _ ((lend m).length+8)) ?_|refine s_fn (gclone_s l (by omega) _ ((lend m).length+6)) ?_)<;>try first|omega|assumption)|refine ny ?_|refine WA_block ?_|(refine uB17_25_18 ?_;refine⟨by kernel_rfl,?_⟩)|(refine uB17_25_19 ?_;refine⟨by kernel_rfl,?_⟩)|(refine uB17_25_22 ?_;refine⟨by kernel_rfl,?_⟩)|((first|refine grp_cons (fun _=>geffort_s b hbd l hll hls _ ((lend m).length+6)) ?_|refine grp_cons (fun _=>gholds_s b hbd l hll hls _ ((lend m).length+6)) ?_|refine grp_cons (fun _=>ccompare_c _ _ _) ?_|refine grp_cons (fun _=>cor_c _ _ _ ((lend m).length+8)) ?_|refine grp_cons (fun _=>gclone_s l (by omega) _ ((lend m).length+6)) ?_)<;>try first|omega|assumption)|(refine g_d ?_;refine d_args ?_;(first|refine d_fn (geffort_s b hbd l hll hls _ ((lend m).length+6)) ?_|refine d_fn (gholds_s b hbd l hll hls _ ((lend m).length+6)) ?_|refine d_fn (ccompare_c _ _ _) ?_|refine d_fn (cor_c _ _ _ ((lend m).length+8)) ?_|refine d_fn (gclone_s l (by omega) _ ((lend m).length+6)) ?_|refine d_fnQ (fun _=>geffort_s b hbd l hll hls _ ((lend m).length+6)) ?_|refine d_fnQ (fun _=>gholds_s b hbd l hll hls _ ((lend m).length+6)) ?_|refine d_fnQ (fun _=>ccompare_c _ _ _) ?_|refine d_fnQ (fun _=>cor_c _ _ _ ((lend m).length+8)) ?_|refine d_fnQ (fun _=>gclone_s l (by omega) _ ((lend m).length+6)) ?_)<;>try first|omega|assumption)|(refine g_d ?_;(first|refine d_fnY (geffort_s b hbd l hll hls _ ((lend m).length+6)) ?_|refine d_fnY (gholds_s b hbd l hll hls _ ((lend m).length+6)) ?_|refine d_fnY (ccompare_c _ _ _) ?_|refine d_fnY (cor_c _ _ _ ((lend m).length+8)) ?_|refine d_fnY (gclone_s l (by omega) _ ((lend m).length+6)) ?_)<;>try first|omega|assumption)))
        refine⟨rfl,by simp,?_⟩
        cases f with
        | false=>
          have hu1:brkP b l b.ms.length=[]→updB b l ⟨false,bl,bp,bq⟩=⟨true,l,pasK b.ads l b.ads.length,sumA l b.ads.length⟩:=fun h=>by
            unfold updB
            rw [if_neg]
            rintro(g|g)
            · cases g.1
            · exact g h
          have hu2:brkP b l b.ms.length≠[]→updB b l ⟨false,bl,bp,bq⟩=⟨false,bl,bp,bq⟩:=fun h=>by
            unfold updB
            rw [if_pos (.inr h)]
          simp only [Bool.false_eq_true,if_false]
          (have FX:=And.intro hla hga;repeat'(first|(refine sx ?_ ?_<;>intro h<;>first|(exfalso;omega)|skip)|(refine g_op ?_;refine g_call ?_;refine g_args ?_;(first|refine s_fn (geffort_s b hbd l hll hls _ ((lend m).length+6)) ?_|refine s_fn (gholds_s b hbd l hll hls _ ((lend m).length+6)) ?_|refine s_fn (ccompare_c _ _ _) ?_|refine s_fn (cor_c _ _ _ ((lend m).length+8)) ?_|refine s_fn (gclone_s l (by omega) _ ((lend m).length+6)) ?_)<;>try first|omega|assumption)|refine ny ?_|refine WA_block ?_|(refine uB17_25_18 ?_;refine⟨by kernel_rfl,?_⟩)|(refine uB17_25_19 ?_;refine⟨by kernel_rfl,?_⟩)|(refine uB17_25_22 ?_;refine⟨by kernel_rfl,?_⟩)|((first|refine grp_cons (fun _=>geffort_s b hbd l hll hls _ ((lend m).length+6)) ?_|refine grp_cons (fun _=>gholds_s b hbd l hll hls _ ((lend m).length+6)) ?_|refine grp_cons (fun _=>ccompare_c _ _ _) ?_|refine grp_cons (fun _=>cor_c _ _ _ ((lend m).length+8)) ?_|refine grp_cons (fun _=>gclone_s l (by omega) _ ((lend m).length+6)) ?_)<;>try first|omega|assumption)|(refine g_d ?_;refine d_args ?_;(first|refine d_fn (geffort_s b hbd l hll hls _ ((lend m).length+6)) ?_|refine d_fn (gholds_s b hbd l hll hls _ ((lend m).length+6)) ?_|refine d_fn (ccompare_c _ _ _) ?_|refine d_fn (cor_c _ _ _ ((lend m).length+8)) ?_|refine d_fn (gclone_s l (by omega) _ ((lend m).length+6)) ?_|refine d_fnQ (fun _=>geffort_s b hbd l hll hls _ ((lend m).length+6)) ?_|refine d_fnQ (fun _=>gholds_s b hbd l hll hls _ ((lend m).length+6)) ?_|refine d_fnQ (fun _=>ccompare_c _ _ _) ?_|refine d_fnQ (fun _=>cor_c _ _ _ ((lend m).length+8)) ?_|refine d_fnQ (fun _=>gclone_s l (by omega) _ ((lend m).length+6)) ?_)<;>try first|omega|assumption)|(refine g_d ?_;(first|refine d_fnY (geffort_s b hbd l hll hls _ ((lend m).length+6)) ?_|refine d_fnY (gholds_s b hbd l hll hls _ ((lend m).length+6)) ?_|refine d_fnY (ccompare_c _ _ _) ?_|refine d_fnY (cor_c _ _ _ ((lend m).length+8)) ?_|refine d_fnY (gclone_s l (by omega) _ ((lend m).length+6)) ?_)<;>try first|omega|assumption)))
          all_goals(try(exfalso;first|omega|contradiction))
          all_goals first
            | (rw [hu1 (by assumption)] at hR2
               exact rndQ_nrm (by simp only [List.append_assoc,List.cons_append,List.nil_append];rfl) (by simp) (hR2 _))
            | (rw [hu2 (by assumption)] at hR2
               exact rndQ_nrm (by simp only [List.append_assoc,List.cons_append,List.nil_append];rfl) (by simp) (hR2 _))
        | true =>
          have hu1:0≤(if cmpI (pasK b.ads l b.ads.length) bp≠0 then cmpI (pasK b.ads l b.ads.length) bp else cmpI (sumA l b.ads.length) bq)∨brkP b l b.ms.length≠[]→updB b l ⟨true,bl,bp,bq⟩=⟨true,bl,bp,bq⟩:=fun h=>by
            unfold updB
            rw [if_pos]
            exact h.imp (fun h=>⟨rfl,h⟩) id
          have hu2:¬ 0≤(if cmpI (pasK b.ads l b.ads.length) bp≠0 then cmpI (pasK b.ads l b.ads.length) bp else cmpI (sumA l b.ads.length) bq)→brkP b l b.ms.length=[]→updB b l ⟨true,bl,bp,bq⟩=⟨true,l,pasK b.ads l b.ads.length,sumA l b.ads.length⟩:=fun h1 h2=>by
            unfold updB
            rw [if_neg]
            rintro(h|h)
            · exact h1 h.2
            · exact h h2
          simp only [if_true]
          (have FX:=And.intro hla hga;repeat'(first|(refine sx ?_ ?_<;>intro h<;>first|(exfalso;omega)|skip)|(refine g_op ?_;refine g_call ?_;refine g_args ?_;(first|refine s_fn (geffort_s b hbd l hll hls _ ((lend m).length+6)) ?_|refine s_fn (gholds_s b hbd l hll hls _ ((lend m).length+6)) ?_|refine s_fn (ccompare_c _ _ _) ?_|refine s_fn (cor_c _ _ _ ((lend m).length+8)) ?_|refine s_fn (gclone_s l (by omega) _ ((lend m).length+6)) ?_)<;>try first|omega|assumption)|refine ny ?_|refine WA_block ?_|(refine uB17_25_18 ?_;refine⟨by kernel_rfl,?_⟩)|(refine uB17_25_19 ?_;refine⟨by kernel_rfl,?_⟩)|(refine uB17_25_22 ?_;refine⟨by kernel_rfl,?_⟩)|((first|refine grp_cons (fun _=>geffort_s b hbd l hll hls _ ((lend m).length+6)) ?_|refine grp_cons (fun _=>gholds_s b hbd l hll hls _ ((lend m).length+6)) ?_|refine grp_cons (fun _=>ccompare_c _ _ _) ?_|refine grp_cons (fun _=>cor_c _ _ _ ((lend m).length+8)) ?_|refine grp_cons (fun _=>gclone_s l (by omega) _ ((lend m).length+6)) ?_)<;>try first|omega|assumption)|(refine g_d ?_;refine d_args ?_;(first|refine d_fn (geffort_s b hbd l hll hls _ ((lend m).length+6)) ?_|refine d_fn (gholds_s b hbd l hll hls _ ((lend m).length+6)) ?_|refine d_fn (ccompare_c _ _ _) ?_|refine d_fn (cor_c _ _ _ ((lend m).length+8)) ?_|refine d_fn (gclone_s l (by omega) _ ((lend m).length+6)) ?_|refine d_fnQ (fun _=>geffort_s b hbd l hll hls _ ((lend m).length+6)) ?_|refine d_fnQ (fun _=>gholds_s b hbd l hll hls _ ((lend m).length+6)) ?_|refine d_fnQ (fun _=>ccompare_c _ _ _) ?_|refine d_fnQ (fun _=>cor_c _ _ _ ((lend m).length+8)) ?_|refine d_fnQ (fun _=>gclone_s l (by omega) _ ((lend m).length+6)) ?_)<;>try first|omega|assumption)|(refine g_d ?_;(first|refine d_fnY (geffort_s b hbd l hll hls _ ((lend m).length+6)) ?_|refine d_fnY (gholds_s b hbd l hll hls _ ((lend m).length+6)) ?_|refine d_fnY (ccompare_c _ _ _) ?_|refine d_fnY (cor_c _ _ _ ((lend m).length+8)) ?_|refine d_fnY (gclone_s l (by omega) _ ((lend m).length+6)) ?_)<;>try first|omega|assumption)))
          all_goals(try(exfalso;first|omega|contradiction))
          all_goals first
            | (rw [hu1 (.inl (by assumption))] at hR2
               exact rndQ_nrm (by simp only [List.append_assoc,List.cons_append,List.nil_append];rfl) (by simp) (hR2 _))
            | (rw [hu2 (by assumption) (by assumption)] at hR2
               exact rndQ_nrm (by simp only [List.append_assoc,List.cons_append,List.nil_append];rfl) (by simp) (hR2 _))
            | (rw [hu1 (.inr (by assumption))] at hR2
               exact rndQ_nrm (by simp only [List.append_assoc,List.cons_append,List.nil_append];rfl) (by simp) (hR2 _))
      · rintro v mo ⟨ext,rfl⟩
        refine⟨_,rfl,.inl ⟨?_,ext,?_⟩⟩
        · rw [hse];simp
        · rw [hse];simp [fwB]
    · obtain⟨ext,rfl⟩:=hm
      have hfv:fwV b=if (fwB b).f=true then .tup [.lst (nsV (fwB b).l),.int .i64 (fwB b).p,.int .i64 0] else .tup [.nilsl,.int .i64 0,.int .i64 12]:=by unfold fwV;rw [if_neg (by omega)]
      rw [hfv] at hQ
      clear hfv
      generalize fwB b=s at *
      obtain⟨f,bl,bp,bq⟩:=s
      simp only [b10,b11,b12] at hQ ⊢
      cases f with
      | false=>
        simp only [Bool.false_eq_true,if_false] at hQ ⊢
        (have FX:=And.intro hla hga;repeat'(first|(refine sx ?_ ?_<;>intro h<;>first|(exfalso;omega)|skip)|(refine g_op ?_;refine g_call ?_;refine g_args ?_;(first|refine s_fn (geffort_s b hbd l hll hls _ ((lend m).length+6)) ?_|refine s_fn (gholds_s b hbd l hll hls _ ((lend m).length+6)) ?_|refine s_fn (ccompare_c _ _ _) ?_|refine s_fn (cor_c _ _ _ ((lend m).length+8)) ?_|refine s_fn (gclone_s l (by omega) _ ((lend m).length+6)) ?_)<;>try first|omega|assumption)|refine ny ?_|refine WA_block ?_|(refine uB17_25_18 ?_;refine⟨by kernel_rfl,?_⟩)|(refine uB17_25_19 ?_;refine⟨by kernel_rfl,?_⟩)|(refine uB17_25_22 ?_;refine⟨by kernel_rfl,?_⟩)|((first|refine grp_cons (fun _=>geffort_s b hbd l hll hls _ ((lend m).length+6)) ?_|refine grp_cons (fun _=>gholds_s b hbd l hll hls _ ((lend m).length+6)) ?_|refine grp_cons (fun _=>ccompare_c _ _ _) ?_|refine grp_cons (fun _=>cor_c _ _ _ ((lend m).length+8)) ?_|refine grp_cons (fun _=>gclone_s l (by omega) _ ((lend m).length+6)) ?_)<;>try first|omega|assumption)|(refine g_d ?_;refine d_args ?_;(first|refine d_fn (geffort_s b hbd l hll hls _ ((lend m).length+6)) ?_|refine d_fn (gholds_s b hbd l hll hls _ ((lend m).length+6)) ?_|refine d_fn (ccompare_c _ _ _) ?_|refine d_fn (cor_c _ _ _ ((lend m).length+8)) ?_|refine d_fn (gclone_s l (by omega) _ ((lend m).length+6)) ?_|refine d_fnQ (fun _=>geffort_s b hbd l hll hls _ ((lend m).length+6)) ?_|refine d_fnQ (fun _=>gholds_s b hbd l hll hls _ ((lend m).length+6)) ?_|refine d_fnQ (fun _=>ccompare_c _ _ _) ?_|refine d_fnQ (fun _=>cor_c _ _ _ ((lend m).length+8)) ?_|refine d_fnQ (fun _=>gclone_s l (by omega) _ ((lend m).length+6)) ?_)<;>try first|omega|assumption)|(refine g_d ?_;(first|refine d_fnY (geffort_s b hbd l hll hls _ ((lend m).length+6)) ?_|refine d_fnY (gholds_s b hbd l hll hls _ ((lend m).length+6)) ?_|refine d_fnY (ccompare_c _ _ _) ?_|refine d_fnY (cor_c _ _ _ ((lend m).length+8)) ?_|refine d_fnY (gclone_s l (by omega) _ ((lend m).length+6)) ?_)<;>try first|omega|assumption)))
        all_goals(try(exfalso;first|omega|contradiction))
        all_goals(refine r_esA hQ (.inl ⟨rfl,rfl,rfl⟩))
      | true=>
        simp only [if_true] at hQ ⊢
        (have FX:=And.intro hla hga;repeat'(first|(refine sx ?_ ?_<;>intro h<;>first|(exfalso;omega)|skip)|(refine g_op ?_;refine g_call ?_;refine g_args ?_;(first|refine s_fn (geffort_s b hbd l hll hls _ ((lend m).length+6)) ?_|refine s_fn (gholds_s b hbd l hll hls _ ((lend m).length+6)) ?_|refine s_fn (ccompare_c _ _ _) ?_|refine s_fn (cor_c _ _ _ ((lend m).length+8)) ?_|refine s_fn (gclone_s l (by omega) _ ((lend m).length+6)) ?_)<;>try first|omega|assumption)|refine ny ?_|refine WA_block ?_|(refine uB17_25_18 ?_;refine⟨by kernel_rfl,?_⟩)|(refine uB17_25_19 ?_;refine⟨by kernel_rfl,?_⟩)|(refine uB17_25_22 ?_;refine⟨by kernel_rfl,?_⟩)|((first|refine grp_cons (fun _=>geffort_s b hbd l hll hls _ ((lend m).length+6)) ?_|refine grp_cons (fun _=>gholds_s b hbd l hll hls _ ((lend m).length+6)) ?_|refine grp_cons (fun _=>ccompare_c _ _ _) ?_|refine grp_cons (fun _=>cor_c _ _ _ ((lend m).length+8)) ?_|refine grp_cons (fun _=>gclone_s l (by omega) _ ((lend m).length+6)) ?_)<;>try first|omega|assumption)|(refine g_d ?_;refine d_args ?_;(first|refine d_fn (geffort_s b hbd l hll hls _ ((lend m).length+6)) ?_|refine d_fn (gholds_s b hbd l hll hls _ ((lend m).length+6)) ?_|refine d_fn (ccompare_c _ _ _) ?_|refine d_fn (cor_c _ _ _ ((lend m).length+8)) ?_|refine d_fn (gclone_s l (by omega) _ ((lend m).length+6)) ?_|refine d_fnQ (fun _=>geffort_s b hbd l hll hls _ ((lend m).length+6)) ?_|refine d_fnQ (fun _=>gholds_s b hbd l hll hls _ ((lend m).length+6)) ?_|refine d_fnQ (fun _=>ccompare_c _ _ _) ?_|refine d_fnQ (fun _=>cor_c _ _ _ ((lend m).length+8)) ?_|refine d_fnQ (fun _=>gclone_s l (by omega) _ ((lend m).length+6)) ?_)<;>try first|omega|assumption)|(refine g_d ?_;(first|refine d_fnY (geffort_s b hbd l hll hls _ ((lend m).length+6)) ?_|refine d_fnY (gholds_s b hbd l hll hls _ ((lend m).length+6)) ?_|refine d_fnY (ccompare_c _ _ _) ?_|refine d_fnY (cor_c _ _ _ ((lend m).length+8)) ?_|refine d_fnY (gclone_s l (by omega) _ ((lend m).length+6)) ?_)<;>try first|omega|assumption)))
        all_goals(try(exfalso;first|omega|contradiction))
        all_goals(refine r_esA hQ (fin_lii (nsV_plain _) ⟨rfl,rfl⟩))
end Go.Proofs.YtookikhphobnlaaGreatDoor
namespace Go.Proofs.YtookikhphobnlaaGreatDoor
open Go.RowKit
attribute [local irreducible] WA WOs WDs WAn qThen qBlock tput
set_option maxHeartbeats 1000000
set_option maxRecDepth 20000
set_option linter.unusedSimpArgs false
set_option linter.unusedVariables false
def exB:BnR:=⟨[⟨[108,101,116,45,111,102,102],30,10,20⟩,⟨[100,114,111,112],5,0,8⟩,⟨[99,97,116,99,104],0, -5,5⟩],
  [⟨[98,117,116,116,111,110],[⟨[108,101,116,45,111,102,102], -4⟩,⟨[100,114,111,112],1⟩], -10,10,2,[]⟩,
   ⟨[115,99,114,101,119],[⟨[100,114,111,112], -2⟩], -3,3,1,[[98,117,116,116,111,110]]⟩,
   ⟨[99,104,101,99,107],[⟨[99,97,116,99,104],5⟩],0,4,4,[]⟩]⟩
def WkLL:List (List V)→List (List V)→Prop
  |[],[]=>True
  |a::r,b::r'=>(WkL a b∧b.all V.one=true)∧WkLL r r'
  |_,_=>False
theorem WkLL_get:∀ {l l':List (List V)},WkLL l l'→l'.length=l.length∧∀ (i:Nat) e',l'[i]?=some e'→∃ e,l[i]?=some e∧WkL e e'∧e'.all V.one=true
  |[],[],_=>⟨rfl,fun i v h=>by simp at h⟩
  | a::r,b::r',h=>by
    obtain⟨h1,h2⟩:=WkLL_get h.2
    refine⟨by simp [h1],fun i v' hv=>?_⟩
    cases i with
    |zero=>simp at hv;subst hv;exact⟨a,rfl,h.1⟩
    |succ i=>exact h2 i v' (by simpa using hv)
  |[],_::_,h=>h.elim
  |_::_,[],h=>h.elim
theorem wk_lst{es es':List (List V)}(h:WkLL es es'):WkV (.lst es) (.lst es'):=by
  obtain⟨h1,h2⟩:=WkLL_get h
  intro w ρ B x hr
  cases hr with
  | lnil a c hc ha=>
    have:es'=[]:=List.eq_nil_of_length_eq_zero (by simpa using h1)
    subst this
    exact .lnil a c hc ha
  | lst _ b off c s Y hb hB hc hm hs hY hV hO=>
    rw [←h1]
    refine .lst es' b off c s Y hb hB (by omega) hm (fun e' he=>?_) (fun i j e' v' e1 e2=>?_) (fun i j e' v' e1 e2=>?_) (fun i j e' v' e1 e2=>?_)
    · obtain⟨i,hi,rfl⟩:=List.getElem_of_mem he
      obtain⟨e,g1,g2,_⟩:=h2 i _ (List.getElem?_eq_getElem hi)
      rw [(WkL_get g2).1]
      exact hs e (List.mem_of_getElem? g1)
    · obtain⟨e,g1,g2,_⟩:=h2 i e' e1
      obtain⟨v,g3,_⟩:=(WkL_get g2).2 j v' e2
      exact hY i j e v g1 g3
    · obtain⟨e,g1,g2,_⟩:=h2 i e' e1
      obtain⟨v,g3,g4⟩:=(WkL_get g2).2 j v' e2
      exact g4 _ _ _ _ (hV i j e v g1 g3)
    · obtain⟨e,g1,g2,g5⟩:=h2 i e' e1
      exact List.all_eq_true.1 g5 v' (List.mem_of_getElem? e2)
theorem fin_agp{m0 D X B:Mem}{l l2:List (List V)}{R:V→Option Mem→Prop}(hB:B=lend m0++D)(hl:plainLL l=true)(hl2:plainLL l2=true)(h:R (.agg [.lst l,.lst l2]) none):
    Fin m0 R (.agg [.lst l,.lst l2]) (B++X):=by
  subst hB
  refine .inr ⟨D++X,_,by simp,?_,h⟩
  show(frzs (frz _ _ 3) _).map V.agg=_
  rw [frzs_cons (frz_ls hl) (frzs_cons (frz_ls hl2) rfl)]
  rfl

theorem lbench_c(m:Mem):Gives Tryz.prog 24 [] m (.agg (bnV exB)):=by
  suffices key:CallA Tryz.prog 24 [] m (fun v mo=>mo=none∧WkV v (.agg (bnV exB))) from Gives_of key fun v mo h=>h
  refine CallA_in Tryz.func24 rfl Tryz.ntmps24 Tryz.results24 (by kernel_rfl) (by simp) fun Q hQ=>?_
  refine WA_stop fun K0 hK0=>?_
  (repeat'(first|(refine sx ?_ ?_<;>intro h<;>first|(exfalso;omega)|skip)|refine ny ?_|refine WA_block ?_))
  refine hK0 _ _ ?_
  refine WA_stop fun K1 hK1=>?_
  (repeat'(first|(refine sx ?_ ?_<;>intro h<;>first|(exfalso;omega)|skip)|refine ny ?_|refine WA_block ?_))
  refine hK1 _ _ ?_
  clear hK0 hK1
  have hne:∀ (a c d:Nat),(a+c=a+d)=(c=d):=fun a c d=>by simp
  refine WA_fzM (j:=2) rfl ?_
  simp only [List.map_cons,List.map_nil,frzV,frzC,List.set_cons_succ,List.set_cons_zero,argT,hne,false_and,and_false,if_false,true_and,Nat.le_refl,if_true,List.length_cons,List.length_nil,List.take_succ_cons,List.take_zero,List.take_nil,Nat.reduceAdd,Nat.reduceLeDiff,Nat.add_left_cancel_iff,Nat.reduceEqDiff]
  refine WA_fzM (j:=3) rfl ?_
  simp only [List.map_cons,List.map_nil,frzV,frzC,List.set_cons_succ,List.set_cons_zero,argT,hne,false_and,and_false,if_false,true_and,Nat.le_refl,if_true,List.length_cons,List.length_nil,List.take_succ_cons,List.take_zero,List.take_nil,Nat.reduceAdd,Nat.reduceLeDiff,Nat.add_left_cancel_iff,Nat.reduceEqDiff]
  refine WA_fzM (j:=4) rfl ?_
  simp only [List.map_cons,List.map_nil,frzV,frzC,List.set_cons_succ,List.set_cons_zero,argT,hne,false_and,and_false,if_false,true_and,Nat.le_refl,if_true,List.length_cons,List.length_nil,List.take_succ_cons,List.take_zero,List.take_nil,Nat.reduceAdd,Nat.reduceLeDiff,Nat.add_left_cancel_iff,Nat.reduceEqDiff]
  refine WA_fzM (j:=5) rfl ?_
  simp only [List.map_cons,List.map_nil,frzV,frzC,List.set_cons_succ,List.set_cons_zero,argT,hne,false_and,and_false,if_false,true_and,Nat.le_refl,if_true,List.length_cons,List.length_nil,List.take_succ_cons,List.take_zero,List.take_nil,Nat.reduceAdd,Nat.reduceLeDiff,Nat.add_left_cancel_iff,Nat.reduceEqDiff]
  refine WA_fzM (j:=6) rfl ?_
  simp only [List.map_cons,List.map_nil,frzV,frzC,List.set_cons_succ,List.set_cons_zero,argT,hne,false_and,and_false,if_false,true_and,Nat.le_refl,if_true,List.length_cons,List.length_nil,List.take_succ_cons,List.take_zero,List.take_nil,Nat.reduceAdd,Nat.reduceLeDiff,Nat.add_left_cancel_iff,Nat.reduceEqDiff]
  refine WA_fzM (j:=1) rfl ?_
  simp only [List.map_cons,List.map_nil,frzV,frzC,List.set_cons_succ,List.set_cons_zero,argT,hne,false_and,and_false,if_false,true_and,Nat.le_refl,if_true,List.length_cons,List.length_nil,List.take_succ_cons,List.take_zero,List.take_nil,Nat.reduceAdd,Nat.reduceLeDiff,Nat.add_left_cancel_iff,Nat.reduceEqDiff]
  (repeat'(first|(refine sx ?_ ?_<;>intro h<;>first|(exfalso;omega)|skip)|refine ny ?_|refine WA_block ?_))
  refine r_esA hQ (fin_agp (D:=[]) (by simp) ?_ ?_ ⟨rfl,?_⟩)
  · rfl
  · rfl
  exact wk_agg ⟨WkV.refl _,wk_lst ⟨⟨⟨WkV.refl _,WkV.refl _,WkV.refl _,WkV.refl _,WkV.refl _,wk_nil,trivial⟩,rfl⟩,⟨⟨WkV.refl _,WkV.refl _,WkV.refl _,WkV.refl _,WkV.refl _,WkV.refl _,trivial⟩,rfl⟩,⟨⟨WkV.refl _,WkV.refl _,WkV.refl _,WkV.refl _,WkV.refl _,wk_nil,trivial⟩,rfl⟩,trivial⟩,trivial⟩
theorem exB_bl:Bl exB:=by
  refine⟨by decide,by decide,by decide,by decide,by decide,by decide⟩
theorem exB_ok:bnErr exB=0:=by decide +kernel
theorem exB_st:bsErr exB [3,0,0]=0:=by decide +kernel
theorem exB_va:valsP exB [3,0,0] exB.ms.length=[18,8,0]:=by decide +kernel
theorem exB_tr:¬ 100000<trK exB.ads exB.ads.length:=by decide +kernel
theorem exB_fw:(fwB exB).f=true∧(fwB exB).l=[3,0,0]∧(fwB exB).p=2:=by decide +kernel
theorem exB_se:stI exB 5=some 2∧stO exB 2=[[2,1,0],[4,2,0]]:=by decide +kernel
theorem ex_val(m:Mem):Gives Tryz.prog 23 [.agg (bnV exB),.lst (nsV [3,0,0])] m (.tup [.lst (nsV [18,8,0]),.int .i64 0]):=by
  have h:=gValues_ok exB exB_bl [3,0,0] exB_st m
  rw [exB_va] at h
  exact h
theorem ex_few(m:Mem):Gives Tryz.prog 25 [.agg (bnV exB)] m (.tup [.lst (nsV [3,0,0]),.int .i64 2,.int .i64 0]):=by
  have h:=gfewest_ok exB exB_bl exB_ok m
  unfold fwV at h
  obtain⟨h1,h2,h3⟩:=exB_fw
  rw [if_neg exB_tr,if_pos h1,h2,h3] at h
  exact h
theorem ex_set(m:Mem):Gives Tryz.prog 26 [.agg (bnV exB),.int .i64 5] m (.tup [.lst (rwV [[2,1,0],[4,2,0]]),.int .i64 0]):=by
  have h:=gSettle_ok exB exB_bl exB_ok 5 (by decide) m
  unfold setV at h
  obtain⟨h1,h2⟩:=exB_se
  rw [h1] at h
  dsimp only at h
  rw [h2] at h
  exact h
theorem bints_s(l k:List Int)(n:Nat)(hn:n=k.length)(hl:l.length≤100000)(M:Mem)(kk:Nat)(st:Sta)(hk:M[kk]?=some (.cells st 3 1 (nsV k))):Gives Tryz.prog 20 [.lst (nsV l),.sl kk n] M (.bool (decide (l=k))):=by
  subst hn
  refine Gives_fz hk (by simp [V.flat]) ?_
  have e:([.lst (nsV l),.sl kk k.length]:List V).map (frzV kk (nsV k))=[.lst (nsV l),.lst (nsV k)]:=by
    simp only [List.map_cons,List.map_nil,fz_nsV]
    rfl
  rw [e]
  exact bints_c l k hl _
theorem bints_e(l:List Int)(n:Nat)(hn:n=l.length)(hl:l.length≤100000)(M:Mem)(kk:Nat)(st:Sta)(hk:M[kk]?=some (.cells st 3 1 (nsV l))):Gives Tryz.prog 20 [.lst (nsV l),.sl kk n] M (.bool true):=by
  have h:=bints_s l l n hn hl M kk st hk
  rwa [decide_eq_true rfl] at h
theorem uB33_27_6{N:Nat}{l:List Oper}{t:List (Nat×V)}{m:Mem}{Q:Exit→List (Nat×V)→Mem→Prop}(h:RgN Tryz.prog N l t m Q (fun i=>if i==3 || i==7 || i==8 || i==9 then .q else .p) [.one 0,.one 1,.one 2,.one 3,.one 4,.one 5,.one 6,.one 7,.one 8,.one 9]):WA Tryz.prog N (.region 6 l.toArray true) t m Q:=d_rgN h
theorem blists_two(l1 l2:List Int)(h1:l1.length≤100000)(h2:l2.length≤100000)(M:Mem)(k1 k2 k3:Nat)(s1 s2 s3:Sta)(h3:M[k1]?=some (.cells s1 3 1 (nsV l1)))(h4:M[k2]?=some (.cells s2 3 1 (nsV l2)))(h5:M[k3]?=some (.cells s3 43 1 [[.sl k1 l1.length],[.sl k2 l2.length]])):Gives Tryz.prog 27 [.lst (rwV [l1,l2]),.sl k3 2] M (.bool true):=by
  have g3:=lend_get2 h3
  have g4:=lend_get2 h4
  have g5:=lend_get2 h5
  have e:rwV [l1,l2]=[[V.lst (nsV l1)],[V.lst (nsV l2)]]:=rfl
  rw [e]
  refine Gives_in Tryz.func27 rfl Tryz.ntmps27 Tryz.results27 (by kernel_rfl) (by simp) rfl fun Q hQ=>?_
  (have FX:=g5;repeat'(first|(refine sx ?_ ?_<;>intro h<;>first|(exfalso;omega)|skip)|(refine g_op ?_;refine g_call ?_;refine g_args ?_;(first|refine s_fn (bints_s l1 l1 _ rfl h1 _ k1 _ (g3 _)) ?_|refine s_fn (bints_s l2 l2 _ rfl h2 _ k2 _ (g4 _)) ?_)<;>try first|omega|assumption)|refine ny ?_|refine WA_block ?_|(refine uB33_27_6 ?_;refine⟨by kernel_rfl,?_⟩)|((first|refine grp_cons (fun _=>bints_s l1 l1 _ rfl h1 _ k1 _ (g3 _)) ?_|refine grp_cons (fun _=>bints_s l2 l2 _ rfl h2 _ k2 _ (g4 _)) ?_)<;>try first|omega|assumption)|(refine g_d ?_;refine d_args ?_;(first|refine d_fn (bints_s l1 l1 _ rfl h1 _ k1 _ (g3 _)) ?_|refine d_fn (bints_s l2 l2 _ rfl h2 _ k2 _ (g4 _)) ?_|refine d_fnQ (fun _=>bints_s l1 l1 _ rfl h1 _ k1 _ (g3 _)) ?_|refine d_fnQ (fun _=>bints_s l2 l2 _ rfl h2 _ k2 _ (g4 _)) ?_)<;>try first|omega|assumption)|(refine g_d ?_;(first|refine d_fnY (bints_s l1 l1 _ rfl h1 _ k1 _ (g3 _)) ?_|refine d_fnY (bints_s l2 l2 _ rfl h2 _ k2 _ (g4 _)) ?_)<;>try first|omega|assumption)))
  refine WA_rounds 3 ?_
  (have FX:=g5;repeat'(first|(refine sx ?_ ?_<;>intro h<;>first|(exfalso;omega)|skip)|(refine g_op ?_;refine g_call ?_;refine g_args ?_;(first|refine s_fn (bints_s l1 l1 _ rfl h1 _ k1 _ (g3 _)) ?_|refine s_fn (bints_s l2 l2 _ rfl h2 _ k2 _ (g4 _)) ?_)<;>try first|omega|assumption)|refine ny ?_|refine WA_block ?_|(refine uB33_27_6 ?_;refine⟨by kernel_rfl,?_⟩)|((first|refine grp_cons (fun _=>bints_s l1 l1 _ rfl h1 _ k1 _ (g3 _)) ?_|refine grp_cons (fun _=>bints_s l2 l2 _ rfl h2 _ k2 _ (g4 _)) ?_)<;>try first|omega|assumption)|(refine g_d ?_;refine d_args ?_;(first|refine d_fn (bints_s l1 l1 _ rfl h1 _ k1 _ (g3 _)) ?_|refine d_fn (bints_s l2 l2 _ rfl h2 _ k2 _ (g4 _)) ?_|refine d_fnQ (fun _=>bints_s l1 l1 _ rfl h1 _ k1 _ (g3 _)) ?_|refine d_fnQ (fun _=>bints_s l2 l2 _ rfl h2 _ k2 _ (g4 _)) ?_)<;>try first|omega|assumption)|(refine g_d ?_;(first|refine d_fnY (bints_s l1 l1 _ rfl h1 _ k1 _ (g3 _)) ?_|refine d_fnY (bints_s l2 l2 _ rfl h2 _ k2 _ (g4 _)) ?_)<;>try first|omega|assumption)))
  all_goals(try(exfalso;first|omega|exact absurd rfl (by assumption)))
  all_goals((refine r_es hQ ?_;try with_reducible rfl))

theorem lawake_c(m:Mem):Gives Tryz.prog 5 [] m (.bool true):=by
  have hva:=exB_ok
  refine Gives_in Tryz.func5 rfl Tryz.ntmps5 Tryz.results5 (by kernel_rfl) (by simp) rfl fun Q hQ=>?_
  (repeat'(first|(refine sx ?_ ?_<;>intro h<;>first|(exfalso;omega)|skip)|(refine g_op ?_;refine g_call ?_;refine g_args ?_;(first|refine s_fn (lbench_c _) ?_|refine s_fn (hva _) ?_|refine s_fn (ex_few _) ?_|refine s_fn (ex_set _) ?_|refine s_fn (bints_e [18,8,0] 3 rfl (by decide) _ _ .own ?_) ?_|refine s_fn (bints_e [3,0,0] 3 rfl (by decide) _ _ .own ?_) ?_|refine s_fn (blists_two [2,1,0] [4,2,0] (by decide) (by decide) _ ((lend m).length+3) ((lend m).length+4) ((lend m).length+5) .own .own .own ?_ ?_ ?_) ?_)<;>try first|omega|assumption)|refine ny ?_|refine WA_block ?_))
  refine g_op ?_;refine g_call ?_;refine g_args ?_;refine s_fzE (B:=lend m) (n:=3) (es:=nsV [3,0,0]) 0 1 (ex_val _) ?_ (hn:=rfl)
  (repeat'(first|(refine sx ?_ ?_<;>intro h<;>first|(exfalso;omega)|skip)|(refine g_op ?_;refine g_call ?_;refine g_args ?_;(first|refine s_fn (lbench_c _) ?_|refine s_fn (hva _) ?_|refine s_fn (ex_few _) ?_|refine s_fn (ex_set _) ?_|refine s_fn (bints_e [18,8,0] 3 rfl (by decide) _ _ .own ?_) ?_|refine s_fn (bints_e [3,0,0] 3 rfl (by decide) _ _ .own ?_) ?_|refine s_fn (blists_two [2,1,0] [4,2,0] (by decide) (by decide) _ ((lend m).length+3) ((lend m).length+4) ((lend m).length+5) .own .own .own ?_ ?_ ?_) ?_)<;>try first|omega|assumption)|refine ny ?_|refine WA_block ?_))
  all_goals try(simp [nsV];done)
  all_goals(refine r_es hQ ?_;try with_reducible rfl)
end Go.Proofs.YtookikhphobnlaaGreatDoor
