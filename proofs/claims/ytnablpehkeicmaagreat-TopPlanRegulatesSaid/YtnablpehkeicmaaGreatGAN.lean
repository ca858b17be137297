import Derived.Test.YtnablpehkeicmaaGreatGAM
import Derived.Test.YtnablpehkeicmaaGreatGAK
import Derived.Test.YtnablpehkeicmaaGreatB9
import Derived.Test.YtnablpehkeicmaaGreatGAI
import Derived.Test.YtnablpehkeicmaaGreatB26
set_option linter.unusedSimpArgs false
set_option linter.unusedVariables false
/- contracts: how many steps there are; narrow benches -/
namespace Go.Proofs.YtnablpehkeicmaaGreat
open Go.RowKit
attribute [local irreducible] WA WOs WDs WAn qThen qBlock tput
set_option maxHeartbeats 1000000
set_option maxRecDepth 20000
set_option linter.unusedSimpArgs false
set_option linter.unusedVariables false
set_option maxHeartbeats 4000000
theorem uB54_16_5{N:Nat}{l:List Oper}{t:List (Nat×V)}{m:Mem}{Q:Exit→List (Nat×V)→Mem→Prop}(h:RgN Tryz.prog N l t m Q (fun i=>if i==2 || i==6 || i==8 || i==12 then .q else .p) [.one 0,.one 1,.one 2,.one 3,.one 4,.one 5,.one 6,.one 7,.one 8,.one 9,.one 10,.one 11,.one 12,.one 13,.one 14,.one 15,.one 16]):WA Tryz.prog N (.region 5 l.toArray true) t m Q:=d_rgN h
theorem rtries_c(b:BnR)(hb:Bnd b)(m:Mem):Gives Tryz.prog 16 [.agg [.lst (mssV b.ms),.lst (adsV b.ads)]] m (.int .i64 (trS b.ads b.ads.length)):=by
  have hla:=adsV_length (l:=b.ads)
  have hga:=hla
  have hfa:=hb.fa
  refine Gives_in Tryz.func16 rfl Tryz.ntmps16 Tryz.results16 (by kernel_rfl) (by simp) rfl fun Q hQ=>?_
  (have FX:=And.intro hla hga;repeat'(first|(refine sx ?_ ?_<;>intro h<;>first|(exfalso;omega)|skip)|refine ny ?_|refine WA_block ?_|(refine uB54_16_5 ?_;refine⟨by kernel_rfl,?_⟩)))
  all_goals(try(exfalso;omega))
  refine WA_whileK (σ:=Nat) [1,3,4] (fun i=>[.ptr (lend m).length 0 0,.int .i64 (trS b.ads i),.int .i64 i]) (fun _=>[.cells .own 25 2 [[.lst (mssV b.ms),.lst (adsV b.ads)]]]) 1 (fun i=>i≤b.ads.length) (fun i=>b.ads.length - i) 0 (Nat.zero_le _) tv_ rfl (fun _=>rfl) (by intro s s' _ _;simp [conB,conS,V.keeps,V.plain,Blk.flat,flatL,plainL,V.flat]) (by intro s s' _ _;simp [conB,conS,V.keeps,V.plain,Blk.flat,flatL,plainL,V.flat]) ?_
  rintro i hi1 K hK
  simp only [zipT]
  clear FX hga
  have hbd:=trS_bd hb i hi1
  rcases Nat.lt_or_ge i b.ads.length with hi|hi
  · have hga:=adsV_get hi
    have hst:=fun h=>trS_stop (ads:=b.ads) (k:=i) h (b.ads.length - i)
    rw [show i+(b.ads.length - i)=b.ads.length by omega] at hst
    have hsu:trS b.ads (i+1)=if trS b.ads i≤100000 then trS b.ads i*((b.ads.getD i adz).most - (b.ads.getD i adz).least+1) else trS b.ads i:=rfl
    have hle:=hb.le i hi
    have hmo:=hb.mo i hi
    have hmb:=mul_bd (a:=100000) (c:=2001) (x:=min (trS b.ads i) 100000) (y:=(b.ads.getD i adz).most - (b.ads.getD i adz).least+1) (by decide) (by omega) (by omega)
    generalize trS b.ads i=n at*
    generalize b.ads.getD i adz=y at*
    obtain⟨yn,ye,yl,ym,yp,ya⟩:=y
    unfold adV at hga
    dsimp only at hga hle hmo hsu hmb
    by_cases hn:n≤100000
    · rw [if_pos hn] at hsu
      rw [Int.min_eq_left hn] at hmb
      (have FX:=And.intro hla hga;repeat'(first|(refine sx ?_ ?_<;>intro h<;>first|(exfalso;omega)|skip)|refine ny ?_|refine WA_block ?_|(refine uB54_16_5 ?_;refine⟨by kernel_rfl,?_⟩)))
      all_goals(try(exfalso;omega))
      all_goals(refine nextL_ hK (i+1) hi (by omega) (ht:=by rw [hsu];exact tv_))
    · rw [hst (by omega)] at hQ
      (have FX:=And.intro hla hga;repeat'(first|(refine sx ?_ ?_<;>intro h<;>first|(exfalso;omega)|skip)|refine ny ?_|refine WA_block ?_|(refine uB54_16_5 ?_;refine⟨by kernel_rfl,?_⟩)))
      all_goals(try(exfalso;omega))
      all_goals((refine r_es hQ ?_;try with_reducible rfl))
  · obtain rfl:i=b.ads.length:=by omega
    have hga:=hla
    (have FX:=And.intro hla hga;repeat'(first|(refine sx ?_ ?_<;>intro h<;>first|(exfalso;omega)|skip)|refine ny ?_|refine WA_block ?_|(refine uB54_16_5 ?_;refine⟨by kernel_rfl,?_⟩)))
    all_goals(try(exfalso;omega))
    all_goals((refine r_es hQ ?_;try with_reducible rfl))

theorem lnarrow_c (b:BnR) (m:Mem):Gives Tryz.prog 5 [.agg [.lst (mssV b.ms),.lst (adsV b.ads)]] m (.bool (decide (narrow b))):=by
  have hli:=fun m=>llight_c b m
  have hx0:=mssV_length (l:=b.ms)
  have hcb:=hx0
  have htr:=hx0
  by_cases hL:light b
  · rw [decide_eq_true hL] at hli
    have hb:=light_bl hL
    have hcb:=fun m=>rcheckbench_c b hb m
    by_cases h0:bnErr b=0
    · have htr:=fun m=>rtries_c b (bnd_ok (bn_ok h0)) m
      rw [h0] at hcb
      by_cases hn:trS b.ads b.ads.length≤1500∨100000<trS b.ads b.ads.length
      · rw [decide_eq_true (show narrow b from⟨hL,fun _=>hn⟩)]
        generalize trS b.ads b.ads.length=n at*
        refine Gives_in Tryz.func5 rfl Tryz.ntmps5 Tryz.results5 (by kernel_rfl) (by simp) rfl fun Q hQ=>?_
        (have FX:=hx0;repeat'(first|(refine sx ?_ ?_<;>intro h<;>first|(exfalso;omega)|skip)|(refine na ?_;(first|refine nb hli ?_|refine nb hcb ?_|refine nb htr ?_)<;>try first|omega|assumption)|refine ny ?_|refine WA_block ?_))
        all_goals(try(exfalso;omega))
        all_goals((refine r_es hQ ?_;try with_reducible rfl))
        all_goals(exact congrArg V.bool (by first|rfl|(rw [decide_eq_true (by assumption)];rfl)|(rw [decide_eq_false (by assumption)];rfl)|exact(decide_eq_true (by assumption)).symm|exact(decide_eq_false (by assumption)).symm|exact(decide_eq_true (by omega)).symm|exact(decide_eq_false (by omega)).symm))
      · rw [decide_eq_false (show ¬ narrow b from fun h=>hn (h.2 h0))]
        generalize trS b.ads b.ads.length=n at*
        refine Gives_in Tryz.func5 rfl Tryz.ntmps5 Tryz.results5 (by kernel_rfl) (by simp) rfl fun Q hQ=>?_
        (have FX:=hx0;repeat'(first|(refine sx ?_ ?_<;>intro h<;>first|(exfalso;omega)|skip)|(refine na ?_;(first|refine nb hli ?_|refine nb hcb ?_|refine nb htr ?_)<;>try first|omega|assumption)|refine ny ?_|refine WA_block ?_))
        all_goals(try(exfalso;omega))
        all_goals((refine r_es hQ ?_;try with_reducible rfl))
        all_goals(exact congrArg V.bool (by first|rfl|(rw [decide_eq_true (by assumption)];rfl)|(rw [decide_eq_false (by assumption)];rfl)|exact(decide_eq_true (by assumption)).symm|exact(decide_eq_false (by assumption)).symm|exact(decide_eq_true (by omega)).symm|exact(decide_eq_false (by omega)).symm))
    · rw [decide_eq_true (show narrow b from⟨hL,fun h=>absurd h h0⟩)]
      refine Gives_in Tryz.func5 rfl Tryz.ntmps5 Tryz.results5 (by kernel_rfl) (by simp) rfl fun Q hQ=>?_
      (have FX:=hx0;repeat'(first|(refine sx ?_ ?_<;>intro h<;>first|(exfalso;omega)|skip)|(refine na ?_;(first|refine nb hli ?_|refine nb hcb ?_|refine nb htr ?_)<;>try first|omega|assumption)|refine ny ?_|refine WA_block ?_))
      all_goals(try(exfalso;omega))
      all_goals((refine r_es hQ ?_;try with_reducible rfl))
  · rw [decide_eq_false hL] at hli
    rw [decide_eq_false (show ¬ narrow b from fun h=>hL h.1)]
    refine Gives_in Tryz.func5 rfl Tryz.ntmps5 Tryz.results5 (by kernel_rfl) (by simp) rfl fun Q hQ=>?_
    (have FX:=hx0;repeat'(first|(refine sx ?_ ?_<;>intro h<;>first|(exfalso;omega)|skip)|(refine na ?_;(first|refine nb hli ?_|refine nb hcb ?_|refine nb htr ?_)<;>try first|omega|assumption)|refine ny ?_|refine WA_block ?_))
    all_goals(try(exfalso;omega))
    all_goals((refine r_es hQ ?_;try with_reducible rfl))
end Go.Proofs.YtnablpehkeicmaaGreat
namespace Go.Proofs.YtnablpehkeicmaaGreat
open Go.RowKit
/-! the order of adjustments -/
structure Og(ads:List AdR)(out:List Nat):Prop where
  nd:out.Nodup
  lt:∀ x∈out,x<ads.length
  rd:∀ k,k<out.length→rdyA (outN ads (out.take k)) (ads.getD (out.getD k 0) adz)=true
theorem hasT_mem{ns:List Txt}{s:Txt}:hasT ns s=true↔s∈ns:=by
  unfold hasT
  rw [List.any_eq_true]
  constructor
  · rintro⟨x,hx,h⟩
    have:x=s:=of_decide_eq_true h
    exact this ▸ hx
  · intro h
    exact⟨s,h,decide_eq_true rfl⟩
theorem og_snoc{ads:List AdR}{out:List Nat}(h:Og ads out){i:Nat}(hi:i<ads.length)(hr:rdyA (outN ads out) (ads.getD i adz)=true):Og ads (out++[i]):=by
  have hni:i ∉ out:=by
    intro hm
    unfold rdyA at hr
    have:hasT (outN ads out) (ads.getD i adz).name=true:=hasT_mem.2 (List.mem_map.2 ⟨i,hm,rfl⟩)
    rw [this] at hr
    simp at hr
  refine⟨List.nodup_append.2 ⟨h.nd,by simp,fun a ha b hb=>by rw [List.mem_singleton.1 hb];rintro rfl;exact hni ha⟩,fun x hx=>?_,fun k hk=>?_⟩
  · rcases List.mem_append.1 hx with hx|hx
    · exact h.lt x hx
    · rw [List.mem_singleton.1 hx];exact hi
  · rw [List.length_append,List.length_singleton] at hk
    rcases Nat.lt_or_ge k out.length with hk2|hk2
    · have e:(out++[i]).getD k 0=out.getD k 0:=by rw [List.getD_eq_getElem?_getD,List.getElem?_append_left hk2,←List.getD_eq_getElem?_getD]
      rw [List.take_append_of_le_length (by omega),e]
      exact h.rd k hk2
    · obtain rfl:k=out.length:=by omega
      have e:(out++[i]).getD out.length 0=i:=by rw [List.getD_eq_getElem?_getD,List.getElem?_append_right (Nat.le_refl _),Nat.sub_self];rfl
      rw [List.take_append_of_le_length (Nat.le_refl _),List.take_length,e]
      exact hr
theorem og_ordF (ads:List AdR):∀ (n:Nat) (out:List Nat),Og ads out→Og ads (ordF ads n out)
  |0,_,h=>h
  | n + 1,out,h=>by
    unfold ordF
    split
    · exact h
    · rename_i hn
      have e:nxtI ads out=fdx (rdyA (outN ads out)) ads:=rfl
      rcases fdx_cases (rdyA (outN ads out)) ads adz with ⟨h1,_⟩|⟨i,hi,h1,h2,_⟩
      · omega
      · rw [e,h1,Int.toNat_natCast]
        exact og_ordF ads n _ (og_snoc h hi h2)
theorem og_ordB(ads:List AdR):Og ads (ordB ads):=og_ordF ads _ _ ⟨List.nodup_nil,(fun x hx=>absurd hx List.not_mem_nil),fun k hk=>absurd hk (Nat.not_lt_zero _)⟩
theorem nodup_le:∀ (n:Nat) (l:List Nat),l.Nodup→(∀ x∈l,x<n)→l.length≤n
  | 0,l,_,h=>by
    cases l with
    |nil=>exact Nat.le_refl _
    |cons a r=>exact absurd (h a List.mem_cons_self) (Nat.not_lt_zero _)
  | n +1,l,hd,h=>by
    have ih:=nodup_le n (l.erase n) (hd.erase n) fun x hx=>by
      have h1:=(hd.mem_erase_iff).1 hx
      have:=h x h1.2
      have:=h1.1
      omega
    by_cases hm:n∈l
    · have:=List.length_erase_of_mem hm
      omega
    · rw [List.erase_of_not_mem hm] at ih
      omega
theorem nodup_full{l:List Nat}{n:Nat}(hd:l.Nodup)(hl:∀ x∈l,x<n)(hn:n≤l.length):∀ i,i<n→i∈l:=by
  intro i hi
  refine Decidable.byContradiction fun hni=>?_
  have:=nodup_le n (i::l) (List.nodup_cons.2 ⟨hni,hd⟩) fun x hx=>by
    rcases List.mem_cons.1 hx with rfl|hx
    · exact hi
    · exact hl x hx
  simp at this
  omega
theorem ordB_mem{b:BnR}(hk:Bok b){i:Nat}(hi:i<b.ads.length):i∈ordB b.ads:=nodup_full (og_ordB b.ads).nd (og_ordB b.ads).lt hk.cy i hi
/-! passes -/
def clp(p x:Int):Int:=min (max x (-p)) p
def passI(b:BnR)(i:Nat):Int:=(b.ads.getD i adz).pass
def stpF(b:BnR)(left:List Int)(i:Nat):Option StR:=if clp (passI b i) (left.getD i 0)≠0 then some ⟨i,clp (passI b i) (left.getD i 0)⟩ else none
def pasP(b:BnR)(left:List Int)(k:Nat):List StR:=((ordB b.ads).take k).filterMap (stpF b left)
def lefP(b:BnR)(left:List Int)(k:Nat):List Int:=(List.range left.length).map fun i=>if i∈(ordB b.ads).take k then left.getD i 0 - clp (passI b i) (left.getD i 0) else left.getD i 0
theorem lefP_length(b:BnR)(left:List Int)(k:Nat):(lefP b left k).length=left.length:=by simp [lefP]
theorem lefP_get{b:BnR}{left:List Int}{k i:Nat}(hi:i<left.length):(lefP b left k).getD i 0=if i∈(ordB b.ads).take k then left.getD i 0 - clp (passI b i) (left.getD i 0) else left.getD i 0:=rmap_get _ _ hi
theorem range_get(l:List Int):(List.range l.length).map (fun i=>l.getD i 0)=l:=by
  refine List.ext_getElem (by simp) fun i h1 h2=>?_
  simp only [List.getElem_map,List.getElem_range]
  rw [List.getD_eq_getElem?_getD,List.getElem?_eq_getElem h2];rfl
theorem lefP_zero(b:BnR)(left:List Int):lefP b left 0=left:=by
  unfold lefP
  simp only [List.take_zero,List.not_mem_nil,if_false]
  exact range_get left
theorem take_snoc{α:Type}{l:List α}{k:Nat}{d:α}(h:k<l.length):l.take (k+1)=l.take k++[l.getD k d]:=by
  rw [List.take_succ_eq_append_getElem h,List.getD_eq_getElem?_getD,List.getElem?_eq_getElem h];rfl
theorem not_mem_take{l:List Nat}(hd:l.Nodup){k:Nat}(h:k<l.length):l.getD k 0 ∉ l.take k:=by
  intro hm
  obtain⟨j,hj,e⟩:=List.getElem_of_mem hm
  rw [List.getElem_take] at e
  rw [List.length_take] at hj
  rw [List.getD_eq_getElem?_getD,List.getElem?_eq_getElem h] at e
  have:=(List.getElem_inj hd).1 (show l[j]=l[k] from e)
  omega
theorem pasP_succ{b:BnR}{left:List Int}{k:Nat}(h:k<(ordB b.ads).length):pasP b left (k+1)=pasP b left k++(stpF b left ((ordB b.ads).getD k 0)).toList:=by
  unfold pasP
  rw [take_snoc (d:=0) h,List.filterMap_append]
  congr 1
theorem lefP_at{b:BnR}{left:List Int}{k:Nat}(h:k<(ordB b.ads).length)(hi:(ordB b.ads).getD k 0<left.length):(lefP b left k).getD ((ordB b.ads).getD k 0) 0=left.getD ((ordB b.ads).getD k 0) 0:=by
  rw [lefP_get hi,if_neg (not_mem_take (og_ordB b.ads).nd h)]
theorem lefP_succ{b:BnR}{left:List Int}{k:Nat}(h:k<(ordB b.ads).length)(hi:(ordB b.ads).getD k 0<left.length):lefP b left (k+1)=(lefP b left k).set ((ordB b.ads).getD k 0) (left.getD ((ordB b.ads).getD k 0) 0 - clp (passI b ((ordB b.ads).getD k 0)) (left.getD ((ordB b.ads).getD k 0) 0)):=by
  refine List.ext_getElem (by simp [lefP]) fun i h1 h2=>?_
  rw [List.getElem_set]
  simp only [lefP,List.getElem_map,List.getElem_range,take_snoc (d:=0) h,List.mem_append,List.mem_singleton]
  by_cases he:(ordB b.ads).getD k 0=i
  · rw [if_pos he,if_pos (.inr he.symm),he]
  · rw [if_neg he]
    by_cases hm:i∈(ordB b.ads).take k
    · rw [if_pos hm,if_pos (.inl hm)]
    · rw [if_neg hm,if_neg (fun h=>h.elim hm fun h=>he h.symm)]
theorem lefP_same{b:BnR}{left:List Int}{k:Nat}(h:k<(ordB b.ads).length)(hi:(ordB b.ads).getD k 0<left.length)(hz:clp (passI b ((ordB b.ads).getD k 0)) (left.getD ((ordB b.ads).getD k 0) 0)=0):lefP b left (k+1)=lefP b left k:=by
  rw [lefP_succ h hi,hz,Int.sub_zero,←lefP_at h hi]
  refine List.ext_getElem (by simp) fun i h1 h2=>?_
  rw [List.getElem_set]
  split
  · rename_i e
    subst e
    rw [List.getD_eq_getElem?_getD,List.getElem?_eq_getElem h2];rfl
  · rfl
/-- what is left behind n passes -/
def lftN(b:BnR)(l:List Int)(n:Nat):List Int:=(List.range l.length).map fun i=>l.getD i 0 - clp ((n:Int)*passI b i) (l.getD i 0)
theorem lftN_length(b:BnR)(l:List Int)(n:Nat):(lftN b l n).length=l.length:=by simp [lftN]
theorem lftN_get{b:BnR}{l:List Int}{n i:Nat}(h:i<l.length):(lftN b l n).getD i 0=l.getD i 0 - clp ((n:Int)*passI b i) (l.getD i 0):=rmap_get _ _ h
theorem lftN_zero(b:BnR)(l:List Int):lftN b l 0=l:=by
  unfold lftN
  refine Eq.trans (List.map_congr_left fun i _=>?_) (range_get l)
  rw [Int.natCast_zero,Int.zero_mul]
  unfold clp
  omega
theorem clp_next{p x:Int}{q:Int}(hp:0≤p)(hq:0≤q):x - clp q x - clp p (x - clp q x)=x - clp (q+p) x:=by
  unfold clp
  omega
theorem lftN_next{b:BnR}(hk:Bok b){l:List Int}(hl:l.length=b.ads.length)(n:Nat):lefP b (lftN b l n) (ordB b.ads).length=lftN b l (n+1):=by
  refine List.ext_getElem (by simp [lefP,lftN]) fun i h1 h2=>?_
  have hi:i<l.length:=by rw [lftN_length] at h2;exact h2
  have e1:(lefP b (lftN b l n) (ordB b.ads).length)[i]=(lefP b (lftN b l n) (ordB b.ads).length).getD i 0:=by rw [List.getD_eq_getElem?_getD,List.getElem?_eq_getElem h1];rfl
  have e2:(lftN b l (n+1))[i]=(lftN b l (n+1)).getD i 0:=by rw [List.getD_eq_getElem?_getD,List.getElem?_eq_getElem h2];rfl
  rw [e1,e2,lefP_get (by rw [lftN_length];exact hi),List.take_length,if_pos (ordB_mem hk (by omega)),lftN_get hi,lftN_get hi]
  have hp:=(bnd_ok hk).pa i (by omega)
  have hq:(((n+1:Nat):Int))*passI b i=(n:Int)*passI b i+passI b i:=by rw [Int.natCast_add,Int.add_mul];simp
  rw [hq]
  exact clp_next (by unfold passI;omega) (Int.mul_nonneg (by omega) (by unfold passI;omega))
/-- the first passes of the plan of steps -/
def plO(b:BnR)(l:List Int)(n:Nat):List (List StR):=(List.range n).map fun j=>pasP b (lftN b l j) (ordB b.ads).length
theorem plO_length(b:BnR)(l:List Int)(n:Nat):(plO b l n).length=n:=by simp [plO]
theorem plO_succ(b:BnR)(l:List Int)(n:Nat):plO b l (n+1)=plO b l n++[pasP b (lftN b l n) (ordB b.ads).length]:=by
  simp [plO,List.range_succ]
theorem plO_get{b:BnR}{l:List Int}{n i:Nat}(h:i<n):(plO b l n).getD i []=pasP b (lftN b l i) (ordB b.ads).length:=rmap_get _ _ h
theorem aln_bok{b:BnR}(hk:Bok b):Aln b.ads:=aln_of hk.fa hk.ae
theorem name_inj{ads:List AdR}(h:Aln ads){i j:Nat}(hi:i<ads.length)(hj:j<ads.length)(e:(ads.getD i adz).name=(ads.getD j adz).name):i=j:=by
  have h1:=fdx_name h hi
  have h2:=fdx_name h hj
  rw [e,h2] at h1
  omega
def befR(ads:List AdR)(x y:Nat):Prop:=x≠y∧(ads.getD y adz).name ∉ (ads.getD x adz).after
theorem ord_pw{ads:List AdR}(h:Aln ads):(ordB ads).Pairwise (befR ads):=by
  have ho:=og_ordB ads
  rw [List.pairwise_iff_getElem]
  intro a c ha hc hac
  refine⟨fun e=>by have:=(List.getElem_inj ho.nd).1 e;omega,fun hm=>?_⟩
  have hr:=ho.rd a ha
  have e1:(ordB ads).getD a 0=(ordB ads)[a]:=by rw [List.getD_eq_getElem?_getD,List.getElem?_eq_getElem ha];rfl
  rw [e1] at hr
  unfold rdyA at hr
  have h2:=List.all_eq_true.1 (Bool.and_eq_true_iff.1 hr).2 _ hm
  obtain⟨x,hx,hx2⟩:=List.mem_map.1 (hasT_mem.1 h2)
  have hxl:=ho.lt x (List.mem_of_mem_take hx)
  have hcl:=ho.lt (ordB ads)[c] (List.getElem_mem hc)
  have:x=(ordB ads)[c]:=name_inj h hxl hcl hx2
  subst this
  obtain⟨j,hj,e⟩:=List.getElem_of_mem hx
  rw [List.getElem_take] at e
  rw [List.length_take] at hj
  have:=(List.getElem_inj ho.nd).1 e
  omega
/-- which adjustments a pass turns -/
def pasQ(b:BnR)(left:List Int):List Nat:=(ordB b.ads).filter fun i=>decide (clp (passI b i) (left.getD i 0)≠0)
theorem pasP_eq(b:BnR)(left:List Int):pasP b left (ordB b.ads).length=(pasQ b left).map fun(i:Nat)=>(⟨(i:Int),clp (passI b i) (left.getD i 0)⟩:StR):=by
  unfold pasP pasQ
  rw [List.take_length]
  generalize ordB b.ads=o
  induction o with
  |nil=>rfl
  | cons i r ih=>
    rw [List.filterMap_cons,List.filter_cons]
    unfold stpF at ih ⊢
    by_cases h:clp (passI b i) (left.getD i 0)≠0
    · rw [if_pos h,if_pos (decide_eq_true h),List.map_cons]
      exact congrArg _ ih
    · rw [if_neg h,if_neg (by simpa using h)]
      exact ih
theorem isT_no{s:Txt}{l:List Txt}(h:s ∉ l):¬ 0≤fdx (isT s) l:=by
  intro h0
  have h1:l.any (isT s)=true:=by rw [fdx_any];exact decide_eq_true h0
  exact h (hasT_mem.1 h1)
theorem pas_ok{b:BnR}(hk:Bok b)(left:List Int):psOk b.ads (pasP b left (ordB b.ads).length):=by
  have ho:=og_ordB b.ads
  have hA:=aln_bok hk
  have hbd:=bnd_ok hk
  have hql:∀ x∈pasQ b left,x<b.ads.length∧clp (passI b x) (left.getD x 0)≠0:=fun x hx=>by
    obtain⟨h1,h2⟩:=List.mem_filter.1 hx
    exact⟨ho.lt x h1,of_decide_eq_true h2⟩
  have hpw:(pasQ b left).Pairwise (befR b.ads):=(ord_pw hA).filter _
  have hlen:(pasQ b left).length≤12:=by
    have h1:=List.length_filter_le (fun i=>decide (clp (passI b i) (left.getD i 0)≠0)) (ordB b.ads)
    have h2:=ordB_len b.ads
    have h3:=hk.fa
    unfold pasQ
    omega
  rw [pasP_eq]
  generalize hQ:pasQ b left=q at*
  rw [List.pairwise_iff_getElem] at hpw
  refine⟨by rw [List.length_map];exact hlen,fun i hi=>?_⟩
  rw [List.length_map] at hi
  have hg:∀ j (hj:j<q.length),(q.map fun(i:Nat)=>(⟨(i:Int),clp (passI b i) (left.getD i 0)⟩:StR)).getD j stz=⟨(q[j]:Int),clp (passI b q[j]) (left.getD q[j] 0)⟩:=fun j hj=>by
    rw [List.getD_eq_getElem?_getD,List.getElem?_map,List.getElem?_eq_getElem hj];rfl
  have hx:=hql q[i] (List.getElem_mem hi)
  have hpa:=hbd.pa q[i] hx.1
  unfold psErrAt
  rw [hg i hi]
  dsimp only
  rw [if_neg (by omega)]
  have hb1:¬ 0≤fdx (isS (q[i]:Int)) ((q.map fun(i:Nat)=>(⟨(i:Int),clp (passI b i) (left.getD i 0)⟩:StR)).take i):=by
    refine bef_no (by rw [List.length_map];omega) fun k hk2=>?_
    rw [hg k (by omega)]
    have:=(hpw k i (by omega) hi hk2).1
    dsimp only
    omega
  rw [if_neg hb1,if_neg hx.2,Int.toNat_natCast,if_neg (by
    have hcl: -(b.ads.getD q[i] adz).pass≤clp (passI b q[i]) (left.getD q[i] 0)∧clp (passI b q[i]) (left.getD q[i] 0)≤(b.ads.getD q[i] adz).pass:=by
      unfold clp passI
      omega
    exact fun h=>h hcl)]
  rw [if_neg]
  refine lat_no (hA.af q[i] hx.1).2 fun k hk1 hk2 n hn hnl=>?_
  rw [List.length_map] at hk2
  rw [hg k hk2] at hn
  dsimp only at hn
  obtain rfl:n=q[k]:=by omega
  exact isT_no (hpw i k hi hk2 hk1).2
theorem addS_map(c:Nat→Int){q:List Nat}(hd:q.Nodup){s:List Int}(hl:∀ x∈q,x<s.length):∀ k,k≤q.length→addS (q.map fun(i:Nat)=>(⟨(i:Int),c i⟩:StR)) s k=(List.range s.length).map fun i=>if i∈q.take k then s.getD i 0+c i else s.getD i 0
  | 0,_=>by
    simp only [addS,List.take_zero,List.not_mem_nil,if_false]
    exact(range_get s).symm
  | k +1,hk=>by
    have ih:=addS_map c hd hl k (by omega)
    have hg:(q.map fun(i:Nat)=>(⟨(i:Int),c i⟩:StR)).getD k stz=⟨(q.getD k 0:Nat),c (q.getD k 0)⟩:=by
      rw [List.getD_eq_getElem?_getD,List.getElem?_map,List.getElem?_eq_getElem (show k<q.length by omega),List.getD_eq_getElem?_getD,List.getElem?_eq_getElem (show k<q.length by omega)];rfl
    have hql:=hl (q.getD k 0) (by rw [List.getD_eq_getElem?_getD,List.getElem?_eq_getElem (show k<q.length by omega)];exact List.getElem_mem _)
    have hnm:=not_mem_take hd (show k<q.length by omega)
    simp only [addS]
    rw [hg]
    dsimp only
    rw [Int.toNat_natCast,ih,rmap_get _ _ hql,if_neg hnm]
    refine List.ext_getElem (by simp) fun i h1 h2=>?_
    rw [List.getElem_set]
    simp only [List.getElem_map,List.getElem_range,take_snoc (d:=0) (show k<q.length by omega),List.mem_append,List.mem_singleton]
    by_cases he:q.getD k 0=i
    · rw [if_pos he,if_pos (.inr he.symm),he]
    · rw [if_neg he]
      by_cases hm:i∈q.take k
      · rw [if_pos hm,if_pos (.inl hm)]
      · rw [if_neg hm,if_neg (fun h=>h.elim hm fun h=>he h.symm)]
/-- the sums behind n passes -/
def sumN(b:BnR)(l:List Int)(n:Nat):List Int:=(List.range b.ads.length).map fun i=>clp ((n:Int)*passI b i) (l.getD i 0)
theorem sumN_get{b:BnR}{l:List Int}{n i:Nat}(h:i<b.ads.length):(sumN b l n).getD i 0=clp ((n:Int)*passI b i) (l.getD i 0):=rmap_get _ _ h
theorem sumN_zero(b:BnR)(l:List Int):sumN b l 0=List.replicate b.ads.length 0:=by
  refine List.ext_getElem (by simp [sumN]) fun i h1 h2=>?_
  simp only [sumN,List.getElem_map,List.getElem_range,List.getElem_replicate,Int.natCast_zero,Int.zero_mul]
  unfold clp
  omega
theorem pas_add{b:BnR}(hk:Bok b){l:List Int}(hl:l.length=b.ads.length)(n:Nat):addS (pasP b (lftN b l n) (ordB b.ads).length) (sumN b l n) (pasP b (lftN b l n) (ordB b.ads).length).length=sumN b l (n+1):=by
  have ho:=og_ordB b.ads
  have hsl:(sumN b l n).length=b.ads.length:=by simp [sumN]
  rw [pasP_eq,List.length_map,addS_map (fun i=>clp (passI b i) ((lftN b l n).getD i 0)) (q:=pasQ b (lftN b l n)) (ho.nd.filter _) (fun x hx=>by rw [hsl];exact ho.lt x (List.mem_filter.1 hx).1) _ (Nat.le_refl _),List.take_length]
  unfold sumN
  rw [List.length_map,List.length_range]
  refine List.map_congr_left fun i hi=>?_
  have hi:=List.mem_range.1 hi
  have e:((List.range b.ads.length).map fun i=>clp ((n:Int)*passI b i) (l.getD i 0)).getD i 0=clp ((n:Int)*passI b i) (l.getD i 0):=rmap_get _ _ hi
  rw [e,lftN_get (by omega)]
  have hp:=(bnd_ok hk).pa i hi
  have hq:(((n+1:Nat):Int))*passI b i=(n:Int)*passI b i+passI b i:=by rw [Int.natCast_add,Int.add_mul];simp
  have hc:=clp_next (p:=passI b i) (x:=l.getD i 0) (q:=(n:Int)*passI b i) (by unfold passI;omega) (Int.mul_nonneg (by omega) (by unfold passI;omega))
  rw [hq]
  by_cases hm:i∈pasQ b (lftN b l n)
  · rw [if_pos hm]
    omega
  · rw [if_neg hm]
    have hz:clp (passI b i) ((lftN b l n).getD i 0)=0:=Decidable.byContradiction fun h=>hm (List.mem_filter.2 ⟨ordB_mem hk hi,decide_eq_true h⟩)
    rw [lftN_get (by omega)] at hz
    omega
theorem plO_smK{b:BnR}(hk:Bok b){l:List Int}(hl:l.length=b.ads.length)(n:Nat):∀ k,k≤n→smK b (plO b l n) k=sumN b l k
  |0,_=>(sumN_zero b l).symm
  | k+1,h=>by
    rw [smK,plO_get (by omega),plO_smK hk hl n k (by omega)]
    exact pas_add hk hl k
theorem sumN_ok{b:BnR}(hk:Bok b){l:List Int}(hst:stOk b.ads l)(n:Nat):stOk b.ads (sumN b l n):=by
  refine⟨by simp [sumN],fun i hi=>?_⟩
  rw [sumN_get hi]
  have h1:=hst.2 i hi
  have h2:=(bnd_ok hk).le i hi
  have h3:=(bnd_ok hk).mo i hi
  have h4:0≤(n:Int)*passI b i:=Int.mul_nonneg (by omega) (by have:=(bnd_ok hk).pa i hi;unfold passI;omega)
  unfold clp
  omega
theorem pasK_ge{ads:List AdR}{l:List Int}{i:Nat}:∀ {k:Nat},i<k→pasA (l.getD i 0) (ads.getD i adz).pass≤pasK ads l k
  | k +1,h=>by
    rcases Nat.lt_or_ge i k with h1|h1
    · have:=pasK_ge (ads:=ads) (l:=l) h1
      simp only [pasK]
      split<;>omega
    · obtain rfl:i=k:=by omega
      simp only [pasK]
      split<;>omega
theorem pasA_mul{s p:Int}(hp:1≤p):(s.natAbs:Int)≤pasA s p*p:=by
  unfold pasA
  have h1:=Int.mul_ediv_add_emod ((s.natAbs:Int)+p - 1) p
  have h2:=Int.emod_lt_of_pos ((s.natAbs:Int)+p - 1) (show 0<p by omega)
  rw [Int.mul_comm]
  omega
theorem sumN_full{b:BnR}(hk:Bok b){l:List Int}(hst:stOk b.ads l){n:Nat}(hn:pasK b.ads l b.ads.length≤n):sumN b l n=l:=by
  refine List.ext_getElem (by simp [sumN,hst.1]) fun i h1 h2=>?_
  have hi:i<b.ads.length:=by have:=hst.1;omega
  have e2:l[i]=l.getD i 0:=by rw [List.getD_eq_getElem?_getD,List.getElem?_eq_getElem h2];rfl
  simp only [sumN,List.getElem_map,List.getElem_range]
  rw [e2]
  have hp:=(bnd_ok hk).pa i hi
  have h3:pasA (l.getD i 0) (b.ads.getD i adz).pass≤n:=Int.le_trans (pasK_ge hi) hn
  have h4:=pasA_mul (s:=l.getD i 0) hp.1
  have h5:=Int.mul_le_mul_of_nonneg_right h3 (show 0≤(b.ads.getD i adz).pass by omega)
  unfold clp passI
  omega
theorem plO_ok{b:BnR}(hk:Bok b){l:List Int}(hst:stOk b.ads l){n:Nat}(h50:n≤50)(hn:pasK b.ads l b.ads.length≤n):smS b (plO b l n)=l∧smN b (plO b l n)=0∧smE b (plO b l n)=0:=by
  have h0:∀ j,j<(plO b l n).length→plErrAt b (plO b l n) j=0:=fun j hj=>by
    rw [plO_length] at hj
    have h1:(psV b.ads ((plO b l n).getD j [])).2=0:=by rw [plO_get hj];exact psV_zero.2 (pas_ok hk _)
    unfold plErrAt
    rw [if_neg (by omega),plO_smK hk hst.1 n (j+1) (by omega)]
    exact stErr_iff.2 (sumN_ok hk hst _)
  have:=sm_no (by rw [plO_length];exact h50) h0
  rw [plO_length,plO_smK hk hst.1 n n (Nat.le_refl _),sumN_full hk hst hn] at this
  exact this
theorem pasK_at{ads:List AdR}{l:List Int}:∀ {k:Nat},0<pasK ads l k→∃ j,j<k∧pasA (l.getD j 0) (ads.getD j adz).pass=pasK ads l k
  |0,h=>by simp [pasK] at h
  | k +1,h=>by
    simp only [pasK] at h ⊢
    split
    · exact⟨k,by omega,rfl⟩
    · rename_i hn
      rw [if_neg hn] at h
      obtain⟨j,h1,h2⟩:=pasK_at h
      exact⟨j,by omega,h2⟩
theorem pasA_gt{s p:Int}{i:Nat}(hp:1≤p)(h:(i:Int)<pasA s p):(i:Int)*p<(s.natAbs:Int):=by
  unfold pasA at h
  have h1:=Int.ediv_mul_le ((s.natAbs:Int)+p - 1) (show p≠0 by omega)
  have h2:=Int.mul_le_mul_of_nonneg_right (show(i:Int)+1≤((s.natAbs:Int)+p - 1) / p by omega) (show 0≤p by omega)
  rw [Int.add_mul] at h2
  omega
theorem pas_ne{b:BnR}(hk:Bok b){l:List Int}(hl:l.length=b.ads.length){i:Nat}(hi:(i:Int)<pasK b.ads l b.ads.length):∃ p r,pasP b (lftN b l i) (ordB b.ads).length=p::r:=by
  obtain⟨j,hj,h1⟩:=pasK_at (show 0<pasK b.ads l b.ads.length by omega)
  have hp:=(bnd_ok hk).pa j hj
  have h2:=pasA_gt (i:=i) hp.1 (by rw [h1];exact hi)
  have h3:0≤(i:Int)*passI b j:=Int.mul_nonneg (by omega) (by unfold passI;omega)
  have h4:clp (passI b j) ((lftN b l i).getD j 0)≠0:=by
    rw [lftN_get (by omega)]
    have e:passI b j=(b.ads.getD j adz).pass:=rfl
    rw [←e] at h2 hp
    unfold clp
    omega
  have h5:j∈pasQ b (lftN b l i):=List.mem_filter.2 ⟨ordB_mem hk hj,decide_eq_true h4⟩
  rw [pasP_eq]
  cases hq:pasQ b (lftN b l i) with
  |nil=>rw [hq] at h5;cases h5
  |cons a r=>exact⟨_,_,rfl⟩
/-- what PlanOf answers -/
def mkE(b:BnR)(l:List Int):Int:=if bsErr b l≠0 then bsErr b l else if 50<pasK b.ads l b.ads.length then 8 else 0
def outSt:Nat→TV
  |0=> .v .nilsl
  |k+1=> .sl 2 (k+1)
def outE(b:BnR)(l:List Int):Nat→List TB
  |0=>[]
  |k+1=>[.cells .own 66 1 ((plV (plO b l (k+1))).map (List.map TV.v))]
def lefT(left:List Int):TB:= .cells .own 3 1 ((nsV left).map (List.map TV.v))
def pasSt(j:Nat):List StR→TV
  |[]=> .v .nilsl
  |_::r=> .sl j (r.length+1)
def pasE:List StR→List TB
  |[]=>[]
  |p::r=>[.cells .own 71 2 ((stsV (p::r)).map (List.map TV.v))]
def gpE(b:BnR)(l:List Int)(i:Nat)(left:List Int):List TB:=benT b::lefT left::outE b l i
def gqE(b:BnR)(l:List Int)(i:Nat)(left:List Int)(p:List StR):List TB:=benT b::lefT left::(outE b l i++pasE p)
theorem gpE_ok{b:BnR}{l left:List Int}{i:Nat}:(gpE b l i left).all (TB.ok (gpE b l i left).length)=true:=by
  unfold gpE benT lefT
  cases i with
  |zero=>simp only [outE,List.all_cons,TB.ok,TV.okT,List.all_nil,Bool.and_true,Bool.and_self,tvs_ok,List.length_cons,List.length_nil]
  |succ i=>simp only [outE,List.all_cons,TB.ok,TV.okT,List.all_nil,Bool.and_true,Bool.and_self,tvs_ok,List.length_cons,List.length_nil]
theorem gqE_ok{b:BnR}{l left:List Int}{i:Nat}{p:List StR}:(gqE b l i left p).all (TB.ok (gqE b l i left p).length)=true:=by
  unfold gqE benT lefT
  cases i<;>cases p<;>simp only [outE,pasE,List.nil_append,List.cons_append,List.all_cons,TB.ok,TV.okT,List.all_nil,Bool.and_true,Bool.and_self,tvs_ok,List.length_cons,List.length_nil]
theorem gpS_ok{b:BnR}{l left:List Int}{i n:Nat}{l1:List V}:(.ptr 0 0 0:: .sl 1 n::outSt i::l1.map TV.v).all (TV.okT (gpE b l i left).length)=true:=by
  have h:∀ (ls:List V) n,(ls.map TV.v).all (TV.okT n)=true:=fun ls n=>by simp [TV.okT]
  cases i with
  |zero=>simp only [outSt,gpE,outE,List.all_cons,TV.okT,h,Bool.and_true,List.length_cons,List.length_nil];decide
  |succ i=>simp only [outSt,gpE,outE,List.all_cons,TV.okT,h,Bool.and_true,List.length_cons,List.length_nil];decide
def pasJ:Nat→Nat
  |0=>2
  |_+1=>3
theorem gqS_ok{b:BnR}{l left:List Int}{i n:Nat}{p:List StR}{l1:List V}:(.ptr 0 0 0:: .sl 1 n::outSt i::pasSt (pasJ i) p::l1.map TV.v).all (TV.okT (gqE b l i left p).length)=true:=by
  have h:∀ (ls:List V) n,(ls.map TV.v).all (TV.okT n)=true:=fun ls n=>by simp [TV.okT]
  cases i<;>cases p<;>simp only [outSt,pasSt,pasJ,gqE,outE,pasE,List.nil_append,List.cons_append,List.all_cons,TV.okT,h,Bool.and_true,List.length_cons,List.length_nil]<;>decide
theorem imn(a c:Int):(if c<a then c else a)=min a c:=by omega
theorem imx(a c:Int):(if c>a then c else a)=max a c:=by omega
end Go.Proofs.YtnablpehkeicmaaGreat
namespace Go.Proofs.YtnablpehkeicmaaGreat
open Go.RowKit
attribute [local irreducible] WA WOs WDs WAn qThen qBlock tput
set_option maxHeartbeats 1000000
set_option maxRecDepth 20000
set_option linter.unusedSimpArgs false
set_option linter.unusedVariables false
set_option maxHeartbeats 4000000
theorem stsV_frz(b:Nat)(es:List (List V))(l:List StR):(stsV l).map (List.map (frzV b es))=stsV l:=by
  simp [stsV,stV,frzV]
theorem plV_frz(b:Nat)(es:List (List V))(l:List (List StR)):(plV l).map (List.map (frzV b es))=plV l:=by
  simp [plV,frzV]
end Go.Proofs.YtnablpehkeicmaaGreat
