import Derived.Test.YtppbjbfilkileaaW2
import Derived.Test.YtppbjbfilkileaaGAF
set_option linter.unusedSimpArgs false
set_option linter.unusedVariables false
/- contracts: where a girder is bent most, in the program -/
namespace Go.Proofs.Ytppbjbfilkileaa
open Go.RowKit
attribute [local irreducible] WA WOs WDs WAn qThen qBlock tput
set_option maxHeartbeats 1000000
set_option maxRecDepth 20000
set_option linter.unusedSimpArgs false
set_option linter.unusedVariables false
set_option maxHeartbeats 4000000

theorem pworst_c(a b w:Int)(ls:List Ld)(h:BeamOk a b ls)(hl:ls.length≤12)(m:Mem):Gives Try.prog 22 [.agg [.int .i64 a,.int .i64 b,.int .i64 w,.lst (ldsV ls)]] m (.tup [.int .i64 (wrst a b ls (sL ls) ls.length).1,.int .i64 (wrst a b ls (sL ls) ls.length).2]):=by
  have hla:(ldsV (sL ls)).length=ls.length:=by rw [ldsV_length,sL_len]
  have hga:=hla
  have hbe:=hla
  have hmem:=(sL_ok ls).2
  have hsl:=sL_len ls
  have hb0:=fun x hx=>benA_bd h (x:=x) hx
  refine Gives_in Try.func22 rfl Try.ntmps22 Try.results22 (by kernel_rfl) (by simp) rfl fun Q hQ=>?_
  (have FX:=And.intro hla hga;repeat'(first|(refine sx ?_ ?_<;>intro h<;>first|(exfalso;omega)|skip)|(refine g_op ?_;refine g_call ?_;refine g_args ?_;(first|refine s_fn (svalues_c ls _) ?_|refine s_fn (wsorted_c ls hl _) ?_|refine s_fn (hbe _) ?_)<;>try first|omega|assumption)|refine ny ?_|refine WA_block ?_))
  refine WA_whileK (σ:=Nat) [1,2,3,15,16,17] (fun i=>[.ptr (lend m).length 0 0,.int .i64 (wrst a b ls (sL ls) i).1,.int .i64 (wrst a b ls (sL ls) i).2,.lst (ldsV (sL ls)),.int .i64 ls.length,.int .i64 i]) (fun _=>[.cells .own 61 4 [[.int .i64 a,.int .i64 b,.int .i64 w,.lst (ldsV ls)]]]) 1 (fun i=>i≤ls.length∧ -1000000000000000000≤(wrst a b ls (sL ls) i).2∧(wrst a b ls (sL ls) i).2≤1000000000000000000) (fun i=>ls.length - i) 0 ⟨Nat.zero_le _,by rw [wrst];dsimp only;omega⟩ (by rw [wrst];exact tv_) rfl (fun _=>rfl) (by intro s s' _ _;simp [conB,conS,V.keeps,V.plain,Blk.flat,flatL,plainL,V.flat]) (by intro s s' _ _;simp [conB,conS,V.keeps,V.plain,Blk.flat,flatL,plainL,V.flat]) ?_
  rintro i ⟨hi1,hw1⟩ K hK
  simp only [zipT]
  clear FX hga hbe
  rcases Nat.lt_or_ge i ls.length with hi|hi
  · have hga:=lds_get (l:=sL ls) (i:=i) (by omega)
    have hpm:=(hmem _).1 (getD_mem (l:=sL ls) (k:=i) (by omega))
    have hpx:=(h.hok _ hpm).1
    have hbe:=fun m=>bending_c a b w ls h ((sL ls).getD i ld0).1 hpx m
    have hbb:=hb0 _ hpx
    have hws:wrst a b ls (sL ls) (i+1)=if i=0∨(wrst a b ls (sL ls) i).2.natAbs<(benA a b ls ((sL ls).getD i ld0).1).natAbs then (((sL ls).getD i ld0).1,benA a b ls ((sL ls).getD i ld0).1) else wrst a b ls (sL ls) i:=rfl
    have hnx:=hK (i+1)
    rw [hws] at hnx
    have hny:=fun(_:Unit)=>hnx
    have hbd:sumF (fA b) ls ls.length * (((sL ls).getD i ld0).1 - a) - sumF (beF a b ((sL ls).getD i ld0).1) ls ls.length=benA a b ls ((sL ls).getD i ld0).1:=rfl
    rw [hbd] at hbe
    clear hK hws hnx hbd
    generalize benA a b ls ((sL ls).getD i ld0).1=n at *
    generalize (sL ls).getD i ld0=x at *
    generalize wrst a b ls (sL ls) i=W at *
    obtain⟨at_,mo⟩:=W
    obtain⟨px,pw⟩:=x
    unfold ldV at hga
    dsimp only at hga hny hbe hw1
    (have FX:=And.intro hla hga;repeat'(first|(refine sx ?_ ?_<;>intro h<;>first|(exfalso;omega)|skip)|(refine g_op ?_;refine g_call ?_;refine g_args ?_;(first|refine s_fn (svalues_c ls _) ?_|refine s_fn (wsorted_c ls hl _) ?_|refine s_fn (hbe _) ?_)<;>try first|omega|assumption)|refine ny ?_|refine WA_block ?_))
    all_goals(try(exfalso;omega))
    all_goals first
      | (have hc:i=0∨mo.natAbs<n.natAbs:=by omega
         simp only [if_pos hc] at hny
         refine nextL_ hny () ⟨hi,by omega⟩ (by omega)
         done)
      | (have hc:¬ (i=0∨mo.natAbs<n.natAbs):=by omega
         simp only [if_neg hc] at hny
         refine nextL_ hny () ⟨hi,by omega⟩ (by omega)
         done)
  · obtain rfl:i=ls.length:=by omega
    have hga:=hla
    have hbe:=hla
    (have FX:=And.intro hla hga;repeat'(first|(refine sx ?_ ?_<;>intro h<;>first|(exfalso;omega)|skip)|(refine g_op ?_;refine g_call ?_;refine g_args ?_;(first|refine s_fn (svalues_c ls _) ?_|refine s_fn (wsorted_c ls hl _) ?_|refine s_fn (hbe _) ?_)<;>try first|omega|assumption)|refine ny ?_|refine WA_block ?_))
    all_goals(try(exfalso;omega))
    all_goals(refine r_es hQ ?_;try with_reducible rfl)
end Go.Proofs.Ytppbjbfilkileaa
namespace Go.Proofs.Ytppbjbfilkileaa
/-- the place found among those below x -/
def rWI(a b:Int)(ls:List Ld)(x at_:Int):Prop:=(a≤at_∧at_≤b)∧(at_=a∨(∃ p∈ls,p.1=at_)∧at_<x∧∀ p∈ls,p.1<at_→(benA a b ls p.1).natAbs<(benA a b ls at_).natAbs)∧∀ p∈ls,p.1<x→(benA a b ls p.1).natAbs≤(benA a b ls at_).natAbs
/-- is a load at x, among the first -/
def lde(ls:List Ld)(x:Int):Nat→Bool
  |0=>false
  |i+1=>lde ls x i || decide ((ls.getD i ld0).1=x)
theorem lde_iff{ls:List Ld}{x:Int}:∀ {i:Nat},lde ls x i=true↔∃ j,j<i∧(ls.getD j ld0).1=x
  |0=>by simp [lde]
  | i +1=>by
    rw [lde,Bool.or_eq_true,lde_iff]
    constructor
    · rintro(⟨j,h1,h2⟩|h)
      · exact⟨j,by omega,h2⟩
      · exact⟨i,by omega,of_decide_eq_true h⟩
    · rintro⟨j,h1,h2⟩
      by_cases hj:j=i
      · subst hj;exact .inr (decide_eq_true h2)
      · exact .inl ⟨j,by omega,h2⟩
theorem lde_all{ls:List Ld}{x:Int}:lde ls x ls.length=true↔∃ p∈ls,p.1=x:=by
  rw [lde_iff]
  constructor
  · rintro⟨j,h1,h2⟩
    exact⟨_,getD_mem h1,h2⟩
  · rintro⟨p,hp,h⟩
    obtain⟨j,hj,rfl⟩:=List.getElem_of_mem hp
    exact⟨j,hj,by rw [List.getD_eq_getElem?_getD,List.getElem?_eq_getElem hj];exact h⟩
theorem rWI_start{a b:Int}{ls:List Ld}(h:BeamOk a b ls):rWI a b ls a a:=by
  have:=h.hab
  exact⟨by omega,.inl rfl,fun p hp hx=>by have:=(h.hok p hp).1;omega⟩
theorem rWI_yes{a b:Int}{ls:List Ld}{x at_:Int}(h:rWI a b ls x at_)(hx:a≤x∧x≤b)(hl:lde ls x ls.length=true)(hg:(benA a b ls at_).natAbs<(benA a b ls x).natAbs):rWI a b ls (x+1) x:=by
  obtain⟨_,_,h3⟩:=h
  refine⟨hx,.inr ⟨lde_all.1 hl,by omega,fun p hp hlt=>?_⟩,fun p hp hlt=>?_⟩
  · have:=h3 p hp hlt;omega
  · by_cases e:p.1=x
    · rw [e];exact Nat.le_refl _
    · have:=h3 p hp (by omega);omega
theorem rWI_no{a b:Int}{ls:List Ld}{x at_:Int}(h:rWI a b ls x at_)(hn:lde ls x ls.length=true→(benA a b ls x).natAbs≤(benA a b ls at_).natAbs):rWI a b ls (x+1) at_:=by
  obtain⟨h1,h2,h3⟩:=h
  refine⟨h1,?_,fun p hp hlt=>?_⟩
  · rcases h2 with h2|⟨g1,g2,g3⟩
    · exact .inl h2
    · exact .inr ⟨g1,by omega,g3⟩
  · by_cases e:p.1=x
    · have:=hn (lde_all.2 ⟨p,hp,e⟩)
      rw [e];exact this
    · exact h3 p hp (by omega)
/-- the first place of a load -/
def mnL(b:Int)(ls:List Ld):Nat→Int
  |0=>b
  |i+1=>if (ls.getD i ld0).1<mnL b ls i then (ls.getD i ld0).1 else mnL b ls i
theorem mnL_le{b:Int}{ls:List Ld}:∀ {i:Nat},mnL b ls i≤b∧∀ j,j<i→mnL b ls i≤(ls.getD j ld0).1
  |0=>⟨Int.le_refl _,fun j hj=>absurd hj (Nat.not_lt_zero _)⟩
  | i +1=>by
    obtain⟨h1,h2⟩:=mnL_le (b:=b) (ls:=ls) (i:=i)
    rw [mnL]
    split
    · rename_i h
      refine⟨by omega,fun j hj=>?_⟩
      by_cases e:j=i
      · subst e;exact Int.le_refl _
      · have:=h2 j (by omega);omega
    · rename_i h
      refine⟨h1,fun j hj=>?_⟩
      by_cases e:j=i
      · subst e;omega
      · exact h2 j (by omega)
theorem mnL_at{b:Int}{ls:List Ld}:∀ {i:Nat},mnL b ls i=b∨∃ j,j<i∧(ls.getD j ld0).1=mnL b ls i
  |0=> .inl rfl
  | i +1=>by
    rw [mnL]
    split
    · exact .inr ⟨i,by omega,rfl⟩
    · rcases mnL_at (b:=b) (ls:=ls) (i:=i) with h|⟨j,h1,h2⟩
      · exact .inl h
      · exact .inr ⟨j,by omega,h2⟩
theorem rWI_some{a b:Int}{ls:List Ld}(hb:BeamOk a b ls){at_:Int}(h:rWI a b ls (b+1) at_)(hn:ls=[]∨benA a b ls at_≠0):IsW a b ls at_:=by
  obtain⟨h1,h2,h3⟩:=h
  have hA:=benA_a hb
  by_cases he:ls=[]
  · refine .inl ⟨he,?_⟩
    rcases h2 with h2|⟨⟨p,hp,_⟩,_⟩
    · exact h2
    · rw [he] at hp;cases hp
  · have hn:benA a b ls at_≠0:=hn.resolve_left he
    rcases h2 with h2|⟨g1,g2,g3⟩
    · rw [h2] at hn;exact absurd hA hn
    · refine .inr ⟨g1,fun p hp=>?_⟩
      have:=(hb.hok p hp).1
      have q1:=h3 p hp (by omega)
      by_cases hlt:p.1<at_
      · exact .inl (g3 p hp hlt)
      · omega
theorem rWI_none{a b:Int}{ls:List Ld}(hb:BeamOk a b ls){at_:Int}(h:rWI a b ls (b+1) at_)(he:ls≠[])(hn:benA a b ls at_=0):IsW a b ls (mnL b ls ls.length):=by
  obtain⟨h1,h2,h3⟩:=h
  obtain⟨m1,m2⟩:=mnL_le (b:=b) (ls:=ls) (i:=ls.length)
  have hz:∀ p∈ls,(benA a b ls p.1).natAbs=0:=fun p hp=>by
    have:=(hb.hok p hp).1
    have:=h3 p hp (by omega)
    rw [hn] at this
    simpa using this
  have hm:∀ p∈ls,mnL b ls ls.length≤p.1:=fun p hp=>by
    obtain⟨j,hj,rfl⟩:=List.getElem_of_mem hp
    have:=m2 j hj
    rw [List.getD_eq_getElem?_getD,List.getElem?_eq_getElem hj] at this
    exact this
  have hx:∃ p∈ls,p.1=mnL b ls ls.length:=by
    rcases mnL_at (b:=b) (ls:=ls) (i:=ls.length) with h|⟨j,q1,q2⟩
    · obtain⟨p,r,rfl⟩:=List.exists_cons_of_ne_nil he
      have:=hm p List.mem_cons_self
      have:=(hb.hok p List.mem_cons_self).1
      exact⟨p,List.mem_cons_self,by omega⟩
    · exact⟨_,getD_mem q1,q2⟩
  refine .inr ⟨hx,fun p hp=> .inr ⟨?_,hm p hp⟩⟩
  obtain⟨q,hq,e⟩:=hx
  rw [←e,hz p hp,hz q hq]
/-- what is taken to lowest terms, told back -/
theorem low_back{n d:Int}(hd:0<d):∃ g:Int,0<g∧(lowF n d).1 * g=n∧(lowF n d).2 * g=d∧d.tdiv (lowF n d).2=g∧0<(lowF n d).2∧((lowF n d).1.natAbs:Int) * g=n.natAbs:=by
  have hg:0<Int.gcd n d:=Int.gcd_pos_iff.2 (.inr (by omega))
  refine⟨(Int.gcd n d:Int),by omega,?_,?_,?_,?_,?_⟩
  · exact Int.tdiv_mul_cancel (Int.gcd_dvd_left ..)
  · exact Int.ediv_mul_cancel (Int.gcd_dvd_right ..)
  · have e:(lowF n d).2 * (Int.gcd n d:Int)=d:=Int.ediv_mul_cancel (Int.gcd_dvd_right ..)
    have h2:(lowF n d).2≠0:=fun h=>by rw [h] at e;omega
    have:=Int.mul_tdiv_cancel_left (Int.gcd n d:Int) h2
    rw [e] at this
    exact this
  · have e:(lowF n d).2 * (Int.gcd n d:Int)=d:=Int.ediv_mul_cancel (Int.gcd_dvd_right ..)
    exact Int.ediv_pos_of_pos_of_dvd hd (by omega) (Int.gcd_dvd_right ..)
  · have e:(lowF n d).1 * (Int.gcd n d:Int)=n:=Int.tdiv_mul_cancel (Int.gcd_dvd_left ..)
    have:=congrArg Int.natAbs e
    rw [Int.natAbs_mul,Int.natAbs_natCast] at this
    exact_mod_cast this
end Go.Proofs.Ytppbjbfilkileaa
