import Derived.Test.YtookikhphobnlaaGreatDoorGAD
import Derived.Lib.ItoaLen
set_option linter.unusedSimpArgs false
set_option linter.unusedVariables false
/- contracts: the reference's decimal writing -/
namespace Go.Proofs.YtookikhphobnlaaGreatDoor
open Go.RowKit
attribute [local irreducible] WA WOs WDs WAn qThen qBlock tput
set_option maxHeartbeats 1000000
set_option maxRecDepth 20000
set_option linter.unusedSimpArgs false
set_option linter.unusedVariables false
set_option maxHeartbeats 4000000
/-- what is to be written yet, and behind it what is written -/
def dS(m:Nat)(s:Txt):Txt:=if m=0 then s else Lib.decDigits m++s
theorem dS_step{m:Nat}(h:m≠0)(s:Txt):dS m s=dS (m / 10) (UInt8.ofNat (48+m % 10)::s):=by
  unfold dS
  rw [if_neg h]
  by_cases h9:m<10
  · rw [if_pos (by omega),Lib.decDigits,dif_pos h9,Nat.mod_eq_of_lt h9];rfl
  · rw [if_neg (by omega),Lib.decDigits,dif_neg h9,List.append_assoc];rfl
theorem u8_of{d:Nat}(h:d<256):((UInt8.ofNat d).toNat:Int)=d:=by
  rw [UInt8.toNat_ofNat'];omega
theorem itoa_dS{n:Int}(h:n≠0):Lib.itoa n=if n<0 then 45::dS n.natAbs [] else dS n.natAbs []:=by
  unfold Lib.itoa dS
  have h1:¬ n.natAbs=0:=by omega
  simp only [h1,if_false,List.append_nil]
  split
  · rfl
  · rw [show n.toNat=n.natAbs by omega]
theorem dS_len(m:Nat)(s:Txt):s.length≤(dS m s).length:=by
  unfold dS
  split
  · exact Nat.le_refl _
  · rw [List.length_append];omega
theorem dS_len20{m:Nat}(h:m≤9223372036854775808):(dS m []).length≤20:=by
  unfold dS
  split
  · simp
  · rw [List.append_nil,Lib.decDigits_length];exact Lib.nDigits_le20 m (by omega)
theorem app_last{B:Mem}{x:Blk}:(B++[x])[B.length]?=some x:=by simp
def deS(n:Int)(s:Int×Txt):List TV:=[.v (.int .i64 n),.v (.int .i64 s.1),.v (.str s.2)]

theorem bdec_c(n:Int)(hn:n.natAbs≤9223372036854775808)(m:Mem):Gives Tryz.prog 39 [.int .i64 n] m (.str (Lib.itoa n)):=by
  suffices key:CallA Tryz.prog 39 [.int .i64 n] m (fun v mo=>mo=none∧WkV v (.str (Lib.itoa n))) from Gives_ofX key fun v mo h=>h
  refine CallA_in Tryz.func39 rfl Tryz.ntmps39 Tryz.results39 (by kernel_rfl) (by simp) fun Q hQ=>?_
  (repeat'(first|(refine sx ?_ ?_<;>intro h<;>first|(exfalso;omega)|skip)|refine ny ?_|refine WA_block ?_))
  · subst h
    refine r_esA hQ (v':= .str [48]) (.inl ⟨rfl,rfl,?_⟩)
    exact(show Lib.itoa 0=[48] from(show Lib.itoa 0=Lib.decDigits 0 from rfl).trans (by rw [Lib.decDigits];rfl)) ▸ WkV.refl _
  · rw [itoa_dS h] at hQ
    refine WA_whileT (σ:=Int×Txt) (L:=lend m) [0,4,3] (deS n) (fun _=>[]) (fun s=>s.1.natAbs≤n.natAbs∧dS s.1.natAbs s.2=dS n.natAbs []) (fun s=>s.1.natAbs) (n,[]) ⟨Nat.le_refl _,rfl⟩ (by simp only [deS,List.map_cons,List.map_nil,TV.inst];exact tv_) rfl (by decide) (fun _ _=>rfl) (fun _ _=>rfl) ?_
    rintro⟨u,s⟩ ⟨hu,hs⟩ B ⟨D,hB⟩ K hK
    dsimp only at hu hs
    simp only [deS]
    have hd:(u.tmod 10).natAbs=u.natAbs % 10:=Int.natAbs_tmod u 10
    have hq:(u.tdiv 10).natAbs=u.natAbs / 10:=Int.natAbs_tdiv u 10
    have hab:=fun m=>babs_c (u.tmod 10) (by omega) (by omega) m
    rw [hd] at hab
    have hb9:u.natAbs % 10<10:=Nat.mod_lt _ (by decide)
    have hst:=fun(h:u≠0)=>dS_step (m:=u.natAbs) (by omega) s
    generalize u.natAbs % 10=c at hd hb9 hab hst
    have hsl:s.length≤20:=Nat.le_trans (dS_len u.natAbs s) (hs ▸ dS_len20 hn)
    have hw8:IntKind.u8.wrap (48+(c:Int))=((UInt8.ofNat (48+c)).toNat:Int):=by
      rw [u8_of (d:=48+c) (by omega)]
      simp [IntKind.wrap,IntKind.bits,IntKind.signed]
      omega
    have h8:=u8_of (d:=48+c) (by omega)
    simp only [List.map_cons,List.map_nil,TB.inst,TV.inst,tv_map,zipT,List.cons_append,List.nil_append,Nat.add_zero]
    (have FX:=And.intro hb9 hsl;repeat'(first|(refine sx ?_ ?_<;>intro h<;>first|(exfalso;omega)|skip)|(refine g_op ?_;refine g_call ?_;refine g_args ?_;(first|refine s_fn (hab _) ?_)<;>try first|omega|assumption)|refine ny ?_|refine WA_block ?_))
    · refine g_op ?_
      refine s_bk (c:=UInt8.ofNat (48+c)) ?_ hw8 (by exact lk_) app_last rfl (by kernel_rfl)
      (have FX:=And.intro hb9 hsl;repeat'(first|(refine sx ?_ ?_<;>intro h<;>first|(exfalso;omega)|skip)|(refine g_op ?_;refine g_call ?_;refine g_args ?_;(first|refine s_fn (hab _) ?_)<;>try first|omega|assumption)|refine ny ?_|refine WA_block ?_))
      exact hK (u.tdiv 10,UInt8.ofNat (48+c)::s) [] _ _ ⟨_,rfl,by simp only [deS,List.map_cons,List.map_nil,TV.inst];exact tv_,rfl,List.nodup_nil⟩ ⟨by dsimp only;omega,by dsimp only;rw [hq,←hst h];exact hs⟩ (by dsimp only;omega)
    all_goals(obtain rfl:u=0:=by assumption)
    all_goals(rw [show dS (Int.natAbs 0) s=s from rfl] at hs;rw [←hs] at hQ)
    · rw [if_pos (by assumption)] at hQ
      exact r_esA hQ (v':= .str (45::s)) (.inl ⟨rfl,rfl,WkV.refl _⟩)
    · rw [if_neg (by assumption)] at hQ
      exact r_esA hQ (v':= .str s) (.inl ⟨rfl,rfl,WkV.refl _⟩)
def frP(s:Txt):Nat:=if s.head?=some 45 then 1 else 0
def valD(acc:Nat)(l:Txt):Nat:=l.foldl (fun a c=>10 * a+(c.toNat - 48)) acc
def allD(l:Txt):Prop:=∀ c∈l,48≤c.toNat∧c.toNat≤57
theorem valD_lt:∀ (l:Txt) (acc:Nat),allD l→valD acc l<(acc+1) * 10 ^ l.length
  |[],acc,_=>by show acc<_;simp
  | c::r,acc,h=>by
    have hc:=h c List.mem_cons_self
    have:=valD_lt r (10 * acc+(c.toNat - 48)) fun x hx=>h x (List.mem_cons_of_mem _ hx)
    show valD (10 * acc+(c.toNat - 48)) r<_
    rw [List.length_cons,Nat.pow_succ]
    have h2:(10 * acc+(c.toNat - 48)+1) * 10 ^ r.length≤(10 * (acc+1)) * 10 ^ r.length:=Nat.mul_le_mul_right _ (by omega)
    have h3:(acc+1) * (10 ^ r.length * 10)=(10 * (acc+1)) * 10 ^ r.length:=by grind
    omega
theorem pu_ok:∀ (l:Txt) (acc:Nat),allD l→(acc+1) * 10 ^ l.length≤10 ^ 18→Lib.parseUint10 acc l= .ok (valD acc l)
  |[],acc,_,_=>rfl
  | c ::r,acc,h,hb=>by
    have hc:=h c List.mem_cons_self
    have h2:(acc * 10+(c.toNat - 48)+1) * 10 ^ r.length≤10 ^ 18:=by
      rw [List.length_cons,Nat.pow_succ] at hb
      have h2:(acc * 10+(c.toNat - 48)+1) * 10 ^ r.length≤(10 * (acc+1)) * 10 ^ r.length:=Nat.mul_le_mul_right _ (by omega)
      have h3:(acc+1) * (10 ^ r.length * 10)=(10 * (acc+1)) * 10 ^ r.length:=by grind
      omega
    have h4:acc * 10+(c.toNat - 48)+1≤10 ^ 18:=Nat.le_trans (Nat.le_mul_of_pos_right _ (Nat.pow_pos (by decide))) h2
    have ih:=pu_ok r (acc * 10+(c.toNat - 48)) (fun x hx=>h x (List.mem_cons_of_mem _ hx)) h2
    have he:valD acc (c::r)=valD (acc * 10+(c.toNat - 48)) r:=by
      show valD (10 * acc+(c.toNat - 48)) r=_
      rw [Nat.mul_comm]
    rw [Lib.parseUint10,if_pos ⟨by omega,by omega⟩,if_neg (by omega),if_neg (by omega),ih,he]
theorem pu_bad:∀ (l:Txt) (acc v:Nat),¬ allD l→Lib.parseUint10 acc l≠ .ok v
  |[],acc,v,h=>absurd (fun c hc=>by cases hc) h
  | c ::r,acc,v,h=>by
    rw [Lib.parseUint10]
    split
    · rename_i hc
      split
      · simp
      · split
        · simp
        · refine pu_bad r _ v fun hr=>h fun x hx=>?_
          rcases List.mem_cons.1 hx with rfl|hx
          · exact hc
          · exact hr x hx
    · simp
theorem pm_ok{l:Txt}(h0:l≠[])(hl:l.length≤18)(h:allD l):Lib.parseMag l= .ok (valD 0 l):=by
  unfold Lib.parseMag
  rw [if_neg h0]
  exact pu_ok l 0 h (by rw [Nat.zero_add,Nat.one_mul];exact Nat.pow_le_pow_right (by decide) hl)
theorem pm_bad{l:Txt}(h:¬ (l≠[]∧allD l))(v:Nat):Lib.parseMag l≠ .ok v:=by
  unfold Lib.parseMag
  split
  · simp
  · rename_i h0
    exact pu_bad l 0 v fun h2=>h ⟨h0,h2⟩
theorem at_ok{c:UInt8}{r:Txt}{u:Nat}(h:Lib.parseMag (if c.toNat=43∨c.toNat=45 then r else c::r)= .ok u)(hu:u<10 ^ 18):Lib.atoiAll (c::r)= .ok (if c.toNat=45 then -(u:Int) else u):=by
  unfold Lib.atoiAll
  simp only [h]
  rw [if_neg (by omega),if_neg (by omega)]
theorem at_of{c:UInt8}{r:Txt}{n:Int}(h:Lib.atoiAll (c::r)= .ok n):∃ u,Lib.parseMag (if c.toNat=43∨c.toNat=45 then r else c::r)= .ok u:=by
  cases hp:Lib.parseMag (if c.toNat=43∨c.toNat=45 then r else c::r)
  · exact⟨_,rfl⟩
  · unfold Lib.atoiAll at h;simp only [hp] at h;cases h
  · unfold Lib.atoiAll at h;simp only [hp] at h;cases h
theorem dec_dig (u:Nat):allD (Lib.decDigits u):=by
  induction u using Nat.strongRecOn with
  | _ u ih=>
    intro c hc
    rw [Lib.decDigits] at hc
    split at hc
    · obtain rfl:=List.mem_singleton.1 hc
      have:=u8_of (d:=48+u) (by omega)
      omega
    · rcases List.mem_append.1 hc with hc|hc
      · exact ih (u / 10) (by omega) c hc
      · obtain rfl:=List.mem_singleton.1 hc
        have:=u8_of (d:=48+u % 10) (by omega)
        omega
theorem itoa_plus{n:Int}{c:UInt8}{r:Txt}(hc:c.toNat=43):Lib.itoa n≠c::r:=by
  intro h
  unfold Lib.itoa at h
  split at h
  · injection h with h1 h2
    subst h1
    exact absurd hc (by decide)
  · have:=dec_dig n.toNat c (by rw [h];exact List.mem_cons_self)
    omega
/-- the number that a text's digits tell -/
def nV(s:Txt):Int:=if frP s=1 then -(valD 0 (s.drop (frP s)):Int) else valD 0 (s.drop (frP s))
def nGood(d:Nat)(s:Txt):Prop:=s.length≠frP s∧s.length≤frP s+d∧allD (s.drop (frP s))
theorem numP_good {d:Nat} (hd:d≤18) {s:Txt} (h:nGood d s):numP d s=if Lib.itoa (nV s)=s then some (nV s) else none:=by
  obtain⟨h1,h2,h3⟩:=h
  cases s with
  |nil=>exact absurd rfl h1
  | cons c r=>
    by_cases hc:c=45
    · subst hc
      have hf:frP (45::r)=1:=rfl
      have hv:nV (45::r)= -(valD 0 r:Int):=rfl
      rw [hf] at h1 h2 h3
      have h3':allD r:=h3
      rw [List.length_cons] at h1 h2
      have hp:=pm_ok (l:=r) (fun e=>by subst e;simp at h1) (by omega) h3'
      have hlt:=valD_lt r 0 h3'
      have hle:10 ^ r.length≤10 ^ 18:=Nat.pow_le_pow_right (by decide) (by omega)
      have ha:=at_ok (c:=45) (r:=r) (u:=valD 0 r) hp (by omega)
      rw [if_pos (by decide)] at ha
      have ht:Lib.trimPrefix (45::r) [45]=r:=by simp [Lib.trimPrefix,Lib.hasPrefix]
      unfold numP
      rw [ha,hv,ht]
      dsimp only
      by_cases he:Lib.itoa (-(valD 0 r:Int))=45::r
      · rw [if_pos ⟨he,by omega⟩,if_pos he]
      · rw [if_neg (fun q=>he q.1),if_neg he]
    · have hf:frP (c::r)=0:=by simp [frP,hc]
      have hv:nV (c::r)=(valD 0 (c::r):Int):=by simp [nV,hf]
      rw [hf] at h1 h2 h3
      have h3':allD (c::r):=h3
      have hcd:=h3' c List.mem_cons_self
      have hp:=pm_ok (l:=c::r) (by simp) (by omega) h3'
      have hlt:=valD_lt (c::r) 0 h3'
      have hle:10 ^ (c::r).length≤10 ^ 18:=Nat.pow_le_pow_right (by decide) (by omega)
      have ha:=at_ok (c:=c) (r:=r) (u:=valD 0 (c::r)) (by rw [if_neg (by omega)];exact hp) (by omega)
      rw [if_neg (by omega)] at ha
      have ht:Lib.trimPrefix (c::r) [45]=c::r:=by
        have:¬ (45:UInt8)=c:=fun e=>hc e.symm
        simp [Lib.trimPrefix,Lib.hasPrefix,this]
      unfold numP
      rw [ha,hv,ht]
      dsimp only
      by_cases he:Lib.itoa (valD 0 (c::r):Int)=c::r
      · rw [if_pos ⟨he,by omega⟩,if_pos he]
      · rw [if_neg (fun q=>he q.1),if_neg he]
theorem numP_bad {d:Nat} {s:Txt} (h:¬ nGood d s):numP d s=none:=by
  unfold numP
  cases ha:Lib.atoiAll s
  rotate_left
  · rfl
  · rfl
  · rename_i n
    dsimp only
    refine if_neg fun⟨h1,h2⟩=>h ?_
    cases s with
    |nil=>cases ha
    | cons c r=>
      obtain⟨u,hu⟩:=at_of ha
      by_cases h43:c.toNat=43
      · exact absurd h1 (itoa_plus h43)
      by_cases hc:c=45
      · subst hc
        rw [if_pos (.inr (by decide))] at hu
        have ht:Lib.trimPrefix (45::r) [45]=r:=by simp [Lib.trimPrefix,Lib.hasPrefix]
        rw [ht] at h2
        have hg:r≠[]∧allD r:=Classical.byContradiction fun q=>pm_bad q u hu
        have hr:r.length≠0:=fun e=>hg.1 (List.length_eq_zero_iff.1 e)
        exact⟨by show r.length+1≠1;omega,by show r.length+1≤1+d;omega,hg.2⟩
      · have h45:¬ c.toNat=45:=fun e=>hc (UInt8.toNat_inj.1 e)
        rw [if_neg (by omega)] at hu
        have ht:Lib.trimPrefix (c::r) [45]=c::r:=by
          have:¬ (45:UInt8)=c:=fun e=>hc e.symm
          simp [Lib.trimPrefix,Lib.hasPrefix,this]
        rw [ht] at h2
        have hf:frP (c::r)=0:=by simp [frP,hc]
        have hg:c::r≠[]∧allD (c::r):=Classical.byContradiction fun q=>pm_bad q u hu
        refine⟨by rw [hf];simp,by rw [hf];omega,?_⟩
        rw [hf];exact hg.2
theorem valD_snoc(l:Txt)(c:UInt8)(acc:Nat):valD acc (l++[c])=10 * valD acc l+(c.toNat - 48):=by
  unfold valD;rw [List.foldl_append];rfl
theorem allD_snoc{l:Txt}{c:UInt8}(h:allD l)(hc:48≤c.toNat∧c.toNat≤57):allD (l++[c]):=fun x hx=>by
  rcases List.mem_append.1 hx with hx|hx
  · exact h x hx
  · obtain rfl:=List.mem_singleton.1 hx
    exact hc
/-- the digits that are read -/
def rdD(s:Txt)(i:Nat):Txt:=(s.take i).drop (frP s)
theorem rdD_snoc{s:Txt}{i:Nat}(hi:i<s.length)(hf:frP s≤i):rdD s (i+1)=rdD s i++[s.getD i 0]:=by
  unfold rdD
  rw [List.take_succ_eq_append_getElem hi,List.drop_append_of_le_length (by rw [List.length_take];omega),List.getD_eq_getElem?_getD,List.getElem?_eq_getElem hi];rfl
theorem rdD_len{s:Txt}{i:Nat}(hi:i≤s.length):(rdD s i).length=i - frP s:=by
  unfold rdD;rw [List.length_drop,List.length_take];omega
theorem rdD_all{s:Txt}:rdD s s.length=s.drop (frP s):=by unfold rdD;rw [List.take_length]
theorem rdD_bad{s:Txt}{i d:Nat}(hi:i<s.length)(hf:frP s≤i)(h:¬ (48≤(s.getD i 0).toNat∧(s.getD i 0).toNat≤57)):¬ nGood d s:=fun q=>by
  refine h (q.2.2 _ ?_)
  have e:=rdD_snoc hi hf
  have h2:s.getD i 0∈rdD s (i+1):=by rw [e];simp
  unfold rdD at h2
  exact List.mem_of_mem_take (i:=i+1 - frP s) (by rwa [List.drop_take] at h2)
theorem valD_10{l:Txt}{k:Nat}(h:allD l)(hl:l.length≤k):valD 0 l<10 ^ k:=by
  have:=valD_lt l 0 h
  rw [Nat.zero_add,Nat.one_mul] at this
  exact Nat.lt_of_lt_of_le this (Nat.pow_le_pow_right (by decide) hl)
theorem wr_dig{c a:Nat}(h:48≤c∧c≤57)(ha:a<10 ^ 17):IntKind.i64.wrap (10 * (a:Int)+IntKind.i64.wrap (IntKind.u8.wrap ((c:Int) - 48)))=((10 * a+(c - 48):Nat):Int):=by
  have e1:IntKind.u8.wrap ((c:Int) - 48)=((c - 48:Nat):Int):=by
    simp [IntKind.wrap,IntKind.bits,IntKind.signed]
    omega
  have e2:∀ x:Int,0≤x→x<10 ^ 18→IntKind.i64.wrap x=x:=fun x h1 h2=>by
    simp [IntKind.wrap,IntKind.bits,IntKind.signed]
    omega
  rw [e1,e2 ((c - 48:Nat):Int) (by omega) (by omega),e2 _ (by omega) (by omega)]
  omega

theorem bnum_c (s:Txt) (d:Nat) (hd:d≤18) (hs:s.length≤100000) (m:Mem):CallA Tryz.prog 37 [.str s,.int .i64 d] m (fun v mo=>mo=none∧∃ n,v= .tup [.int .i64 n,.bool (decide ((numP d s).isSome))]∧∀ k,numP d s=some k→n=k):=by
  refine CallA_in Tryz.func37 rfl Tryz.ntmps37 Tryz.results37 (by kernel_rfl) (by simp) fun Q hQ=>?_
  by_cases h0:s=[]
  · subst h0
    have hg:¬ nGood d []:=fun q=>q.1 rfl
    rw [numP_bad hg] at hQ
    (repeat'(first|(refine sx ?_ ?_<;>intro h<;>first|(exfalso;omega)|skip)|refine ny ?_|refine WA_block ?_))
    all_goals(try(exfalso;omega))
    all_goals exact r_esA hQ (v':= .tup [.int .i64 0,.bool false]) (.inl ⟨rfl,rfl,0,rfl,fun k hk=>by cases hk⟩)
  · obtain⟨c,r,hsc⟩:∃ c r,s=c::r:=by cases s with|nil=>exact absurd rfl h0|cons c r=>exact⟨c,r,rfl⟩
    have hc0:s[0]?=some c:=by rw [hsc];rfl
    have hl:s.length=r.length+1:=by rw [hsc];rfl
    have hfr:frP s=if c=45 then 1 else 0:=by rw [hsc];simp [frP]
    obtain⟨f,hf,hcf⟩:∃ f:Nat,frP s=f∧(((c.toNat:Int)=45∧f=1)∨(¬ (c.toNat:Int)=45∧f=0)):=by
      refine⟨_,rfl,?_⟩
      rw [hfr]
      by_cases e:c=45
      · rw [if_pos e];subst e;exact .inl ⟨rfl,rfl⟩
      · rw [if_neg e]
        refine .inr ⟨fun q=>e (UInt8.toNat_inj.1 (by show c.toNat=45;omega)),rfl⟩
    have hng:(s.length=f∨f+d<s.length)→¬ nGood d s:=fun h q=>by have:=q.1;have:=q.2.1;rw [hf] at *;omega
    clear hsc h0 hfr
    rcases hcf with ⟨hcz,rfl⟩|⟨hcz,rfl⟩
    all_goals(have FX:=hc0;repeat'(first|(refine sx ?_ ?_<;>intro h<;>first|(exfalso;omega)|skip)|refine ny ?_|refine WA_block ?_))
    all_goals(try(exfalso;omega))
    all_goals try
      (rw [numP_bad (hng (by omega))] at hQ
       exact r_esA hQ (v':= .tup [.int .i64 0,.bool false]) (.inl ⟨rfl,rfl,0,rfl,fun k hk=>by cases hk⟩))
    all_goals first
      |refine WA_while (σ:=Nat×Nat) [0,6,7,8] (fun q=>[.str s,.int .i64 (q.2:Int),.int .i64 1,.int .i64 (q.1:Int)]) (fun _=>lend m++[]) (fun q=>(frP s≤q.1∧q.1≤s.length)∧allD (rdD s q.1)∧q.2=valD 0 (rdD s q.1)) (fun q=>s.length - q.1) (1,0) ⟨⟨by rw [hf];omega,by omega⟩,by(have e:rdD s 1=[]:=List.length_eq_zero_iff.1 (by rw [rdD_len (by omega)];omega));rw [e];exact⟨(fun c h=>by cases h),rfl⟩⟩ tv_ rfl ?_
      |refine WA_while (σ:=Nat×Nat) [0,6,7,8] (fun q=>[.str s,.int .i64 (q.2:Int),.int .i64 0,.int .i64 (q.1:Int)]) (fun _=>lend m++[]) (fun q=>(frP s≤q.1∧q.1≤s.length)∧allD (rdD s q.1)∧q.2=valD 0 (rdD s q.1)) (fun q=>s.length - q.1) (0,0) ⟨⟨by rw [hf];omega,by omega⟩,by(have e:rdD s 0=[]:=List.length_eq_zero_iff.1 (by rw [rdD_len (by omega)];omega));rw [e];exact⟨(fun c h=>by cases h),rfl⟩⟩ tv_ rfl ?_
    all_goals(
      rintro⟨i,acc⟩ ⟨⟨hi1,hi2⟩,hal,hac⟩ L hL
      dsimp only at hi1 hi2 hal hac
      simp only [zipT]
      clear FX
      have hlen:=rdD_len hi2)
    all_goals(rcases Nat.lt_or_ge i s.length with hlt|hge)
    all_goals first
      | (have hlt':i<s.length:=hlt
         have hgi:=byt_get hlt
         have hab:acc<10 ^ 17:=by rw [hac];exact valD_10 hal (by rw [hlen];omega)
         have hbd:=fun h=>rdD_bad (d:=d) hlt hi1 h
         have hsn:=rdD_snoc hlt hi1
         have hdg:digP ((s.getD i 0).toNat:Int)↔(48≤(s.getD i 0).toNat∧(s.getD i 0).toNat≤57):=by unfold digP;omega
         generalize s.getD i 0=c at *)
      |skip
    all_goals first
      | (have hlt':=hlt
         (have FX:=And.intro hgi hab;repeat'(first|(refine sx ?_ ?_<;>intro h<;>first|(exfalso;omega)|skip)|(refine g_op ?_;refine g_call ?_;refine g_args ?_;(first|refine s_fn (bisdigit_c _ _) ?_)<;>try first|omega|assumption)|refine ny ?_|refine WA_block ?_)))
      |skip
    all_goals first
      | (have hh:¬ digP (c.toNat:Int):=by assumption
         rw [numP_bad (hbd (fun q=>hh (hdg.2 q)))] at hQ
         exact r_esA hQ (v':= .tup [.int .i64 0,.bool false]) (.inl ⟨rfl,rfl,0,rfl,fun k hk=>by cases hk⟩))
      | (have hh:digP (c.toNat:Int):=by assumption
         have hc8:=hdg.1 hh
         rw [wr_dig hc8 hab]
         refine next_ hL (i+1,10 * acc+(c.toNat - 48)) ⟨⟨by dsimp only;omega,by dsimp only;omega⟩,by dsimp only;rw [hsn];exact allD_snoc hal hc8,by dsimp only;rw [hsn,valD_snoc,hac]⟩ (by dsimp only;omega)
         done)
      |(exfalso;omega)
      |skip
    all_goals(
      obtain rfl:i=s.length:=by omega
      rw [rdD_all] at hal hac
      have hg:nGood d s:=⟨by omega,by omega,hal⟩
      have hab:acc<10 ^ 18:=by rw [hac];exact valD_10 hal (by rw [List.length_drop];omega)
      have hnp:=numP_good hd hg
      have hd1:=fun m=>bdec_c (-(acc:Int)) (by omega) m
      have hd2:=fun m=>bdec_c (acc:Int) (by omega) m
      unfold nV at hnp
      rw [←hac,hf] at hnp)
    all_goals(have FX:=hab;repeat'(first|(refine sx ?_ ?_<;>intro h<;>first|(exfalso;omega)|skip)|(refine g_op ?_;refine g_call ?_;refine g_args ?_;(first|refine s_fn (hd1 _) ?_|refine s_fn (hd2 _) ?_)<;>try first|omega|assumption)|refine ny ?_|refine WA_block ?_))
    all_goals(try(exfalso;omega))
    all_goals first
      |rw [if_pos (rfl:(1:Nat)=1)] at hnp
      |rw [if_neg (by decide:¬ (0:Nat)=1)] at hnp
    all_goals first
      | (rw [if_pos (by assumption)] at hnp
         rw [hnp] at hQ
         exact r_esA hQ (v':= .tup [.int .i64 (-(acc:Int)),.bool true]) (.inl ⟨rfl,rfl,_,rfl,fun k hk=>by injection hk⟩))
      | (rw [if_neg (by assumption)] at hnp
         rw [hnp] at hQ
         exact r_esA hQ (v':= .tup [.int .i64 (-(acc:Int)),.bool false]) (.inl ⟨rfl,rfl,_,rfl,fun k hk=>by cases hk⟩))
      | (rw [if_pos (by assumption)] at hnp
         rw [hnp] at hQ
         exact r_esA hQ (v':= .tup [.int .i64 (acc:Int),.bool true]) (.inl ⟨rfl,rfl,_,rfl,fun k hk=>by injection hk⟩))
      | (rw [if_neg (by assumption)] at hnp
         rw [hnp] at hQ
         exact r_esA hQ (v':= .tup [.int .i64 (acc:Int),.bool false]) (.inl ⟨rfl,rfl,_,rfl,fun k hk=>by cases hk⟩))
/-- from a place on there is no such byte before another place -/
theorem cutP_none{c:UInt8}:∀ {s:Txt},(∀ b∈s,b≠c)→cutP c s=[s]
  |[],_=>rfl
  | b::l,h=>by
    have ih:=cutP_none (c:=c) (s:=l) fun x hx=>h x (List.mem_cons_of_mem _ hx)
    unfold cutP
    rw [if_neg (h b List.mem_cons_self),ih]
theorem cutP_at{c:UInt8}:∀ {a r:Txt},(∀ b∈a,b≠c)→cutP c (a++c::r)=a::cutP c r
  | [],r,_=>by
    show cutP c (c::r)=_
    unfold cutP
    rw [if_pos rfl]
    cases r<;>rfl
  | b::l,r,h=>by
    have ih:=cutP_at (c:=c) (a:=l) (r:=r) fun x hx=>h x (List.mem_cons_of_mem _ hx)
    rw [List.cons_append]
    conv=>lhs;unfold cutP
    rw [if_neg (h b List.mem_cons_self),ih]
/-- what is to be cut yet, from a place on -/
def cutR(c:UInt8)(s:Txt)(k:Nat):List Txt:=if k≤s.length then cutP c (s.drop k) else []
/-- a piece of a text -/
def pcT(s:Txt)(k i:Nat):Txt:=(s.drop k).take (i - k)
def freeT(c:UInt8)(s:Txt)(k i:Nat):Prop:=∀ b∈pcT s k i,b≠c
theorem pcT_snoc{s:Txt}{k i:Nat}(hk:k≤i)(hi:i<s.length):pcT s k (i+1)=pcT s k i++[s.getD i 0]:=by
  unfold pcT
  have h1:i - k<(s.drop k).length:=by rw [List.length_drop];omega
  rw [show i+1 - k=(i - k)+1 by omega,List.take_succ_eq_append_getElem h1,List.getElem_drop]
  have e:k+(i - k)=i:=by omega
  simp only [e]
  rw [List.getD_eq_getElem?_getD,List.getElem?_eq_getElem hi];rfl
theorem cutR_at{c:UInt8}{s:Txt}{k i:Nat}(hk:k≤i)(hi:i<s.length)(hf:freeT c s k i)(hc:s.getD i 0=c):cutR c s k=pcT s k i::cutR c s (i+1):=by
  have e:s.drop k=pcT s k i++c::s.drop (i+1):=by
    unfold pcT
    rw [←hc,List.getD_eq_getElem?_getD,List.getElem?_eq_getElem hi]
    have e2:s.drop i=s[i]::s.drop (i+1):=List.drop_eq_getElem_cons hi
    have e3:(s.drop k).drop (i - k)=s.drop i:=by rw [List.drop_drop];congr 1;omega
    conv=>lhs;rw [←List.take_append_drop (i - k) (s.drop k)]
    rw [e3,e2];rfl
  unfold cutR
  rw [if_pos (by omega),if_pos (by omega),e]
  exact cutP_at hf
theorem cutR_end{c:UInt8}{s:Txt}{k:Nat}(hk:k≤s.length)(hf:freeT c s k s.length):cutR c s k=[pcT s k s.length]:=by
  have e:s.drop k=pcT s k s.length:=by
    unfold pcT;rw [List.take_of_length_le (by rw [List.length_drop];exact Nat.le_refl _)]
  unfold cutR
  rw [if_pos hk,e]
  exact cutP_none hf
theorem freeT_snoc{c:UInt8}{s:Txt}{k i:Nat}(hk:k≤i)(hi:i<s.length)(hf:freeT c s k i)(hc:s.getD i 0≠c):freeT c s k (i+1):=by
  unfold freeT
  rw [pcT_snoc hk hi]
  intro b hb
  rcases List.mem_append.1 hb with hb|hb
  · exact hf b hb
  · obtain rfl:=List.mem_singleton.1 hb
    exact hc
theorem freeT_nil{c:UInt8}{s:Txt}{k:Nat}:freeT c s k k:=fun b hb=>by
  unfold pcT at hb
  rw [Nat.sub_self] at hb
  cases hb
theorem xsV_plain(l:List Txt):plainLL (xsV l)=true:=plainLL_of fun e he=>by obtain⟨x,_,rfl⟩:=List.mem_map.1 he;rfl
theorem xsV_snocT(l:List Txt)(x:Txt):xsV (l++[x])=xsV l++[[.str x]]:=by simp [xsV]
theorem pcT_eq(s:Txt)(k i:Nat):List.take ((i:Int) - (k:Int)).toNat (List.drop k s)=pcT s k i:=by
  unfold pcT;congr 1;omega
def ctSt:List Txt→TV
  |[]=> .v .nilsl
  |_::r=> .sl 0 (r.length+1)
def ctEx:List Txt→List TB
  |[]=>[]
  |p::r=>[.cells .own 9 1 ((xsV (p::r)).map (List.map TV.v))]
def ctS(s:Txt)(c:UInt8)(q:Nat×Nat×List Txt):List TV:=[.v (.str s),.v (.int .u8 c.toNat),.v (.int .i64 q.2.1),.v (.int .i64 q.1),ctSt q.2.2]
theorem ctE_ok{l:List Txt}:(ctEx l).all (TB.ok (ctEx l).length)=true:=by
  cases l with
  |nil=>rfl
  |cons p r=>simp only [ctEx,List.all_cons,TB.ok,TV.okT,List.all_nil,Bool.and_true,Bool.and_self,tv_ok,List.length_cons,List.length_nil]
theorem ctS_ok{s:Txt}{c:UInt8}{q:Nat×Nat×List Txt}:(ctS s c q).all (TV.okT (ctEx q.2.2).length)=true:=by
  obtain⟨i,k,l⟩:=q
  cases l<;>simp [ctS,ctSt,ctEx,TV.okT]

theorem bcut_c (s:Txt) (c:UInt8) (hs:s.length≤100000) (m:Mem):Gives Tryz.prog 31 [.str s,.int .u8 c.toNat] m (.lst (xsV (cutP c s))):=by
  suffices key:CallA Tryz.prog 31 [.str s,.int .u8 c.toNat] m (fun v mo=>mo=none∧WkV v (.lst (xsV (cutP c s)))) from Gives_ofX key fun v mo h=>h
  refine CallA_in Tryz.func31 rfl Tryz.ntmps31 Tryz.results31 (by kernel_rfl) (by simp) fun Q hQ=>?_
  (repeat'(first|(refine sx ?_ ?_<;>intro h<;>first|(exfalso;omega)|skip)|refine ny ?_|refine WA_block ?_))
  refine WA_whileT (σ:=Nat×Nat×List Txt) (L:=lend m) [0,1,6,7,5] (ctS s c) (fun q=>ctEx q.2.2) (fun q=>(q.1≤s.length+1∧q.2.1≤q.1)∧q.2.2++cutR c s q.2.1=cutP c s∧(q.1≤s.length→freeT c s q.2.1 q.1)∧(q.1=s.length+1→q.2.1=s.length+1)) (fun q=>s.length+1 - q.1) (0,0,[]) ⟨⟨Nat.zero_le _,Nat.le_refl _⟩,rfl,fun _=>freeT_nil,fun h=>by dsimp only at h;omega⟩ (by simp only [ctS,ctSt,List.map_cons,List.map_nil,TV.inst];exact tv_) rfl (by decide) (fun _ _=>ctS_ok) (fun _ _=>ctE_ok) ?_
  rintro⟨i,k,l⟩ ⟨⟨hi,hk⟩,hl,hf,he⟩ B ⟨D,hB⟩ K hK
  dsimp only at hi hk hl hf he
  have hll:l.length≤100001:=by
    have h1:=cutP_len c s
    rw [←hl,List.length_append] at h1
    omega
  rcases Nat.lt_or_ge s.length i with hge|hle
  · obtain rfl:i=s.length+1:=by omega
    obtain rfl:=he rfl
    rw [show cutR c s (s.length+1)=[] from if_neg (by omega),List.append_nil] at hl
    rw [←hl] at hQ
    clear hK
    have hlx:=xsV_length (l:=l)
    cases l with
    |nil=>exact absurd hl.symm (cutP_ne c s)
    | cons p r=>
      simp only [List.length_cons] at hll hlx
      simp only [ctS,ctSt,ctEx]
      simp only [List.map_cons,List.map_nil,TB.inst,TV.inst,tv_map,zipT,List.cons_append,List.nil_append,Nat.add_zero]
      (have FX:=And.intro hlx hll;repeat'(first|(refine sx ?_ ?_<;>intro h<;>first|(exfalso;omega)|skip)|refine ny ?_|refine WA_block ?_))
      all_goals(try(exfalso;omega))
      exact r_esA hQ (v':= .sl B.length (r.length+1)) (fin_sl (j:=0) (X:=[.cells .own 9 1 (xsV (p::r))]) hB rfl (by rw [hlx];exact Nat.le_refl _) (by rw [List.take_of_length_le (by rw [hlx];exact Nat.le_refl _)];exact xsV_plain _) ⟨rfl,by rw [List.take_of_length_le (by rw [hlx];exact Nat.le_refl _)];exact WkV.refl _⟩)
  · replace hf:=hf hle
    have hpc:=pcT_eq s k i
    have hcons:∀ p r x,xsV (p::(r++[x]))=xsV (p::r)++[[V.str x]]:=fun p r x=>xsV_snocT (p::r) x
    have hone:∀ x,xsV [x]=[[V.str x]]:=fun _=>rfl
    have hnxt:cutR c s k=pcT s k i::cutR c s (i+1)→(l++[pcT s k i])++cutR c s (i+1)=cutP c s:=fun h=>by rw [List.append_assoc,←hl,h];rfl
    have hnow:i<s.length→s.getD i 0=c→cutR c s k=pcT s k i::cutR c s (i+1):=fun h1 h2=>cutR_at hk h1 hf h2
    have hend:i=s.length→cutR c s k=pcT s k i::cutR c s (i+1):=fun h=>by
      subst h
      rw [cutR_end hk hf,show cutR c s (s.length+1)=[] from if_neg (by omega)]
    have hfs:=fun(h1:i<s.length) (h2:s.getD i 0≠c)=>freeT_snoc hk h1 hf h2
    have hn1:=fun(_:Unit)=>hK (i+1,i+1,l++[pcT s k i])
    have hn2:=fun(_:Unit)=>hK (i+1,k,l)
    have hlx:=xsV_length (l:=l)
    have hg:(i<s.length∧s[i]?=some (s.getD i 0))∨(i=s.length):=by
      rcases Nat.lt_or_ge i s.length with h|h
      · exact .inl ⟨h,byt_get h⟩
      · exact .inr (by omega)
    have hby:(((s.getD i 0).toNat:Int)=(c.toNat:Int))↔s.getD i 0=c:=⟨fun h=>UInt8.toNat_inj.1 (by omega),fun h=>by rw [h]⟩
    generalize s.getD i 0=b at *
    have hlt2:(xsV l).take l.length=xsV l:=List.take_of_length_le (by rw [hlx];exact Nat.le_refl _)
    rcases hg with ⟨hlt,hgi⟩|hgi
    rotate_left
    · subst hgi
      have hgi:=hlx
      replace hend:=hend rfl
      rcases l with _|⟨p,r⟩
      all_goals(
        simp only [List.length_cons,List.length_nil] at hll hlx hlt2
        simp only [ctS,ctSt,ctEx]
        simp only [List.map_cons,List.map_nil,TB.inst,TV.inst,tv_map,zipT,List.cons_append,List.nil_append,Nat.add_zero]
        (have FX:=And.intro hlx (And.intro hll (And.intro hle (And.intro hk (And.intro hgi hlt2))));repeat'(first|(refine sx ?_ ?_<;>intro h<;>first|(exfalso;omega)|skip)|refine ny ?_|refine WA_block ?_)))
      all_goals(try(exfalso;omega))
      all_goals(rw [hpc])
      · (refine nextU_ hn1 (()) [1] (⟨⟨by dsimp only;omega,by dsimp only;omega⟩,hnxt hend,fun h=>by dsimp only at h;omega,fun _=>rfl⟩) (by dsimp only;omega) ?_ (ht:=?_);(focus (simp only [ctEx,hone,List.nil_append,List.map_cons,List.map_nil,TB.inst,TV.inst,tv_map,List.cons_append,List.nil_append];first|rfl|(simp [ptsV,ptV];done)|(simp [hpsV,hpV];done)|(simp [frsV,frV];done)|(simp [txV];done)|(simp [prtsV,prtV];done)));(simp only [ctS,ctSt,List.nil_append,List.length_nil,List.map_cons,List.map_nil,TV.inst,List.getD_cons_zero,List.getD_cons_succ];exact tv_))
      · (refine nextU_ hn1 (()) [2] (⟨⟨by dsimp only;omega,by dsimp only;omega⟩,hnxt hend,fun h=>by dsimp only at h;omega,fun _=>rfl⟩) (by dsimp only;omega) ?_ (ht:=?_);(focus (simp only [ctEx,hcons,List.cons_append,List.map_cons,List.map_nil,TB.inst,TV.inst,tv_map,List.cons_append,List.nil_append];first|rfl|(simp [ptsV,ptV];done)|(simp [hpsV,hpV];done)|(simp [frsV,frV];done)|(simp [txV];done)|(simp [prtsV,prtV];done)));(simp only [ctS,ctSt,List.cons_append,List.length_append,List.length_cons,List.length_nil,Nat.zero_add,List.map_cons,List.map_nil,TV.inst,List.getD_cons_zero,List.getD_cons_succ];exact tv_))
    · replace hnow:=hnow hlt
      replace hfs:=hfs hlt
      rcases l with _|⟨p,r⟩
      all_goals(
        simp only [List.length_cons,List.length_nil] at hll hlx hlt2
        simp only [ctS,ctSt,ctEx]
        simp only [List.map_cons,List.map_nil,TB.inst,TV.inst,tv_map,zipT,List.cons_append,List.nil_append,Nat.add_zero]
        (have FX:=And.intro hlx (And.intro hll (And.intro hle (And.intro hk (And.intro hgi hlt2))));repeat'(first|(refine sx ?_ ?_<;>intro h<;>first|(exfalso;omega)|skip)|refine ny ?_|refine WA_block ?_)))
      all_goals(try(exfalso;omega))
      · have hbc:b=c:=hby.1 (by assumption)
        rw [hpc]
        (refine nextU_ hn1 (()) [1] (⟨⟨by dsimp only;omega,by dsimp only;omega⟩,hnxt (hnow hbc),fun _=>freeT_nil,fun h=>by dsimp only at h;omega⟩) (by dsimp only;omega) ?_ (ht:=?_);(focus (simp only [ctEx,hone,List.nil_append,List.map_cons,List.map_nil,TB.inst,TV.inst,tv_map,List.cons_append,List.nil_append];first|rfl|(simp [ptsV,ptV];done)|(simp [hpsV,hpV];done)|(simp [frsV,frV];done)|(simp [txV];done)|(simp [prtsV,prtV];done)));(simp only [ctS,ctSt,List.nil_append,List.length_nil,List.map_cons,List.map_nil,TV.inst,List.getD_cons_zero,List.getD_cons_succ];exact tv_))
      · have hbc:b≠c:=fun h=>absurd (hby.2 h) (by assumption)
        exact hn2 () [] _ _ ⟨_,rfl,by simp only [ctS,ctSt,List.map_cons,List.map_nil,TV.inst];exact tv_,rfl,List.nodup_nil⟩ ⟨⟨by dsimp only;omega,by dsimp only;omega⟩,hl,fun _=>hfs hbc,fun h=>by dsimp only at h;omega⟩ (by dsimp only;omega)
      · have hbc:b=c:=hby.1 (by assumption)
        rw [hpc]
        (refine nextU_ hn1 (()) [2] (⟨⟨by dsimp only;omega,by dsimp only;omega⟩,hnxt (hnow hbc),fun _=>freeT_nil,fun h=>by dsimp only at h;omega⟩) (by dsimp only;omega) ?_ (ht:=?_);(focus (simp only [ctEx,hcons,List.cons_append,List.map_cons,List.map_nil,TB.inst,TV.inst,tv_map,List.cons_append,List.nil_append];first|rfl|(simp [ptsV,ptV];done)|(simp [hpsV,hpV];done)|(simp [frsV,frV];done)|(simp [txV];done)|(simp [prtsV,prtV];done)));(simp only [ctS,ctSt,List.cons_append,List.length_append,List.length_cons,List.length_nil,Nat.zero_add,List.map_cons,List.map_nil,TV.inst,List.getD_cons_zero,List.getD_cons_succ];exact tv_))
      · have hbc:b≠c:=fun h=>absurd (hby.2 h) (by assumption)
        (refine nextU_ hn2 (()) [0] (⟨⟨by dsimp only;omega,by dsimp only;omega⟩,hl,fun _=>hfs hbc,fun h=>by dsimp only at h;omega⟩) (by dsimp only;omega) ?_ (ht:=?_);(focus (simp only [ctEx,List.map_cons,List.map_nil,TB.inst,TV.inst,tv_map,List.cons_append,List.nil_append];first|rfl|(simp [ptsV,ptV];done)|(simp [hpsV,hpV];done)|(simp [frsV,frV];done)|(simp [txV];done)|(simp [prtsV,prtV];done)));(simp only [ctS,ctSt,List.map_cons,List.map_nil,TV.inst,List.getD_cons_zero,List.getD_cons_succ];exact tv_))
end Go.Proofs.YtookikhphobnlaaGreatDoor
