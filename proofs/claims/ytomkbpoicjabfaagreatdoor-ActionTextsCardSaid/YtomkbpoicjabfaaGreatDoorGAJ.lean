import Derived.Test.YtomkbpoicjabfaaGreatDoorGAE
import Derived.Test.YtomkbpoicjabfaaGreatDoorGAI
import Derived.Lib.ItoaLen
set_option linter.unusedSimpArgs false
set_option linter.unusedVariables false
/- contracts: the reference's decimal writing -/
namespace Go.Proofs.YtomkbpoicjabfaaGreatDoor
open Go.RowKit
attribute [local irreducible] WA WOs WDs WAn qThen qBlock tput
set_option maxHeartbeats 1000000
set_option maxRecDepth 20000
set_option linter.unusedSimpArgs false
set_option linter.unusedVariables false
set_option maxHeartbeats 4000000
/-- what is to be written yet, and behind it what is written -/
def dS(m:Nat)(s:Txt):Txt:=if m=0 then s else Lib.decDigits m++s
theorem dS_step{m:Nat}(h:m≠0)(s:Txt):dS m s=dS (m / 10) (UInt8.ofNat (48+m % 10)::s):=by
  unfold dS
  rw [if_neg h]
  by_cases h9:m<10
  · rw [if_pos (by omega),Lib.decDigits,dif_pos h9,Nat.mod_eq_of_lt h9];rfl
  · rw [if_neg (by omega),Lib.decDigits,dif_neg h9,List.append_assoc];rfl
theorem u8_of{d:Nat}(h:d<256):((UInt8.ofNat d).toNat:Int)=d:=by
  rw [UInt8.toNat_ofNat'];omega
theorem itoa_dS{n:Int}(h:n≠0):Lib.itoa n=if n<0 then 45::dS n.natAbs [] else dS n.natAbs []:=by
  unfold Lib.itoa dS
  have h1:¬ n.natAbs=0:=by omega
  simp only [h1,if_false,List.append_nil]
  split
  · rfl
  · rw [show n.toNat=n.natAbs by omega]
theorem dS_len(m:Nat)(s:Txt):s.length≤(dS m s).length:=by
  unfold dS
  split
  · exact Nat.le_refl _
  · rw [List.length_append];omega
theorem dS_len20{m:Nat}(h:m≤9223372036854775808):(dS m []).length≤20:=by
  unfold dS
  split
  · simp
  · rw [List.append_nil,Lib.decDigits_length];exact Lib.nDigits_le20 m (by omega)
theorem app_last{B:Mem}{x:Blk}:(B++[x])[B.length]?=some x:=by simp
def deS(n:Int)(s:Int×Txt):List TV:=[.v (.int .i64 n),.v (.int .i64 s.1),.v (.str s.2)]

theorem bdec_c(n:Int)(hn:n.natAbs≤9223372036854775808)(m:Mem):Gives Tryz.prog 45 [.int .i64 n] m (.str (Lib.itoa n)):=by
  suffices key:CallA Tryz.prog 45 [.int .i64 n] m (fun v mo=>mo=none∧WkV v (.str (Lib.itoa n))) from Gives_ofX key fun v mo h=>h
  refine CallA_in Tryz.func45 rfl Tryz.ntmps45 Tryz.results45 (by kernel_rfl) (by simp) fun Q hQ=>?_
  (repeat'(first|(refine sx ?_ ?_<;>intro h<;>first|(exfalso;omega)|skip)|refine ny ?_|refine WA_block ?_))
  · subst h
    refine r_esA hQ (v':= .str [48]) (.inl ⟨rfl,rfl,?_⟩)
    exact(show Lib.itoa 0=[48] from(show Lib.itoa 0=Lib.decDigits 0 from rfl).trans (by rw [Lib.decDigits];rfl)) ▸ WkV.refl _
  · rw [itoa_dS h] at hQ
    refine WA_whileT (σ:=Int×Txt) (L:=lend m) [0,4,3] (deS n) (fun _=>[]) (fun s=>s.1.natAbs≤n.natAbs∧dS s.1.natAbs s.2=dS n.natAbs []) (fun s=>s.1.natAbs) (n,[]) ⟨Nat.le_refl _,rfl⟩ (by simp only [deS,List.map_cons,List.map_nil,TV.inst];exact tv_) rfl (by decide) (fun _ _=>rfl) (fun _ _=>rfl) ?_
    rintro⟨u,s⟩ ⟨hu,hs⟩ B ⟨D,hB⟩ K hK
    dsimp only at hu hs
    simp only [deS]
    have hd:(u.tmod 10).natAbs=u.natAbs % 10:=Int.natAbs_tmod u 10
    have hq:(u.tdiv 10).natAbs=u.natAbs / 10:=Int.natAbs_tdiv u 10
    have hab:=fun m=>babs_c (u.tmod 10) (by omega) (by omega) m
    rw [hd] at hab
    have hb9:u.natAbs % 10<10:=Nat.mod_lt _ (by decide)
    have hst:=fun(h:u≠0)=>dS_step (m:=u.natAbs) (by omega) s
    generalize u.natAbs % 10=c at hd hb9 hab hst
    have hsl:s.length≤20:=Nat.le_trans (dS_len u.natAbs s) (hs ▸ dS_len20 hn)
    have hw8:IntKind.u8.wrap (48+(c:Int))=((UInt8.ofNat (48+c)).toNat:Int):=by
      rw [u8_of (d:=48+c) (by omega)]
      simp [IntKind.wrap,IntKind.bits,IntKind.signed]
      omega
    have h8:=u8_of (d:=48+c) (by omega)
    simp only [List.map_cons,List.map_nil,TB.inst,TV.inst,tv_map,zipT,List.cons_append,List.nil_append,Nat.add_zero]
    (have FX:=And.intro hb9 hsl;repeat'(first|(refine sx ?_ ?_<;>intro h<;>first|(exfalso;omega)|skip)|(refine g_op ?_;refine g_call ?_;refine g_args ?_;(first|refine s_fn (hab _) ?_)<;>try first|omega|assumption)|refine ny ?_|refine WA_block ?_))
    · refine g_op ?_
      refine s_bk (c:=UInt8.ofNat (48+c)) ?_ hw8 (by exact lk_) app_last rfl (by kernel_rfl)
      (have FX:=And.intro hb9 hsl;repeat'(first|(refine sx ?_ ?_<;>intro h<;>first|(exfalso;omega)|skip)|(refine g_op ?_;refine g_call ?_;refine g_args ?_;(first|refine s_fn (hab _) ?_)<;>try first|omega|assumption)|refine ny ?_|refine WA_block ?_))
      exact hK (u.tdiv 10,UInt8.ofNat (48+c)::s) [] _ _ ⟨_,rfl,by simp only [deS,List.map_cons,List.map_nil,TV.inst];exact tv_,rfl,List.nodup_nil⟩ ⟨by dsimp only;omega,by dsimp only;rw [hq,←hst h];exact hs⟩ (by dsimp only;omega)
    all_goals(obtain rfl:u=0:=by assumption)
    all_goals(rw [show dS (Int.natAbs 0) s=s from rfl] at hs;rw [←hs] at hQ)
    · rw [if_pos (by assumption)] at hQ
      exact r_esA hQ (v':= .str (45::s)) (.inl ⟨rfl,rfl,WkV.refl _⟩)
    · rw [if_neg (by assumption)] at hQ
      exact r_esA hQ (v':= .str s) (.inl ⟨rfl,rfl,WkV.refl _⟩)
def frP(s:Txt):Nat:=if s.head?=some 45 then 1 else 0
def valD(acc:Nat)(l:Txt):Nat:=l.foldl (fun a c=>10 * a+(c.toNat - 48)) acc
def allD(l:Txt):Prop:=∀ c∈l,48≤c.toNat∧c.toNat≤57
theorem valD_lt:∀ (l:Txt) (acc:Nat),allD l→valD acc l<(acc+1) * 10 ^ l.length
  |[],acc,_=>by show acc<_;simp
  | c::r,acc,h=>by
    have hc:=h c List.mem_cons_self
    have:=valD_lt r (10 * acc+(c.toNat - 48)) fun x hx=>h x (List.mem_cons_of_mem _ hx)
    show valD (10 * acc+(c.toNat - 48)) r<_
    rw [List.length_cons,Nat.pow_succ]
    have h2:(10 * acc+(c.toNat - 48)+1) * 10 ^ r.length≤(10 * (acc+1)) * 10 ^ r.length:=Nat.mul_le_mul_right _ (by omega)
    have h3:(acc+1) * (10 ^ r.length * 10)=(10 * (acc+1)) * 10 ^ r.length:=by grind
    omega
theorem pu_ok:∀ (l:Txt) (acc:Nat),allD l→(acc+1) * 10 ^ l.length≤10 ^ 18→Lib.parseUint10 acc l= .ok (valD acc l)
  |[],acc,_,_=>rfl
  | c ::r,acc,h,hb=>by
    have hc:=h c List.mem_cons_self
    have h2:(acc * 10+(c.toNat - 48)+1) * 10 ^ r.length≤10 ^ 18:=by
      rw [List.length_cons,Nat.pow_succ] at hb
      have h2:(acc * 10+(c.toNat - 48)+1) * 10 ^ r.length≤(10 * (acc+1)) * 10 ^ r.length:=Nat.mul_le_mul_right _ (by omega)
      have h3:(acc+1) * (10 ^ r.length * 10)=(10 * (acc+1)) * 10 ^ r.length:=by grind
      omega
    have h4:acc * 10+(c.toNat - 48)+1≤10 ^ 18:=Nat.le_trans (Nat.le_mul_of_pos_right _ (Nat.pow_pos (by decide))) h2
    have ih:=pu_ok r (acc * 10+(c.toNat - 48)) (fun x hx=>h x (List.mem_cons_of_mem _ hx)) h2
    have he:valD acc (c::r)=valD (acc * 10+(c.toNat - 48)) r:=by
      show valD (10 * acc+(c.toNat - 48)) r=_
      rw [Nat.mul_comm]
    rw [Lib.parseUint10,if_pos ⟨by omega,by omega⟩,if_neg (by omega),if_neg (by omega),ih,he]
theorem pu_bad:∀ (l:Txt) (acc v:Nat),¬ allD l→Lib.parseUint10 acc l≠ .ok v
  |[],acc,v,h=>absurd (fun c hc=>by cases hc) h
  | c ::r,acc,v,h=>by
    rw [Lib.parseUint10]
    split
    · rename_i hc
      split
      · simp
      · split
        · simp
        · refine pu_bad r _ v fun hr=>h fun x hx=>?_
          rcases List.mem_cons.1 hx with rfl|hx
          · exact hc
          · exact hr x hx
    · simp
theorem pm_ok{l:Txt}(h0:l≠[])(hl:l.length≤18)(h:allD l):Lib.parseMag l= .ok (valD 0 l):=by
  unfold Lib.parseMag
  rw [if_neg h0]
  exact pu_ok l 0 h (by rw [Nat.zero_add,Nat.one_mul];exact Nat.pow_le_pow_right (by decide) hl)
theorem pm_bad{l:Txt}(h:¬ (l≠[]∧allD l))(v:Nat):Lib.parseMag l≠ .ok v:=by
  unfold Lib.parseMag
  split
  · simp
  · rename_i h0
    exact pu_bad l 0 v fun h2=>h ⟨h0,h2⟩
theorem at_ok{c:UInt8}{r:Txt}{u:Nat}(h:Lib.parseMag (if c.toNat=43∨c.toNat=45 then r else c::r)= .ok u)(hu:u<10 ^ 18):Lib.atoiAll (c::r)= .ok (if c.toNat=45 then -(u:Int) else u):=by
  unfold Lib.atoiAll
  simp only [h]
  rw [if_neg (by omega),if_neg (by omega)]
theorem at_of{c:UInt8}{r:Txt}{n:Int}(h:Lib.atoiAll (c::r)= .ok n):∃ u,Lib.parseMag (if c.toNat=43∨c.toNat=45 then r else c::r)= .ok u:=by
  cases hp:Lib.parseMag (if c.toNat=43∨c.toNat=45 then r else c::r)
  · exact⟨_,rfl⟩
  · unfold Lib.atoiAll at h;simp only [hp] at h;cases h
  · unfold Lib.atoiAll at h;simp only [hp] at h;cases h
theorem dec_dig (u:Nat):allD (Lib.decDigits u):=by
  induction u using Nat.strongRecOn with
  | _ u ih=>
    intro c hc
    rw [Lib.decDigits] at hc
    split at hc
    · obtain rfl:=List.mem_singleton.1 hc
      have:=u8_of (d:=48+u) (by omega)
      omega
    · rcases List.mem_append.1 hc with hc|hc
      · exact ih (u / 10) (by omega) c hc
      · obtain rfl:=List.mem_singleton.1 hc
        have:=u8_of (d:=48+u % 10) (by omega)
        omega
theorem itoa_plus{n:Int}{c:UInt8}{r:Txt}(hc:c.toNat=43):Lib.itoa n≠c::r:=by
  intro h
  unfold Lib.itoa at h
  split at h
  · injection h with h1 h2
    subst h1
    exact absurd hc (by decide)
  · have:=dec_dig n.toNat c (by rw [h];exact List.mem_cons_self)
    omega
/-- the number that a text's digits tell -/
def nV(s:Txt):Int:=if frP s=1 then -(valD 0 (s.drop (frP s)):Int) else valD 0 (s.drop (frP s))
def nGood(d:Nat)(s:Txt):Prop:=s.length≠frP s∧s.length≤frP s+d∧allD (s.drop (frP s))
theorem numP_good {d:Nat} (hd:d≤18) {s:Txt} (h:nGood d s):numP d s=if Lib.itoa (nV s)=s then some (nV s) else none:=by
  obtain⟨h1,h2,h3⟩:=h
  cases s with
  |nil=>exact absurd rfl h1
  | cons c r=>
    by_cases hc:c=45
    · subst hc
      have hf:frP (45::r)=1:=rfl
      have hv:nV (45::r)= -(valD 0 r:Int):=rfl
      rw [hf] at h1 h2 h3
      have h3':allD r:=h3
      rw [List.length_cons] at h1 h2
      have hp:=pm_ok (l:=r) (fun e=>by subst e;simp at h1) (by omega) h3'
      have hlt:=valD_lt r 0 h3'
      have hle:10 ^ r.length≤10 ^ 18:=Nat.pow_le_pow_right (by decide) (by omega)
      have ha:=at_ok (c:=45) (r:=r) (u:=valD 0 r) hp (by omega)
      rw [if_pos (by decide)] at ha
      have ht:Lib.trimPrefix (45::r) [45]=r:=by simp [Lib.trimPrefix,Lib.hasPrefix]
      unfold numP
      rw [ha,hv,ht]
      dsimp only
      by_cases he:Lib.itoa (-(valD 0 r:Int))=45::r
      · rw [if_pos ⟨he,by omega⟩,if_pos he]
      · rw [if_neg (fun q=>he q.1),if_neg he]
    · have hf:frP (c::r)=0:=by simp [frP,hc]
      have hv:nV (c::r)=(valD 0 (c::r):Int):=by simp [nV,hf]
      rw [hf] at h1 h2 h3
      have h3':allD (c::r):=h3
      have hcd:=h3' c List.mem_cons_self
      have hp:=pm_ok (l:=c::r) (by simp) (by omega) h3'
      have hlt:=valD_lt (c::r) 0 h3'
      have hle:10 ^ (c::r).length≤10 ^ 18:=Nat.pow_le_pow_right (by decide) (by omega)
      have ha:=at_ok (c:=c) (r:=r) (u:=valD 0 (c::r)) (by rw [if_neg (by omega)];exact hp) (by omega)
      rw [if_neg (by omega)] at ha
      have ht:Lib.trimPrefix (c::r) [45]=c::r:=by
        have:¬ (45:UInt8)=c:=fun e=>hc e.symm
        simp [Lib.trimPrefix,Lib.hasPrefix,this]
      unfold numP
      rw [ha,hv,ht]
      dsimp only
      by_cases he:Lib.itoa (valD 0 (c::r):Int)=c::r
      · rw [if_pos ⟨he,by omega⟩,if_pos he]
      · rw [if_neg (fun q=>he q.1),if_neg he]
theorem numP_bad {d:Nat} {s:Txt} (h:¬ nGood d s):numP d s=none:=by
  unfold numP
  cases ha:Lib.atoiAll s
  rotate_left
  · rfl
  · rfl
  · rename_i n
    dsimp only
    refine if_neg fun⟨h1,h2⟩=>h ?_
    cases s with
    |nil=>cases ha
    | cons c r=>
      obtain⟨u,hu⟩:=at_of ha
      by_cases h43:c.toNat=43
      · exact absurd h1 (itoa_plus h43)
      by_cases hc:c=45
      · subst hc
        rw [if_pos (.inr (by decide))] at hu
        have ht:Lib.trimPrefix (45::r) [45]=r:=by simp [Lib.trimPrefix,Lib.hasPrefix]
        rw [ht] at h2
        have hg:r≠[]∧allD r:=Classical.byContradiction fun q=>pm_bad q u hu
        have hr:r.length≠0:=fun e=>hg.1 (List.length_eq_zero_iff.1 e)
        exact⟨by show r.length+1≠1;omega,by show r.length+1≤1+d;omega,hg.2⟩
      · have h45:¬ c.toNat=45:=fun e=>hc (UInt8.toNat_inj.1 e)
        rw [if_neg (by omega)] at hu
        have ht:Lib.trimPrefix (c::r) [45]=c::r:=by
          have:¬ (45:UInt8)=c:=fun e=>hc e.symm
          simp [Lib.trimPrefix,Lib.hasPrefix,this]
        rw [ht] at h2
        have hf:frP (c::r)=0:=by simp [frP,hc]
        have hg:c::r≠[]∧allD (c::r):=Classical.byContradiction fun q=>pm_bad q u hu
        refine⟨by rw [hf];simp,by rw [hf];omega,?_⟩
        rw [hf];exact hg.2
theorem valD_snoc(l:Txt)(c:UInt8)(acc:Nat):valD acc (l++[c])=10 * valD acc l+(c.toNat - 48):=by
  unfold valD;rw [List.foldl_append];rfl
theorem allD_snoc{l:Txt}{c:UInt8}(h:allD l)(hc:48≤c.toNat∧c.toNat≤57):allD (l++[c]):=fun x hx=>by
  rcases List.mem_append.1 hx with hx|hx
  · exact h x hx
  · obtain rfl:=List.mem_singleton.1 hx
    exact hc
/-- the digits that are read -/
def rdD(s:Txt)(i:Nat):Txt:=(s.take i).drop (frP s)
theorem rdD_snoc{s:Txt}{i:Nat}(hi:i<s.length)(hf:frP s≤i):rdD s (i+1)=rdD s i++[s.getD i 0]:=by
  unfold rdD
  rw [List.take_succ_eq_append_getElem hi,List.drop_append_of_le_length (by rw [List.length_take];omega),List.getD_eq_getElem?_getD,List.getElem?_eq_getElem hi];rfl
theorem rdD_len{s:Txt}{i:Nat}(hi:i≤s.length):(rdD s i).length=i - frP s:=by
  unfold rdD;rw [List.length_drop,List.length_take];omega
theorem rdD_all{s:Txt}:rdD s s.length=s.drop (frP s):=by unfold rdD;rw [List.take_length]
theorem rdD_bad{s:Txt}{i d:Nat}(hi:i<s.length)(hf:frP s≤i)(h:¬ (48≤(s.getD i 0).toNat∧(s.getD i 0).toNat≤57)):¬ nGood d s:=fun q=>by
  refine h (q.2.2 _ ?_)
  have e:=rdD_snoc hi hf
  have h2:s.getD i 0∈rdD s (i+1):=by rw [e];simp
  unfold rdD at h2
  exact List.mem_of_mem_take (i:=i+1 - frP s) (by rwa [List.drop_take] at h2)
theorem valD_10{l:Txt}{k:Nat}(h:allD l)(hl:l.length≤k):valD 0 l<10 ^ k:=by
  have:=valD_lt l 0 h
  rw [Nat.zero_add,Nat.one_mul] at this
  exact Nat.lt_of_lt_of_le this (Nat.pow_le_pow_right (by decide) hl)
theorem wr_dig{c a:Nat}(h:48≤c∧c≤57)(ha:a<10 ^ 17):IntKind.i64.wrap (10 * (a:Int)+IntKind.i64.wrap (IntKind.u8.wrap ((c:Int) - 48)))=((10 * a+(c - 48):Nat):Int):=by
  have e1:IntKind.u8.wrap ((c:Int) - 48)=((c - 48:Nat):Int):=by
    simp [IntKind.wrap,IntKind.bits,IntKind.signed]
    omega
  have e2:∀ x:Int,0≤x→x<10 ^ 18→IntKind.i64.wrap x=x:=fun x h1 h2=>by
    simp [IntKind.wrap,IntKind.bits,IntKind.signed]
    omega
  rw [e1,e2 ((c - 48:Nat):Int) (by omega) (by omega),e2 _ (by omega) (by omega)]
  omega

theorem bnum_c (s:Txt) (d:Nat) (hd:d≤18) (hs:s.length≤100000) (m:Mem):CallA Tryz.prog 100 [.str s,.int .i64 d] m (fun v mo=>mo=none∧∃ n,v= .tup [.int .i64 n,.bool (decide ((numP d s).isSome))]∧∀ k,numP d s=some k→n=k):=by
  refine CallA_in Tryz.func100 rfl Tryz.ntmps100 Tryz.results100 (by kernel_rfl) (by simp) fun Q hQ=>?_
  by_cases h0:s=[]
  · subst h0
    have hg:¬ nGood d []:=fun q=>q.1 rfl
    rw [numP_bad hg] at hQ
    (repeat'(first|(refine sx ?_ ?_<;>intro h<;>first|(exfalso;omega)|skip)|refine ny ?_|refine WA_block ?_))
    all_goals(try(exfalso;omega))
    all_goals exact r_esA hQ (v':= .tup [.int .i64 0,.bool false]) (.inl ⟨rfl,rfl,0,rfl,fun k hk=>by cases hk⟩)
  · obtain⟨c,r,hsc⟩:∃ c r,s=c::r:=by cases s with|nil=>exact absurd rfl h0|cons c r=>exact⟨c,r,rfl⟩
    have hc0:s[0]?=some c:=by rw [hsc];rfl
    have hl:s.length=r.length+1:=by rw [hsc];rfl
    have hfr:frP s=if c=45 then 1 else 0:=by rw [hsc];simp [frP]
    obtain⟨f,hf,hcf⟩:∃ f:Nat,frP s=f∧(((c.toNat:Int)=45∧f=1)∨(¬ (c.toNat:Int)=45∧f=0)):=by
      refine⟨_,rfl,?_⟩
      rw [hfr]
      by_cases e:c=45
      · rw [if_pos e];subst e;exact .inl ⟨rfl,rfl⟩
      · rw [if_neg e]
        refine .inr ⟨fun q=>e (UInt8.toNat_inj.1 (by show c.toNat=45;omega)),rfl⟩
    have hng:(s.length=f∨f+d<s.length)→¬ nGood d s:=fun h q=>by have:=q.1;have:=q.2.1;rw [hf] at *;omega
    clear hsc h0 hfr
    rcases hcf with ⟨hcz,rfl⟩|⟨hcz,rfl⟩
    all_goals(have FX:=hc0;repeat'(first|(refine sx ?_ ?_<;>intro h<;>first|(exfalso;omega)|skip)|refine ny ?_|refine WA_block ?_))
    all_goals(try(exfalso;omega))
    all_goals try
      (rw [numP_bad (hng (by omega))] at hQ
       exact r_esA hQ (v':= .tup [.int .i64 0,.bool false]) (.inl ⟨rfl,rfl,0,rfl,fun k hk=>by cases hk⟩))
    all_goals first
      |refine WA_while (σ:=Nat×Nat) [0,6,7,8] (fun q=>[.str s,.int .i64 (q.2:Int),.int .i64 1,.int .i64 (q.1:Int)]) (fun _=>lend m++[]) (fun q=>(frP s≤q.1∧q.1≤s.length)∧allD (rdD s q.1)∧q.2=valD 0 (rdD s q.1)) (fun q=>s.length - q.1) (1,0) ⟨⟨by rw [hf];omega,by omega⟩,by(have e:rdD s 1=[]:=List.length_eq_zero_iff.1 (by rw [rdD_len (by omega)];omega));rw [e];exact⟨(fun c h=>by cases h),rfl⟩⟩ tv_ rfl ?_
      |refine WA_while (σ:=Nat×Nat) [0,6,7,8] (fun q=>[.str s,.int .i64 (q.2:Int),.int .i64 0,.int .i64 (q.1:Int)]) (fun _=>lend m++[]) (fun q=>(frP s≤q.1∧q.1≤s.length)∧allD (rdD s q.1)∧q.2=valD 0 (rdD s q.1)) (fun q=>s.length - q.1) (0,0) ⟨⟨by rw [hf];omega,by omega⟩,by(have e:rdD s 0=[]:=List.length_eq_zero_iff.1 (by rw [rdD_len (by omega)];omega));rw [e];exact⟨(fun c h=>by cases h),rfl⟩⟩ tv_ rfl ?_
    all_goals(
      rintro⟨i,acc⟩ ⟨⟨hi1,hi2⟩,hal,hac⟩ L hL
      dsimp only at hi1 hi2 hal hac
      simp only [zipT]
      clear FX
      have hlen:=rdD_len hi2)
    all_goals(rcases Nat.lt_or_ge i s.length with hlt|hge)
    all_goals first
      | (have hlt':i<s.length:=hlt
         have hgi:=byt_get hlt
         have hab:acc<10 ^ 17:=by rw [hac];exact valD_10 hal (by rw [hlen];omega)
         have hbd:=fun h=>rdD_bad (d:=d) hlt hi1 h
         have hsn:=rdD_snoc hlt hi1
         have hdg:digP ((s.getD i 0).toNat:Int)↔(48≤(s.getD i 0).toNat∧(s.getD i 0).toNat≤57):=by unfold digP;omega
         generalize s.getD i 0=c at *)
      |skip
    all_goals first
      | (have hlt':=hlt
         (have FX:=And.intro hgi hab;repeat'(first|(refine sx ?_ ?_<;>intro h<;>first|(exfalso;omega)|skip)|(refine g_op ?_;refine g_call ?_;refine g_args ?_;(first|refine s_fn (bisdigit_c _ _) ?_)<;>try first|omega|assumption)|refine ny ?_|refine WA_block ?_)))
      |skip
    all_goals first
      | (have hh:¬ digP (c.toNat:Int):=by assumption
         rw [numP_bad (hbd (fun q=>hh (hdg.2 q)))] at hQ
         exact r_esA hQ (v':= .tup [.int .i64 0,.bool false]) (.inl ⟨rfl,rfl,0,rfl,fun k hk=>by cases hk⟩))
      | (have hh:digP (c.toNat:Int):=by assumption
         have hc8:=hdg.1 hh
         rw [wr_dig hc8 hab]
         refine next_ hL (i+1,10 * acc+(c.toNat - 48)) ⟨⟨by dsimp only;omega,by dsimp only;omega⟩,by dsimp only;rw [hsn];exact allD_snoc hal hc8,by dsimp only;rw [hsn,valD_snoc,hac]⟩ (by dsimp only;omega)
         done)
      |(exfalso;omega)
      |skip
    all_goals(
      obtain rfl:i=s.length:=by omega
      rw [rdD_all] at hal hac
      have hg:nGood d s:=⟨by omega,by omega,hal⟩
      have hab:acc<10 ^ 18:=by rw [hac];exact valD_10 hal (by rw [List.length_drop];omega)
      have hnp:=numP_good hd hg
      have hd1:=fun m=>bdec_c (-(acc:Int)) (by omega) m
      have hd2:=fun m=>bdec_c (acc:Int) (by omega) m
      unfold nV at hnp
      rw [←hac,hf] at hnp)
    all_goals(have FX:=hab;repeat'(first|(refine sx ?_ ?_<;>intro h<;>first|(exfalso;omega)|skip)|(refine g_op ?_;refine g_call ?_;refine g_args ?_;(first|refine s_fn (hd1 _) ?_|refine s_fn (hd2 _) ?_)<;>try first|omega|assumption)|refine ny ?_|refine WA_block ?_))
    all_goals(try(exfalso;omega))
    all_goals first
      |rw [if_pos (rfl:(1:Nat)=1)] at hnp
      |rw [if_neg (by decide:¬ (0:Nat)=1)] at hnp
    all_goals first
      | (rw [if_pos (by assumption)] at hnp
         rw [hnp] at hQ
         exact r_esA hQ (v':= .tup [.int .i64 (-(acc:Int)),.bool true]) (.inl ⟨rfl,rfl,_,rfl,fun k hk=>by injection hk⟩))
      | (rw [if_neg (by assumption)] at hnp
         rw [hnp] at hQ
         exact r_esA hQ (v':= .tup [.int .i64 (-(acc:Int)),.bool false]) (.inl ⟨rfl,rfl,_,rfl,fun k hk=>by cases hk⟩))
      | (rw [if_pos (by assumption)] at hnp
         rw [hnp] at hQ
         exact r_esA hQ (v':= .tup [.int .i64 (acc:Int),.bool true]) (.inl ⟨rfl,rfl,_,rfl,fun k hk=>by injection hk⟩))
      | (rw [if_neg (by assumption)] at hnp
         rw [hnp] at hQ
         exact r_esA hQ (v':= .tup [.int .i64 (acc:Int),.bool false]) (.inl ⟨rfl,rfl,_,rfl,fun k hk=>by cases hk⟩))
end Go.Proofs.YtomkbpoicjabfaaGreatDoor
