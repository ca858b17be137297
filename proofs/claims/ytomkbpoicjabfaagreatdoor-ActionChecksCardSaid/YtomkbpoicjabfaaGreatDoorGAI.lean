import Derived.Test.YtomkbpoicjabfaaGreatDoorGAG
import Derived.Test.YtomkbpoicjabfaaGreatDoorX3
import Derived.Test.YtomkbpoicjabfaaGreatDoorC19
import Derived.Test.YtomkbpoicjabfaaGreatDoorGAE
import Derived.Test.YtomkbpoicjabfaaGreatDoorGAA
import Derived.Lib.ItoaLen
import Derived.Test.YtomkbpoicjabfaaGreatDoorC5
set_option linter.unusedSimpArgs false
set_option linter.unusedVariables false
/- what a text tells of an action: the plain reading of both sides -/
namespace Go.Proofs.YtomkbpoicjabfaaGreatDoor
open Go.RowKit
attribute [local irreducible] WA WOs WDs WAn qThen qBlock tput
set_option maxHeartbeats 1000000
set_option maxRecDepth 20000
set_option linter.unusedSimpArgs false
set_option linter.unusedVariables false
theorem cutP_sub {c:UInt8}:∀ {s p:Txt},p∈cutP c s→p.length≤s.length
  | [],p,h=>by
    obtain rfl:=List.mem_singleton.1 h
    exact Nat.le_refl _
  | b ::l,p,h=>by
    have ih:=fun p=>cutP_sub (c:=c) (s:=l) (p:=p)
    unfold cutP at h
    rw [List.length_cons]
    split at h
    · rcases List.mem_cons.1 h with rfl|h
      · exact Nat.zero_le _
      · have:=ih p h;omega
    · split at h
      · rename_i q r hq
        rw [hq] at ih
        rcases List.mem_cons.1 h with rfl|h
        · have:=ih q List.mem_cons_self
          rw [List.length_cons];omega
        · have:=ih p (List.mem_cons_of_mem _ h);omega
      · obtain rfl:=List.mem_singleton.1 h
        show 1≤_;omega
def actionT:Txt:=[97,99,116,105,111,110]
def partT:Txt:=[112,97,114,116]
def eventT:Txt:=[101,118,101,110,116]
def leadT:Txt:=[108,101,97,100]
def riseT:Txt:=[114,105,115,101]
def fallT:Txt:=[102,97,108,108]
def knP:List Int→List Rk
  |x::y::r=>((x,1),(y,1))::knP r
  |_=>[]
/-- a part's words, behind the first -/
def partP:List Txt→Option PartR
  |nm::dr::r=>if 2≤r.length∧r.length % 2=0∧dr≠[] then (numsP 7 r).map fun n=>⟨nm,if dr=[45] then [] else dr,knP (n.drop 2),n.getD 0 0,n.getD 1 0⟩ else none
  |_=>none
def evP:List Txt→Option EvR
  |[nm,pt,dr,lv]=>if dr=riseT∨dr=fallT then (numP 7 lv).map fun n=>⟨nm,pt,n,decide (dr=fallT)⟩ else none
  |_=>none
/-- an action and a line more -/
def lineA (first:Bool) (a:ActR) (s:Txt):Option ActR:=match cutP 32 s with
  | o::w=>if decide (o=actionT)≠first then none
    else if o=partT∧a.evs=[]∧a.leads=[] then (partP w).map fun p=>⟨a.dip,a.parts++[p],a.evs,a.leads⟩
    else if o=eventT∧a.leads=[] then (evP w).map fun e=>⟨a.dip,a.parts,a.evs++[e],a.leads⟩
    else if o=actionT∧w.length=1 then (numsP 7 w).map fun n=>⟨n.getD 0 0,a.parts,a.evs,a.leads⟩
    else if o=leadT∧w.length=2 then (numsP 7 w).map fun n=>⟨a.dip,a.parts,a.evs,a.leads++[(n.getD 0 0,n.getD 1 0)]⟩
    else none
  |[]=>none
/-- an action and rows more, the last of them empty; or the number of the row that is wrong -/
def rowsA:Nat→ActR→List Txt→Except Nat ActR
  |_,a,[]=> .ok a
  |k,a,[r]=>if r=[] then .ok a else .error (k+1)
  | k,a,r::q::rs=>match lineA (decide (k=0)) a r with
    |some b=>rowsA (k+1) b (q::rs)
    |none=> .error (k+1)
def az:ActR:=⟨0,[],[],[]⟩
/-- what Parse tells of a text -/
def prsA(s:Txt):ActR×Int×Int:=if 60000<s.length then (az,0,8) else match rowsA 0 az (cutP 10 s) with
  | .error k=>(az,k,7)
  | .ok a=>if (cutP 10 s).length=1 then (az,1,7) else if acErr a=0 then (a,0,0) else (az,0,acErr a)
def paV(p:ActR×Int×Int):V:= .tup [.agg (actV p.1),.int .i64 p.2.1,.int .i64 p.2.2]
theorem ln_cut:∀ {s:Txt},s≠[]→(∃ p,ln1 s=p++[10]∧(∀ c∈p,c≠10)∧cutP 10 s=p::cutP 10 (lnR s))∨(ln1 s=s∧lnR s=[]∧(∀ c∈s,c≠10)∧cutP 10 s=[s])
  |[],h=>absurd rfl h
  | b ::l,_=>by
    by_cases hb:b=10
    · subst hb
      exact .inl ⟨[],by simp [ln1],(fun c hc=>by cases hc),by simp [cutP,lnR]⟩
    · by_cases hl:l=[]
      · subst hl
        exact .inr ⟨by simp [ln1,hb],by simp [lnR,hb],by simpa using hb,by simp [cutP,hb]⟩
      · rcases ln_cut hl with ⟨p,h1,h2,h3⟩|⟨h1,h2,h3,h4⟩
        · refine .inl ⟨b::p,by simp [ln1,hb,h1],?_,by simp [cutP,lnR,hb,h3]⟩
          intro c hc
          rcases List.mem_cons.1 hc with rfl|hc
          · exact hb
          · exact h2 c hc
        · refine .inr ⟨by simp [ln1,hb,h1],by simp [lnR,hb,h2],?_,by simp [cutP,hb,h4]⟩
          intro c hc
          rcases List.mem_cons.1 hc with rfl|hc
          · exact hb
          · exact h3 c hc
theorem rowsA_cut{k:Nat}{a:ActR}{p s:Txt}:rowsA k a (p::cutP 10 s)=match lineA (decide (k=0)) a p with
    |some b=>rowsA (k+1) b (cutP 10 s)
    |none=> .error (k+1):=by
  rcases h:cutP 10 s with _|⟨q,rs⟩
  · exact absurd h (cutP_ne 10 s)
  · rfl
theorem rowsA_one{k:Nat}{a:ActR}{s:Txt}(h:s≠[]):rowsA k a [s]= .error (k+1):=by
  unfold rowsA
  rw [if_neg h]
theorem suf_yes(p:Txt):Lib.hasSuffix (p++[10]) [10]=true∧Lib.trimSuffix (p++[10]) [10]=p:=by
  have h:Lib.hasSuffix (p++[10]) [10]=true:=by
    unfold Lib.hasSuffix
    rw [List.isSuffixOf_iff_suffix]
    exact List.suffix_append _ _
  refine⟨h,?_⟩
  unfold Lib.trimSuffix
  rw [if_pos h]
  simp
theorem suf_no{s:Txt}(h:∀ c∈s,c≠10):Lib.hasSuffix s [10]=false:=by
  cases hh:Lib.hasSuffix s [10] with
  |false=>rfl
  | true=>
    unfold Lib.hasSuffix at hh
    rw [List.isSuffixOf_iff_suffix] at hh
    obtain⟨t,rfl⟩:=hh
    exact absurd rfl (h 10 (by simp))
/-- sizes of an action that a text tells -/
structure AcN(k:Nat)(a:ActR):Prop where
  n:a.parts.length+a.evs.length+a.leads.length≤k
  p:∀ x∈a.parts,x.name.length≤1000∧x.cor.length≤1000
  e:∀ x∈a.evs,x.name.length≤1000
theorem gdm{α:Type}{l:List α}{d:α}{i:Nat}(hi:i<l.length):l.getD i d∈l:=by
  rw [List.getD_eq_getElem?_getD,List.getElem?_eq_getElem hi];exact List.getElem_mem _
theorem AcN.lt{k:Nat}{a:ActR}(h:AcN k a)(hk:k≤1000):Lt a:=by
  have h0:=h.n
  exact⟨by omega,by omega,by omega,fun i hi=>(h.p _ (gdm hi)).1,fun i hi=>h.e _ (gdm hi)⟩
theorem knP_len:∀ (n:Nat) (l:List Int),l.length≤n→(knP l).length≤l.length
  | 0,l,h=>by
    obtain rfl:l=[]:=List.length_eq_zero_iff.1 (by omega)
    exact Nat.le_refl _
  | n +1,l,h=>by
    rcases l with _|⟨x,_|⟨y,r⟩⟩
    · exact Nat.le_refl _
    · simp [knP]
    · simp only [List.length_cons] at h
      have:=knP_len n r (by omega)
      simp only [knP,List.length_cons]
      omega
theorem lineA_n {k:Nat} {f:Bool} {a b:ActR} {s:Txt} (h:AcN k a) (hs:s.length≤999) (hl:lineA f a s=some b):AcN (k+1) b:=by
  have h0:=h.n
  have hcm:=fun p=>cutP_sub (c:=32) (s:=s) (p:=p)
  have hcl:=cutP_len 32 s
  unfold lineA at hl
  rcases hc:cutP 32 s with _|⟨o,w⟩
  · exact absurd hc (cutP_ne 32 s)
  · rw [hc] at hl hcm hcl
    simp only [List.length_cons] at hcl
    dsimp only at hl
    split at hl
    · cases hl
    split at hl
    · rcases w with _|⟨nm,_|⟨dr,r⟩⟩
      · cases hl
      · cases hl
      · simp only [partP] at hl
        split at hl
        · cases hn:numsP 7 r with
          |none=>rw [hn] at hl;cases hl
          | some l=>
            rw [hn] at hl
            cases hl
            refine⟨by simp;omega,fun x hx=>?_,h.e⟩
            rcases List.mem_append.1 hx with hx|hx
            · exact h.p x hx
            · obtain rfl:=List.mem_singleton.1 hx
              have h1:=hcm nm (by simp)
              have h2:=knP_len _ (l.drop 2) (Nat.le_refl _)
              have h3:=numsP_len hn
              rw [List.length_drop] at h2
              simp only [List.length_cons] at hcl
              exact⟨by dsimp only;omega,by dsimp only;omega⟩
        · cases hl
    split at hl
    · rcases hv:evP w with _|e
      · rw [hv] at hl;cases hl
      · rw [hv] at hl
        cases hl
        refine⟨by simp;omega,h.p,fun x hx=>?_⟩
        rcases List.mem_append.1 hx with hx|hx
        · exact h.e x hx
        · obtain rfl:=List.mem_singleton.1 hx
          rcases w with _|⟨nm,_|⟨pt,_|⟨dr,_|⟨lv,_|⟨z,r⟩⟩⟩⟩⟩<;>simp only [evP] at hv<;>try(cases hv;done)
          split at hv
          · rcases hn:numP 7 lv with _|n
            · rw [hn] at hv;cases hv
            · rw [hn] at hv
              cases hv
              have h1:=hcm nm (by simp)
              dsimp only
              omega
          · cases hv
    split at hl
    · rcases hn:numsP 7 w with _|n
      · rw [hn] at hl;cases hl
      · rw [hn] at hl
        cases hl
        exact⟨by dsimp only;omega,h.p,h.e⟩
    split at hl
    · rcases hn:numsP 7 w with _|n
      · rw [hn] at hl;cases hl
      · rw [hn] at hl
        cases hl
        exact⟨by simp;omega,h.p,h.e⟩
    · cases hl
theorem az_n:AcN 0 az:=⟨Nat.le_refl _,fun x hx=>by simp [az] at hx,fun x hx=>by simp [az] at hx⟩
end Go.Proofs.YtomkbpoicjabfaaGreatDoor
namespace Go.Proofs.YtomkbpoicjabfaaGreatDoor
end Go.Proofs.YtomkbpoicjabfaaGreatDoor
namespace Go.Proofs.YtomkbpoicjabfaaGreatDoor
open Go.RowKit
attribute [local irreducible] WA WOs WDs WAn qThen qBlock tput
set_option maxHeartbeats 1000000
set_option maxRecDepth 20000
set_option linter.unusedSimpArgs false
set_option linter.unusedVariables false
set_option maxHeartbeats 4000000
/-- what is to be written yet, and behind it what is written -/
def dS(m:Nat)(s:Txt):Txt:=if m=0 then s else Lib.decDigits m++s
theorem dS_step{m:Nat}(h:m≠0)(s:Txt):dS m s=dS (m / 10) (UInt8.ofNat (48+m % 10)::s):=by
  unfold dS
  rw [if_neg h]
  by_cases h9:m<10
  · rw [if_pos (by omega),Lib.decDigits,dif_pos h9,Nat.mod_eq_of_lt h9];rfl
  · rw [if_neg (by omega),Lib.decDigits,dif_neg h9,List.append_assoc];rfl
theorem u8_of{d:Nat}(h:d<256):((UInt8.ofNat d).toNat:Int)=d:=by
  rw [UInt8.toNat_ofNat'];omega
theorem itoa_dS{n:Int}(h:n≠0):Lib.itoa n=if n<0 then 45::dS n.natAbs [] else dS n.natAbs []:=by
  unfold Lib.itoa dS
  have h1:¬ n.natAbs=0:=by omega
  simp only [h1,if_false,List.append_nil]
  split
  · rfl
  · rw [show n.toNat=n.natAbs by omega]
theorem dS_len(m:Nat)(s:Txt):s.length≤(dS m s).length:=by
  unfold dS
  split
  · exact Nat.le_refl _
  · rw [List.length_append];omega
theorem dS_len20{m:Nat}(h:m≤9223372036854775808):(dS m []).length≤20:=by
  unfold dS
  split
  · simp
  · rw [List.append_nil,Lib.decDigits_length];exact Lib.nDigits_le20 m (by omega)
theorem app_last{B:Mem}{x:Blk}:(B++[x])[B.length]?=some x:=by simp
def deS(n:Int)(s:Int×Txt):List TV:=[.v (.int .i64 n),.v (.int .i64 s.1),.v (.str s.2)]

theorem bdec_c(n:Int)(hn:n.natAbs≤9223372036854775808)(m:Mem):Gives Tryz.prog 45 [.int .i64 n] m (.str (Lib.itoa n)):=by
  suffices key:CallA Tryz.prog 45 [.int .i64 n] m (fun v mo=>mo=none∧WkV v (.str (Lib.itoa n))) from Gives_ofX key fun v mo h=>h
  refine CallA_in Tryz.func45 rfl Tryz.ntmps45 Tryz.results45 (by kernel_rfl) (by simp) fun Q hQ=>?_
  (repeat'(first|(refine sx ?_ ?_<;>intro h<;>first|(exfalso;omega)|skip)|refine ny ?_|refine WA_block ?_))
  · subst h
    refine r_esA hQ (v':= .str [48]) (.inl ⟨rfl,rfl,?_⟩)
    exact(show Lib.itoa 0=[48] from(show Lib.itoa 0=Lib.decDigits 0 from rfl).trans (by rw [Lib.decDigits];rfl)) ▸ WkV.refl _
  · rw [itoa_dS h] at hQ
    refine WA_whileT (σ:=Int×Txt) (L:=lend m) [0,4,3] (deS n) (fun _=>[]) (fun s=>s.1.natAbs≤n.natAbs∧dS s.1.natAbs s.2=dS n.natAbs []) (fun s=>s.1.natAbs) (n,[]) ⟨Nat.le_refl _,rfl⟩ (by simp only [deS,List.map_cons,List.map_nil,TV.inst];exact tv_) rfl (by decide) (fun _ _=>rfl) (fun _ _=>rfl) ?_
    rintro⟨u,s⟩ ⟨hu,hs⟩ B ⟨D,hB⟩ K hK
    dsimp only at hu hs
    simp only [deS]
    have hd:(u.tmod 10).natAbs=u.natAbs % 10:=Int.natAbs_tmod u 10
    have hq:(u.tdiv 10).natAbs=u.natAbs / 10:=Int.natAbs_tdiv u 10
    have hab:=fun m=>babs_c (u.tmod 10) (by omega) (by omega) m
    rw [hd] at hab
    have hb9:u.natAbs % 10<10:=Nat.mod_lt _ (by decide)
    have hst:=fun(h:u≠0)=>dS_step (m:=u.natAbs) (by omega) s
    generalize u.natAbs % 10=c at hd hb9 hab hst
    have hsl:s.length≤20:=Nat.le_trans (dS_len u.natAbs s) (hs ▸ dS_len20 hn)
    have hw8:IntKind.u8.wrap (48+(c:Int))=((UInt8.ofNat (48+c)).toNat:Int):=by
      rw [u8_of (d:=48+c) (by omega)]
      simp [IntKind.wrap,IntKind.bits,IntKind.signed]
      omega
    have h8:=u8_of (d:=48+c) (by omega)
    simp only [List.map_cons,List.map_nil,TB.inst,TV.inst,tv_map,zipT,List.cons_append,List.nil_append,Nat.add_zero]
    (have FX:=And.intro hb9 hsl;repeat'(first|(refine sx ?_ ?_<;>intro h<;>first|(exfalso;omega)|skip)|(refine g_op ?_;refine g_call ?_;refine g_args ?_;(first|refine s_fn (hab _) ?_)<;>try first|omega|assumption)|refine ny ?_|refine WA_block ?_))
    · refine g_op ?_
      refine s_bk (c:=UInt8.ofNat (48+c)) ?_ hw8 (by exact lk_) app_last rfl (by kernel_rfl)
      (have FX:=And.intro hb9 hsl;repeat'(first|(refine sx ?_ ?_<;>intro h<;>first|(exfalso;omega)|skip)|(refine g_op ?_;refine g_call ?_;refine g_args ?_;(first|refine s_fn (hab _) ?_)<;>try first|omega|assumption)|refine ny ?_|refine WA_block ?_))
      exact hK (u.tdiv 10,UInt8.ofNat (48+c)::s) [] _ _ ⟨_,rfl,by simp only [deS,List.map_cons,List.map_nil,TV.inst];exact tv_,rfl,List.nodup_nil⟩ ⟨by dsimp only;omega,by dsimp only;rw [hq,←hst h];exact hs⟩ (by dsimp only;omega)
    all_goals(obtain rfl:u=0:=by assumption)
    all_goals(rw [show dS (Int.natAbs 0) s=s from rfl] at hs;rw [←hs] at hQ)
    · rw [if_pos (by assumption)] at hQ
      exact r_esA hQ (v':= .str (45::s)) (.inl ⟨rfl,rfl,WkV.refl _⟩)
    · rw [if_neg (by assumption)] at hQ
      exact r_esA hQ (v':= .str s) (.inl ⟨rfl,rfl,WkV.refl _⟩)
def frP(s:Txt):Nat:=if s.head?=some 45 then 1 else 0
def valD(acc:Nat)(l:Txt):Nat:=l.foldl (fun a c=>10 * a+(c.toNat - 48)) acc
def allD(l:Txt):Prop:=∀ c∈l,48≤c.toNat∧c.toNat≤57
theorem valD_lt:∀ (l:Txt) (acc:Nat),allD l→valD acc l<(acc+1) * 10 ^ l.length
  |[],acc,_=>by show acc<_;simp
  | c::r,acc,h=>by
    have hc:=h c List.mem_cons_self
    have:=valD_lt r (10 * acc+(c.toNat - 48)) fun x hx=>h x (List.mem_cons_of_mem _ hx)
    show valD (10 * acc+(c.toNat - 48)) r<_
    rw [List.length_cons,Nat.pow_succ]
    have h2:(10 * acc+(c.toNat - 48)+1) * 10 ^ r.length≤(10 * (acc+1)) * 10 ^ r.length:=Nat.mul_le_mul_right _ (by omega)
    have h3:(acc+1) * (10 ^ r.length * 10)=(10 * (acc+1)) * 10 ^ r.length:=by grind
    omega
theorem pu_ok:∀ (l:Txt) (acc:Nat),allD l→(acc+1) * 10 ^ l.length≤10 ^ 18→Lib.parseUint10 acc l= .ok (valD acc l)
  |[],acc,_,_=>rfl
  | c ::r,acc,h,hb=>by
    have hc:=h c List.mem_cons_self
    have h2:(acc * 10+(c.toNat - 48)+1) * 10 ^ r.length≤10 ^ 18:=by
      rw [List.length_cons,Nat.pow_succ] at hb
      have h2:(acc * 10+(c.toNat - 48)+1) * 10 ^ r.length≤(10 * (acc+1)) * 10 ^ r.length:=Nat.mul_le_mul_right _ (by omega)
      have h3:(acc+1) * (10 ^ r.length * 10)=(10 * (acc+1)) * 10 ^ r.length:=by grind
      omega
    have h4:acc * 10+(c.toNat - 48)+1≤10 ^ 18:=Nat.le_trans (Nat.le_mul_of_pos_right _ (Nat.pow_pos (by decide))) h2
    have ih:=pu_ok r (acc * 10+(c.toNat - 48)) (fun x hx=>h x (List.mem_cons_of_mem _ hx)) h2
    have he:valD acc (c::r)=valD (acc * 10+(c.toNat - 48)) r:=by
      show valD (10 * acc+(c.toNat - 48)) r=_
      rw [Nat.mul_comm]
    rw [Lib.parseUint10,if_pos ⟨by omega,by omega⟩,if_neg (by omega),if_neg (by omega),ih,he]
theorem pm_ok{l:Txt}(h0:l≠[])(hl:l.length≤18)(h:allD l):Lib.parseMag l= .ok (valD 0 l):=by
  unfold Lib.parseMag
  rw [if_neg h0]
  exact pu_ok l 0 h (by rw [Nat.zero_add,Nat.one_mul];exact Nat.pow_le_pow_right (by decide) hl)
theorem at_ok{c:UInt8}{r:Txt}{u:Nat}(h:Lib.parseMag (if c.toNat=43∨c.toNat=45 then r else c::r)= .ok u)(hu:u<10 ^ 18):Lib.atoiAll (c::r)= .ok (if c.toNat=45 then -(u:Int) else u):=by
  unfold Lib.atoiAll
  simp only [h]
  rw [if_neg (by omega),if_neg (by omega)]
theorem dec_dig (u:Nat):allD (Lib.decDigits u):=by
  induction u using Nat.strongRecOn with
  | _ u ih=>
    intro c hc
    rw [Lib.decDigits] at hc
    split at hc
    · obtain rfl:=List.mem_singleton.1 hc
      have:=u8_of (d:=48+u) (by omega)
      omega
    · rcases List.mem_append.1 hc with hc|hc
      · exact ih (u / 10) (by omega) c hc
      · obtain rfl:=List.mem_singleton.1 hc
        have:=u8_of (d:=48+u % 10) (by omega)
        omega
/-- the number that a text's digits tell -/
def nV(s:Txt):Int:=if frP s=1 then -(valD 0 (s.drop (frP s)):Int) else valD 0 (s.drop (frP s))
def nGood(d:Nat)(s:Txt):Prop:=s.length≠frP s∧s.length≤frP s+d∧allD (s.drop (frP s))
theorem numP_good {d:Nat} (hd:d≤18) {s:Txt} (h:nGood d s):numP d s=if Lib.itoa (nV s)=s then some (nV s) else none:=by
  obtain⟨h1,h2,h3⟩:=h
  cases s with
  |nil=>exact absurd rfl h1
  | cons c r=>
    by_cases hc:c=45
    · subst hc
      have hf:frP (45::r)=1:=rfl
      have hv:nV (45::r)= -(valD 0 r:Int):=rfl
      rw [hf] at h1 h2 h3
      have h3':allD r:=h3
      rw [List.length_cons] at h1 h2
      have hp:=pm_ok (l:=r) (fun e=>by subst e;simp at h1) (by omega) h3'
      have hlt:=valD_lt r 0 h3'
      have hle:10 ^ r.length≤10 ^ 18:=Nat.pow_le_pow_right (by decide) (by omega)
      have ha:=at_ok (c:=45) (r:=r) (u:=valD 0 r) hp (by omega)
      rw [if_pos (by decide)] at ha
      have ht:Lib.trimPrefix (45::r) [45]=r:=by simp [Lib.trimPrefix,Lib.hasPrefix]
      unfold numP
      rw [ha,hv,ht]
      dsimp only
      by_cases he:Lib.itoa (-(valD 0 r:Int))=45::r
      · rw [if_pos ⟨he,by omega⟩,if_pos he]
      · rw [if_neg (fun q=>he q.1),if_neg he]
    · have hf:frP (c::r)=0:=by simp [frP,hc]
      have hv:nV (c::r)=(valD 0 (c::r):Int):=by simp [nV,hf]
      rw [hf] at h1 h2 h3
      have h3':allD (c::r):=h3
      have hcd:=h3' c List.mem_cons_self
      have hp:=pm_ok (l:=c::r) (by simp) (by omega) h3'
      have hlt:=valD_lt (c::r) 0 h3'
      have hle:10 ^ (c::r).length≤10 ^ 18:=Nat.pow_le_pow_right (by decide) (by omega)
      have ha:=at_ok (c:=c) (r:=r) (u:=valD 0 (c::r)) (by rw [if_neg (by omega)];exact hp) (by omega)
      rw [if_neg (by omega)] at ha
      have ht:Lib.trimPrefix (c::r) [45]=c::r:=by
        have:¬ (45:UInt8)=c:=fun e=>hc e.symm
        simp [Lib.trimPrefix,Lib.hasPrefix,this]
      unfold numP
      rw [ha,hv,ht]
      dsimp only
      by_cases he:Lib.itoa (valD 0 (c::r):Int)=c::r
      · rw [if_pos ⟨he,by omega⟩,if_pos he]
      · rw [if_neg (fun q=>he q.1),if_neg he]
theorem valD_snoc(l:Txt)(c:UInt8)(acc:Nat):valD acc (l++[c])=10 * valD acc l+(c.toNat - 48):=by
  unfold valD;rw [List.foldl_append];rfl
theorem xsV_snocT(l:List Txt)(x:Txt):xsV (l++[x])=xsV l++[[.str x]]:=by simp [xsV]
end Go.Proofs.YtomkbpoicjabfaaGreatDoor
namespace Go.Proofs.YtomkbpoicjabfaaGreatDoor
end Go.Proofs.YtomkbpoicjabfaaGreatDoor
