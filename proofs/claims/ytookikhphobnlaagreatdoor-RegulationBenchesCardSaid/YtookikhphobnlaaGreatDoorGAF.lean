import Derived.Test.YtookikhphobnlaaGreatDoorGAE
set_option linter.unusedSimpArgs false
set_option linter.unusedVariables false
/- contracts: the reference reads numbers as the program does -/
namespace Go.Proofs.YtookikhphobnlaaGreatDoor
open Go.RowKit
attribute [local irreducible] WA WOs WDs WAn qThen qBlock tput
set_option maxHeartbeats 1000000
set_option maxRecDepth 20000
set_option linter.unusedSimpArgs false
set_option linter.unusedVariables false
set_option maxHeartbeats 4000000
def frP(s:Txt):Nat:=if s.head?=some 45 then 1 else 0
def valD(acc:Nat)(l:Txt):Nat:=l.foldl (fun a c=>10 * a+(c.toNat - 48)) acc
def allD(l:Txt):Prop:=∀ c∈l,48≤c.toNat∧c.toNat≤57
theorem valD_lt:∀ (l:Txt) (acc:Nat),allD l→valD acc l<(acc+1) * 10 ^ l.length
  |[],acc,_=>by show acc<_;simp
  | c::r,acc,h=>by
    have hc:=h c List.mem_cons_self
    have:=valD_lt r (10 * acc+(c.toNat - 48)) fun x hx=>h x (List.mem_cons_of_mem _ hx)
    show valD (10 * acc+(c.toNat - 48)) r<_
    rw [List.length_cons,Nat.pow_succ]
    have h2:(10 * acc+(c.toNat - 48)+1) * 10 ^ r.length≤(10 * (acc+1)) * 10 ^ r.length:=Nat.mul_le_mul_right _ (by omega)
    have h3:(acc+1) * (10 ^ r.length * 10)=(10 * (acc+1)) * 10 ^ r.length:=by grind
    omega
theorem pu_ok:∀ (l:Txt) (acc:Nat),allD l→(acc+1) * 10 ^ l.length≤10 ^ 18→Lib.parseUint10 acc l= .ok (valD acc l)
  |[],acc,_,_=>rfl
  | c ::r,acc,h,hb=>by
    have hc:=h c List.mem_cons_self
    have h2:(acc * 10+(c.toNat - 48)+1) * 10 ^ r.length≤10 ^ 18:=by
      rw [List.length_cons,Nat.pow_succ] at hb
      have h2:(acc * 10+(c.toNat - 48)+1) * 10 ^ r.length≤(10 * (acc+1)) * 10 ^ r.length:=Nat.mul_le_mul_right _ (by omega)
      have h3:(acc+1) * (10 ^ r.length * 10)=(10 * (acc+1)) * 10 ^ r.length:=by grind
      omega
    have h4:acc * 10+(c.toNat - 48)+1≤10 ^ 18:=Nat.le_trans (Nat.le_mul_of_pos_right _ (Nat.pow_pos (by decide))) h2
    have ih:=pu_ok r (acc * 10+(c.toNat - 48)) (fun x hx=>h x (List.mem_cons_of_mem _ hx)) h2
    have he:valD acc (c::r)=valD (acc * 10+(c.toNat - 48)) r:=by
      show valD (10 * acc+(c.toNat - 48)) r=_
      rw [Nat.mul_comm]
    rw [Lib.parseUint10,if_pos ⟨by omega,by omega⟩,if_neg (by omega),if_neg (by omega),ih,he]
theorem pm_ok{l:Txt}(h0:l≠[])(hl:l.length≤18)(h:allD l):Lib.parseMag l= .ok (valD 0 l):=by
  unfold Lib.parseMag
  rw [if_neg h0]
  exact pu_ok l 0 h (by rw [Nat.zero_add,Nat.one_mul];exact Nat.pow_le_pow_right (by decide) hl)
theorem at_ok{c:UInt8}{r:Txt}{u:Nat}(h:Lib.parseMag (if c.toNat=43∨c.toNat=45 then r else c::r)= .ok u)(hu:u<10 ^ 18):Lib.atoiAll (c::r)= .ok (if c.toNat=45 then -(u:Int) else u):=by
  unfold Lib.atoiAll
  simp only [h]
  rw [if_neg (by omega),if_neg (by omega)]
theorem dec_dig (u:Nat):allD (Lib.decDigits u):=by
  induction u using Nat.strongRecOn with
  | _ u ih=>
    intro c hc
    rw [Lib.decDigits] at hc
    split at hc
    · obtain rfl:=List.mem_singleton.1 hc
      have:=u8_of (d:=48+u) (by omega)
      omega
    · rcases List.mem_append.1 hc with hc|hc
      · exact ih (u / 10) (by omega) c hc
      · obtain rfl:=List.mem_singleton.1 hc
        have:=u8_of (d:=48+u % 10) (by omega)
        omega
/-- the number that a text's digits tell -/
def nV(s:Txt):Int:=if frP s=1 then -(valD 0 (s.drop (frP s)):Int) else valD 0 (s.drop (frP s))
def nGood(d:Nat)(s:Txt):Prop:=s.length≠frP s∧s.length≤frP s+d∧allD (s.drop (frP s))
theorem numP_good {d:Nat} (hd:d≤18) {s:Txt} (h:nGood d s):numP d s=if Lib.itoa (nV s)=s then some (nV s) else none:=by
  obtain⟨h1,h2,h3⟩:=h
  cases s with
  |nil=>exact absurd rfl h1
  | cons c r=>
    by_cases hc:c=45
    · subst hc
      have hf:frP (45::r)=1:=rfl
      have hv:nV (45::r)= -(valD 0 r:Int):=rfl
      rw [hf] at h1 h2 h3
      have h3':allD r:=h3
      rw [List.length_cons] at h1 h2
      have hp:=pm_ok (l:=r) (fun e=>by subst e;simp at h1) (by omega) h3'
      have hlt:=valD_lt r 0 h3'
      have hle:10 ^ r.length≤10 ^ 18:=Nat.pow_le_pow_right (by decide) (by omega)
      have ha:=at_ok (c:=45) (r:=r) (u:=valD 0 r) hp (by omega)
      rw [if_pos (by decide)] at ha
      have ht:Lib.trimPrefix (45::r) [45]=r:=by simp [Lib.trimPrefix,Lib.hasPrefix]
      unfold numP
      rw [ha,hv,ht]
      dsimp only
      by_cases he:Lib.itoa (-(valD 0 r:Int))=45::r
      · rw [if_pos ⟨he,by omega⟩,if_pos he]
      · rw [if_neg (fun q=>he q.1),if_neg he]
    · have hf:frP (c::r)=0:=by simp [frP,hc]
      have hv:nV (c::r)=(valD 0 (c::r):Int):=by simp [nV,hf]
      rw [hf] at h1 h2 h3
      have h3':allD (c::r):=h3
      have hcd:=h3' c List.mem_cons_self
      have hp:=pm_ok (l:=c::r) (by simp) (by omega) h3'
      have hlt:=valD_lt (c::r) 0 h3'
      have hle:10 ^ (c::r).length≤10 ^ 18:=Nat.pow_le_pow_right (by decide) (by omega)
      have ha:=at_ok (c:=c) (r:=r) (u:=valD 0 (c::r)) (by rw [if_neg (by omega)];exact hp) (by omega)
      rw [if_neg (by omega)] at ha
      have ht:Lib.trimPrefix (c::r) [45]=c::r:=by
        have:¬ (45:UInt8)=c:=fun e=>hc e.symm
        simp [Lib.trimPrefix,Lib.hasPrefix,this]
      unfold numP
      rw [ha,hv,ht]
      dsimp only
      by_cases he:Lib.itoa (valD 0 (c::r):Int)=c::r
      · rw [if_pos ⟨he,by omega⟩,if_pos he]
      · rw [if_neg (fun q=>he q.1),if_neg he]
theorem valD_snoc(l:Txt)(c:UInt8)(acc:Nat):valD acc (l++[c])=10 * valD acc l+(c.toNat - 48):=by
  unfold valD;rw [List.foldl_append];rfl
end Go.Proofs.YtookikhphobnlaaGreatDoor
namespace Go.Proofs.YtookikhphobnlaaGreatDoor
end Go.Proofs.YtookikhphobnlaaGreatDoor
namespace Go.Proofs.YtookikhphobnlaaGreatDoor
open Go.RowKit
attribute [local irreducible] WA WOs WDs WAn qThen qBlock tput
set_option maxHeartbeats 1000000
set_option maxRecDepth 20000
set_option linter.unusedSimpArgs false
set_option linter.unusedVariables false
set_option maxHeartbeats 4000000
theorem cutP_sub {c:UInt8}:∀ {s p:Txt},p∈cutP c s→p.length≤s.length
  | [],p,h=>by
    obtain rfl:=List.mem_singleton.1 h
    exact Nat.le_refl _
  | b ::l,p,h=>by
    have ih:=fun p=>cutP_sub (c:=c) (s:=l) (p:=p)
    unfold cutP at h
    rw [List.length_cons]
    split at h
    · rcases List.mem_cons.1 h with rfl|h
      · exact Nat.zero_le _
      · have:=ih p h;omega
    · split at h
      · rename_i q r hq
        rw [hq] at ih
        rcases List.mem_cons.1 h with rfl|h
        · have:=ih q List.mem_cons_self
          rw [List.length_cons];omega
        · have:=ih p (List.mem_cons_of_mem _ h);omega
      · obtain rfl:=List.mem_singleton.1 h
        show 1≤_;omega
def onT:Txt:=[111,110]
def afterT:Txt:=[97,102,116,101,114]
def measureT:Txt:=[109,101,97,115,117,114,101]
def adjustT:Txt:=[97,100,106,117,115,116]
/-- effects at the front of words, and the words behind them -/
def onP:List Txt→Option (List EfR×List Txt)
  |o::m::w::r=>if o=onT then (numP 7 w).bind fun n=>(onP r).map fun p=>(⟨m,n⟩::p.1,p.2) else some ([],o::m::w::r)
  |r=>some ([],r)
/-- names behind 'after' at the front of words, and the words behind them -/
def afP:List Txt→List Txt×List Txt
  |o::x::r=>if o=afterT then (x::(afP r).1,(afP r).2) else ([],o::x::r)
  |r=>([],r)
/-- an adjustment's words, behind the first: the adjustment, and whether they are right -/
def adjT:List Txt→AdR×Bool
  | nm::a::b::c::r=>match numsP 7 [a,b,c] with
    | some n=>match onP r with
      |some p=>(⟨nm,p.1,n.getD 0 0,n.getD 1 0,n.getD 2 0,(afP p.2).1⟩,decide ((afP p.2).2=[]))
      |none=>(adz,false)
    |none=>(adz,false)
  |_=>(adz,false)
/-- a bench and a line more -/
def lineP (b:BnR) (s:Txt):Option BnR:=match cutP 32 s with
  | o::w=>if o=measureT∧w.length=4∧b.ads=[] then (numsP 7 (w.drop 1)).map fun n=>⟨b.ms++[⟨w.getD 0 [],n.getD 0 0,n.getD 1 0,n.getD 2 0⟩],b.ads⟩
    else if o=adjustT then (if (adjT w).2=true then some ⟨b.ms,b.ads++[(adjT w).1]⟩ else none) else none
  |[]=>none
/-- a bench and rows more, the last of them empty; or the number of the row that is wrong -/
def rowsP:Nat→BnR→List Txt→Except Nat BnR
  |_,b,[]=> .ok b
  |k,b,[r]=>if r=[] then .ok b else .error (k+1)
  | k,b,r::q::rs=>match lineP b r with
    |some b'=>rowsP (k+1) b' (q::rs)
    |none=> .error (k+1)
theorem ln_cut:∀ {s:Txt},s≠[]→(∃ p,ln1 s=p++[10]∧(∀ c∈p,c≠10)∧cutP 10 s=p::cutP 10 (lnR s))∨(ln1 s=s∧lnR s=[]∧(∀ c∈s,c≠10)∧cutP 10 s=[s])
  |[],h=>absurd rfl h
  | b ::l,_=>by
    by_cases hb:b=10
    · subst hb
      exact .inl ⟨[],by simp [ln1],(fun c hc=>by cases hc),by simp [cutP,lnR]⟩
    · by_cases hl:l=[]
      · subst hl
        exact .inr ⟨by simp [ln1,hb],by simp [lnR,hb],by simpa using hb,by simp [cutP,hb]⟩
      · rcases ln_cut hl with ⟨p,h1,h2,h3⟩|⟨h1,h2,h3,h4⟩
        · refine .inl ⟨b::p,by simp [ln1,hb,h1],?_,by simp [cutP,lnR,hb,h3]⟩
          intro c hc
          rcases List.mem_cons.1 hc with rfl|hc
          · exact hb
          · exact h2 c hc
        · refine .inr ⟨by simp [ln1,hb,h1],by simp [lnR,hb,h2],?_,by simp [cutP,hb,h4]⟩
          intro c hc
          rcases List.mem_cons.1 hc with rfl|hc
          · exact hb
          · exact h3 c hc
theorem rowsP_cut{k:Nat}{b:BnR}{p s:Txt}:rowsP k b (p::cutP 10 s)=match lineP b p with
    |some b'=>rowsP (k+1) b' (cutP 10 s)
    |none=> .error (k+1):=by
  rcases h:cutP 10 s with _|⟨q,rs⟩
  · exact absurd h (cutP_ne 10 s)
  · rfl
theorem rowsP_one{k:Nat}{b:BnR}{s:Txt}(h:s≠[]):rowsP k b [s]= .error (k+1):=by
  simp only [rowsP,if_neg h]
theorem suf_yes(p:Txt):Lib.hasSuffix (p++[10]) [10]=true∧Lib.trimSuffix (p++[10]) [10]=p:=by
  have h:Lib.hasSuffix (p++[10]) [10]=true:=by
    unfold Lib.hasSuffix
    rw [List.isSuffixOf_iff_suffix]
    exact List.suffix_append _ _
  refine⟨h,?_⟩
  unfold Lib.trimSuffix
  rw [if_pos h]
  simp
theorem suf_no{s:Txt}(h:∀ c∈s,c≠10):Lib.hasSuffix s [10]=false:=by
  cases hh:Lib.hasSuffix s [10] with
  |false=>rfl
  | true=>
    unfold Lib.hasSuffix at hh
    rw [List.isSuffixOf_iff_suffix] at hh
    obtain⟨t,rfl⟩:=hh
    exact absurd rfl (h 10 (by simp))
end Go.Proofs.YtookikhphobnlaaGreatDoor
namespace Go.Proofs.YtookikhphobnlaaGreatDoor
end Go.Proofs.YtookikhphobnlaaGreatDoor
