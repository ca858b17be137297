import Derived.Test.YtookikhphobnlaaGreatDoorX13
import Derived.Test.YtookikhphobnlaaGreatDoorGAH
import Derived.Test.YtookikhphobnlaaGreatDoorB26
import Derived.Test.YtookikhphobnlaaGreatDoorB7
import Derived.Test.YtookikhphobnlaaGreatDoorBW
import Derived.Test.YtookikhphobnlaaGreatDoorGAB
set_option linter.unusedSimpArgs false
set_option linter.unusedVariables false
/- a bench that a text tells: sizes; contract of Parse -/
namespace Go.Proofs.YtookikhphobnlaaGreatDoor
open Go.RowKit
attribute [local irreducible] WA WOs WDs WAn qThen qBlock tput
set_option maxHeartbeats 1000000
set_option maxRecDepth 20000
set_option linter.unusedSimpArgs false
set_option linter.unusedVariables false
set_option maxHeartbeats 4000000
structure BlN(k:Nat)(b:BnR):Prop where
  n:b.ms.length+b.ads.length≤k
  m:∀ x∈b.ms,x.name.length≤1000
  a:∀ x∈b.ads,x.name.length≤1000∧x.effs.length≤1000∧x.after.length≤1000
theorem BlN.bl{k:Nat}{b:BnR}(h:BlN k b)(hk:k≤1000):Bl b:=by
  have h0:=h.n
  have hm:∀ i,i<b.ms.length→b.ms.getD i msz∈b.ms:=fun i hi=>by rw [List.getD_eq_getElem?_getD,List.getElem?_eq_getElem hi];exact List.getElem_mem _
  have ha:∀ i,i<b.ads.length→b.ads.getD i adz∈b.ads:=fun i hi=>by rw [List.getD_eq_getElem?_getD,List.getElem?_eq_getElem hi];exact List.getElem_mem _
  exact⟨by omega,by omega,fun i hi=>h.m _ (hm i hi),fun i hi=>(h.a _ (ha i hi)).1,fun i hi=>(h.a _ (ha i hi)).2.1,fun i hi=>(h.a _ (ha i hi)).2.2⟩
theorem onP_len:∀ (n:Nat) (r:List Txt) (p:List EfR×List Txt),r.length≤n→onP r=some p→p.1.length+p.2.length≤r.length
  | 0,r,p,hn,h=>by
    obtain rfl:r=[]:=List.length_eq_zero_iff.1 (by omega)
    cases h
    exact Nat.le_refl _
  | n + 1,r,p,hn,h=>by
    by_cases hex:∃ mm w r',r=[111,110]::mm::w::r'
    · obtain⟨mm,w,r',rfl⟩:=hex
      rw [onP_yes] at h
      simp only [List.length_cons] at hn
      cases hw:numP 7 w with
      |none=>rw [hw] at h;cases h
      | some x=>
        rw [hw,Option.bind_some] at h
        cases hr:onP r' with
        |none=>rw [hr] at h;cases h
        | some q=>
          rw [hr] at h
          cases h
          have:=onP_len n r' q (by omega) hr
          simp only [List.length_cons]
          omega
    · rw [onP_no hex] at h
      cases h
      simp
theorem afP_len:∀ (n:Nat) (r:List Txt),r.length≤n→(afP r).1.length≤r.length
  | 0,r,hn=>by
    obtain rfl:r=[]:=List.length_eq_zero_iff.1 (by omega)
    exact Nat.le_refl _
  | n +1,r,hn=>by
    by_cases hex:∃ x r',r=[97,102,116,101,114]::x::r'
    · obtain⟨x,r',rfl⟩:=hex
      rw [afP_yes]
      simp only [List.length_cons] at hn ⊢
      have:=afP_len n r' (by omega)
      omega
    · rw [afP_no hex]
      simp
theorem adjT_len {w:List Txt} (hw:∀ x∈w,x.length≤1000) (hl:w.length≤1000):(adjT w).1.name.length≤1000∧(adjT w).1.effs.length≤1000∧(adjT w).1.after.length≤1000:=by
  have hz:adz.name.length≤1000∧adz.effs.length≤1000∧adz.after.length≤1000:=⟨Nat.zero_le _,Nat.zero_le _,Nat.zero_le _⟩
  rcases w with _|⟨nm,_|⟨a,_|⟨b,_|⟨c,r⟩⟩⟩⟩
  · exact hz
  · exact hz
  · exact hz
  · exact hz
  · simp only [adjT]
    cases numsP 7 [a,b,c] with
    |none=>exact hz
    | some l=>
      dsimp only
      cases hr:onP r with
      |none=>exact hz
      | some p=>
        have h1:=onP_len _ r p (Nat.le_refl _) hr
        have h2:=afP_len _ p.2 (Nat.le_refl _)
        simp only [List.length_cons] at hl
        exact⟨hw nm (by simp),by dsimp only;omega,by dsimp only;omega⟩
theorem lineP_bl {k:Nat} {b b':BnR} {s:Txt} (h:BlN k b) (hs:s.length≤999) (hl:lineP b s=some b'):BlN (k+1) b':=by
  have h0:=h.n
  have hcm:=fun p=>cutP_sub (c:=32) (s:=s) (p:=p)
  have hcl:=cutP_len 32 s
  unfold lineP at hl
  rcases hc:cutP 32 s with _|⟨o,w⟩
  · exact absurd hc (cutP_ne 32 s)
  · rw [hc] at hl hcm hcl
    simp only [List.length_cons] at hcl
    dsimp only at hl
    split at hl
    · rename_i hm
      obtain⟨rfl,hw, -⟩:=hm
      rcases w with _|⟨nm,w⟩
      · cases hw
      · cases hn:numsP 7 (List.drop 1 (nm::w)) with
        |none=>rw [hn] at hl;cases hl
        | some l=>
          rw [hn] at hl
          cases hl
          refine⟨by simp;omega,fun x hx=>?_,h.a⟩
          rcases List.mem_append.1 hx with hx|hx
          · exact h.m x hx
          · obtain rfl:=List.mem_singleton.1 hx
            have:=hcm nm (by simp)
            show nm.length≤_
            omega
    · split at hl
      · split at hl
        · cases hl
          refine⟨by simp;omega,h.m,fun x hx=>?_⟩
          rcases List.mem_append.1 hx with hx|hx
          · exact h.a x hx
          · obtain rfl:=List.mem_singleton.1 hx
            exact adjT_len (fun x hx=>by have:=hcm x (List.mem_cons_of_mem _ hx);omega) (by omega)
        · cases hl
      · cases hl
theorem ln1_le:∀ s:Txt,(ln1 s).length≤s.length
  |[]=>Nat.le_refl _
  | b::l=>by
    have:=ln1_le l
    unfold ln1
    split
    · simp
    · simp only [List.length_cons];omega
def bnz:BnR:=⟨[],[]⟩
/-- what Parse tells of a text -/
def prsP(s:Txt):BnR×Int×Int:=if 60000<s.length then (bnz,0,8) else match rowsP 0 bnz (cutP 10 s) with
  | .error k=>(bnz,k,7)
  | .ok b=>if bnErr b=0 then (b,0,0) else (bnz,0,bnErr b)
def paV(p:BnR×Int×Int):V:= .tup [.agg (bnV p.1),.int .i64 p.2.1,.int .i64 p.2.2]
theorem Gives_argX{P:Program}{f:FuncId}{vs vs':List V}{m:Mem}{v:V}(hw:WkL vs vs')(h:Gives P f vs' m v):Gives P f vs m v:=by
  obtain⟨h1,h2⟩:=WkL_get hw
  refine⟨h.1,fun w ρ xs hM hA=>h.2 w ρ xs hM ⟨h1.trans hA.1,fun i c x e1 e2=>?_⟩⟩
  obtain⟨u,g1,g2⟩:=h2 i c e1
  exact g2 _ _ _ _ (hA.2 i u x g1 e2)
theorem gline_k(A:Mem)(c1 c2 c3:Blk)(b:BnR)(M:Mem)(hI:lnI A c1 c2 c3 b M)(n:Nat)(hA:A.length=n)(s:Txt)(hs:s.length≤1000)(hb:b.ms.length≤1000)(hb2:b.ads.length≤1000):CallA Tryz.prog 30 [.ptr n 0 0,.str s] M (fun v mo=>∃ b' M',mo=some M'∧lnI A c1 c2 c3 b' M'∧((v= .bool true∧lineP b s=some b')∨(v= .bool false∧lineP b s=none))):=by
  subst hA
  exact gline_c A c1 c2 c3 b M hI s hs hb hb2 _ (fun b' M' h1 h2=>⟨b',M',rfl,h2,.inl ⟨rfl,h1⟩⟩) fun b' M' h1 h2=>⟨b',M',rfl,h2,.inr ⟨rfl,h1⟩⟩
/-- the memory of Parse -/
def paI(m:Mem)(s:Txt)(LB:Blk)(k:Nat)(b:BnR)(M:Mem):Prop:=lnI (lend m++[.cells .own 28 2 [[.nilsl,.nilsl]],.cells .own 3 1 [[.int .i64 0]],.cells .own 29 1 [[.int .i64 0]]]) (.cells .own 3 1 [[.int .i64 k]]) (.cells .own 9 1 [[.str s]]) LB b M
def paJ(m:Mem)(LB:Blk)(k:Nat)(M:Mem):Prop:=∃ B c1 c2 X,M=lend m++(.cells .own 28 2 [[.nilsl,.nilsl]]:: .cells .own 3 1 [[.int .i64 k]]:: .cells .own 29 1 [[.int .i64 7]]::B::c1::c2::LB::X)
theorem paI_at{m:Mem}{s:Txt}{LB:Blk}{k:Nat}{b:BnR}{M:Mem}(h:paI m s LB k b M):M[(lend m).length+6]?=some LB:=by
  obtain⟨v1,v2,X,rfl, -, -⟩:=h
  simp
theorem paI_box{m:Mem}{s:Txt}{LB:Blk}{k:Nat}{b:BnR}{M:Mem}(h:paI m s LB k b M):M[(lend m).length+5]?=some (.cells .own 9 1 [[.str s]]):=by
  obtain⟨v1,v2,X,rfl, -, -⟩:=h
  simp
theorem paI_set{m:Mem}{s:Txt}{LB LC:Blk}{k:Nat}{b:BnR}{M:Mem}(h:paI m s LB k b M):paI m s LC k b (M.set ((lend m).length+6) LC):=by
  obtain⟨v1,v2,X,rfl,h1,h2⟩:=h
  exact⟨v1,v2,X,by simp,h1,h2⟩
theorem paJ_at{m:Mem}{LB:Blk}{k:Nat}{M:Mem}(h:paJ m LB k M):M[(lend m).length+6]?=some LB:=by
  obtain⟨B,c1,c2,X,rfl⟩:=h
  simp
theorem paJ_set{m:Mem}{LB LC:Blk}{k:Nat}{M:Mem}(h:paJ m LB k M):paJ m LC k (M.set ((lend m).length+6) LC):=by
  obtain⟨B,c1,c2,X,rfl⟩:=h
  exact⟨B,c1,c2,X,by simp⟩
theorem fin_prs{m0 D X B:Mem}{v1 v2 u1 u2:V}{a c:Int}{R:V→Option Mem→Prop}(hB:B=lend m0++D)(h1:frz (B++X) m0.length 2 v1=some u1)(h2:frz (B++X) m0.length 2 v2=some u2)(h:R (.tup [.agg [u1,u2],.int .i64 a,.int .i64 c]) none):Fin m0 R (.tup [.agg [v1,v2],.int .i64 a,.int .i64 c]) (B++X):=by
  refine .inr ⟨D++X,_,by rw [hB,List.append_assoc],?_,h⟩
  show(frzs (frz _ _ 3) [_,_,_]).map V.tup=_
  have e:frz (B++X) m0.length 3 (.agg [v1,v2])=some (.agg [u1,u2]):=by
    show(frzs (frz _ _ 2) _).map V.agg=_
    rw [frzs_cons h1 (frzs_cons h2 rfl)]
    rfl
  rw [frzs_cons e (frzs_cons (frz_int _ _ _ _ _) (frzs_cons (frz_int _ _ _ _ _) rfl))]
  rfl
end Go.Proofs.YtookikhphobnlaaGreatDoor
namespace Go.Proofs.YtookikhphobnlaaGreatDoor
open Go.RowKit
attribute [local irreducible] WA WOs WDs WAn qThen qBlock tput
set_option maxHeartbeats 1000000
set_option maxRecDepth 20000
set_option linter.unusedSimpArgs false
set_option linter.unusedVariables false
/-! the searches -/

theorem rmeasureat_c(l:List MsR)(s:Txt)(hl:l.length≤1000)(m:Mem):Gives Tryz.prog 81 [.lst (mssV l),.str s] m (.int .i64 (fdx (isM s) l)):=by
  have hln:=mssV_length (l:=l)
  have hga:=hln
  refine Gives_in Tryz.func81 rfl Tryz.ntmps81 Tryz.results81 (by kernel_rfl) (by simp) rfl fun Q hQ=>?_
  (have FX:=And.intro hln hga;repeat'(first|(refine sx ?_ ?_<;>intro h<;>first|(exfalso;omega)|skip)|refine ny ?_|refine WA_block ?_))
  refine WA_while (σ:=Nat) [0,1,5] (fun i=>[.lst (mssV l),.str s,.int .i64 i]) (fun _=>lend m++[]) (fun i=>i≤l.length∧∀ j,j<i→isM s (l.getD j msz)=false) (fun i=>l.length - i) 0 ⟨Nat.zero_le _,fun j h=>absurd h (Nat.not_lt_zero _)⟩ tv_ rfl ?_
  rintro i ⟨hi1,hi2⟩ L hL
  simp only [zipT]
  clear FX hga
  rcases Nat.lt_or_ge i l.length with hi|hi
  · have hga:=mssV_get hi
    have hat:isM s (l.getD i msz)=decide ((l.getD i msz).name=s):=rfl
    have hat1:(l.getD i msz).name=s→fdx (isM s) l=i:=fun h=>fdx_at hi hi2 (hat.trans (decide_eq_true h))
    have hat2:¬ (l.getD i msz).name=s→isM s (l.getD i msz)=false:=fun h=>hat.trans (decide_eq_false h)
    have hat3:=fun h=>up_false (f:=fun j=>isM s (l.getD j msz)) hi2 (hat2 h)
    clear hat hat2
    generalize l.getD i msz=x at *
    obtain⟨nm,va,lo,hg⟩:=x
    unfold msV at hga
    dsimp only at hga hat1 hat3
    (have FX:=And.intro hln hga;repeat'(first|(refine sx ?_ ?_<;>intro h<;>first|(exfalso;omega)|skip)|refine ny ?_|refine WA_block ?_))
    all_goals(try(exfalso;omega))
    all_goals try
      ((refine r_es hQ ?_;try with_reducible rfl)
       exact congrArg (V.int .i64) (hat1 (by assumption)).symm)
    all_goals(refine next_ hL (i+1) ⟨hi,hat3 (by assumption)⟩ (by omega))
  · obtain rfl:i=l.length:=by omega
    have hga:=hln
    (have FX:=And.intro hln hga;repeat'(first|(refine sx ?_ ?_<;>intro h<;>first|(exfalso;omega)|skip)|refine ny ?_|refine WA_block ?_))
    all_goals(try(exfalso;omega))
    all_goals((refine r_es hQ ?_;try with_reducible rfl))
    all_goals(exact congrArg (V.int .i64) (fdx_no hi2).symm)

theorem radjustmentat_c(l:List AdR)(s:Txt)(hl:l.length≤1000)(m:Mem):Gives Tryz.prog 53 [.lst (adsV l),.str s] m (.int .i64 (fdx (isA s) l)):=by
  have hln:=adsV_length (l:=l)
  have hga:=hln
  refine Gives_in Tryz.func53 rfl Tryz.ntmps53 Tryz.results53 (by kernel_rfl) (by simp) rfl fun Q hQ=>?_
  (have FX:=And.intro hln hga;repeat'(first|(refine sx ?_ ?_<;>intro h<;>first|(exfalso;omega)|skip)|refine ny ?_|refine WA_block ?_))
  refine WA_while (σ:=Nat) [0,1,5] (fun i=>[.lst (adsV l),.str s,.int .i64 i]) (fun _=>lend m++[]) (fun i=>i≤l.length∧∀ j,j<i→isA s (l.getD j adz)=false) (fun i=>l.length - i) 0 ⟨Nat.zero_le _,fun j h=>absurd h (Nat.not_lt_zero _)⟩ tv_ rfl ?_
  rintro i ⟨hi1,hi2⟩ L hL
  simp only [zipT]
  clear FX hga
  rcases Nat.lt_or_ge i l.length with hi|hi
  · have hga:=adsV_get hi
    have hat:isA s (l.getD i adz)=decide ((l.getD i adz).name=s):=rfl
    have hat1:(l.getD i adz).name=s→fdx (isA s) l=i:=fun h=>fdx_at hi hi2 (hat.trans (decide_eq_true h))
    have hat2:¬ (l.getD i adz).name=s→isA s (l.getD i adz)=false:=fun h=>hat.trans (decide_eq_false h)
    have hat3:=fun h=>up_false (f:=fun j=>isA s (l.getD j adz)) hi2 (hat2 h)
    clear hat hat2
    generalize l.getD i adz=x at *
    obtain⟨nm,ef,le,mo,pa,af⟩:=x
    unfold adV at hga
    dsimp only at hga hat1 hat3
    (have FX:=And.intro hln hga;repeat'(first|(refine sx ?_ ?_<;>intro h<;>first|(exfalso;omega)|skip)|refine ny ?_|refine WA_block ?_))
    all_goals(try(exfalso;omega))
    all_goals try
      ((refine r_es hQ ?_;try with_reducible rfl)
       exact congrArg (V.int .i64) (hat1 (by assumption)).symm)
    all_goals(refine next_ hL (i+1) ⟨hi,hat3 (by assumption)⟩ (by omega))
  · obtain rfl:i=l.length:=by omega
    have hga:=hln
    (have FX:=And.intro hln hga;repeat'(first|(refine sx ?_ ?_<;>intro h<;>first|(exfalso;omega)|skip)|refine ny ?_|refine WA_block ?_))
    all_goals(try(exfalso;omega))
    all_goals((refine r_es hQ ?_;try with_reducible rfl))
    all_goals(exact congrArg (V.int .i64) (fdx_no hi2).symm)

theorem bhastext_c(l:List Txt)(s:Txt)(hl:l.length≤1000)(m:Mem):Gives Tryz.prog 83 [.lst (tsV l),.str s] m (.bool (decide (0≤fdx (isT s) l))):=by
  have hln:=tsV_length (l:=l)
  have hga:=hln
  refine Gives_in Tryz.func83 rfl Tryz.ntmps83 Tryz.results83 (by kernel_rfl) (by simp) rfl fun Q hQ=>?_
  (have FX:=And.intro hln hga;repeat'(first|(refine sx ?_ ?_<;>intro h<;>first|(exfalso;omega)|skip)|refine ny ?_|refine WA_block ?_))
  refine WA_while (σ:=Nat) [0,1,5] (fun i=>[.lst (tsV l),.str s,.int .i64 i]) (fun _=>lend m++[]) (fun i=>i≤l.length∧∀ j,j<i→isT s (l.getD j [])=false) (fun i=>l.length - i) 0 ⟨Nat.zero_le _,fun j h=>absurd h (Nat.not_lt_zero _)⟩ tv_ rfl ?_
  rintro i ⟨hi1,hi2⟩ L hL
  simp only [zipT]
  clear FX hga
  rcases Nat.lt_or_ge i l.length with hi|hi
  · have hga:=tsV_get hi
    have hat:isT s (l.getD i [])=decide (l.getD i []=s):=rfl
    have hat1:l.getD i []=s→fdx (isT s) l=i:=fun h=>fdx_at hi hi2 (hat.trans (decide_eq_true h))
    have hat2:¬ l.getD i []=s→isT s (l.getD i [])=false:=fun h=>hat.trans (decide_eq_false h)
    have hat3:=fun h=>up_false (f:=fun j=>isT s (l.getD j [])) hi2 (hat2 h)
    clear hat hat2
    generalize l.getD i []=x at *
    (have FX:=And.intro hln hga;repeat'(first|(refine sx ?_ ?_<;>intro h<;>first|(exfalso;omega)|skip)|refine ny ?_|refine WA_block ?_))
    all_goals(try(exfalso;omega))
    all_goals try
      ((refine r_es hQ ?_;try with_reducible rfl)
       exact congrArg V.bool (decide_eq_true (by rw [hat1 (by assumption)];omega)).symm)
    all_goals(refine next_ hL (i+1) ⟨hi,hat3 (by assumption)⟩ (by omega))
  · obtain rfl:i=l.length:=by omega
    have hga:=hln
    (have FX:=And.intro hln hga;repeat'(first|(refine sx ?_ ?_<;>intro h<;>first|(exfalso;omega)|skip)|refine ny ?_|refine WA_block ?_))
    all_goals(try(exfalso;omega))
    all_goals((refine r_es hQ ?_;try with_reducible rfl))
    all_goals(exact congrArg V.bool (decide_eq_false (by rw [fdx_no hi2];omega)).symm)
theorem mem_at{l:List Nat}{i:Nat}(h:i<l.length):l.getD i 0∈l:=by
  rw [List.getD_eq_getElem?_getD,List.getElem?_eq_getElem h];exact List.getElem_mem h
theorem mem_no{l:List Nat}{n:Nat}(h:∀ j,j<l.length→l.getD j 0≠n):n ∉ l:=by
  intro hm
  obtain⟨j,hj,rfl⟩:=List.getElem_of_mem hm
  have:=h j hj
  rw [List.getD_eq_getElem?_getD,List.getElem?_eq_getElem hj] at this
  exact this rfl

theorem bhas_c (l:List Nat) (n:Nat) (hl:l.length≤1000) (m:Mem):Gives Tryz.prog 52 [.lst (nuV l),.int .i64 n] m (.bool (decide (n∈l))):=by
  have hln:=nuV_length (l:=l)
  have hga:=hln
  refine Gives_in Tryz.func52 rfl Tryz.ntmps52 Tryz.results52 (by kernel_rfl) (by simp) rfl fun Q hQ=>?_
  (have FX:=And.intro hln hga;repeat'(first|(refine sx ?_ ?_<;>intro h<;>first|(exfalso;omega)|skip)|refine ny ?_|refine WA_block ?_))
  refine WA_while (σ:=Nat) [0,1,5] (fun i=>[.lst (nuV l),.int .i64 n,.int .i64 i]) (fun _=>lend m++[]) (fun i=>i≤l.length∧∀ j,j<i→l.getD j 0≠n) (fun i=>l.length - i) 0 ⟨Nat.zero_le _,fun j h=>absurd h (Nat.not_lt_zero _)⟩ tv_ rfl ?_
  rintro i ⟨hi1,hi2⟩ L hL
  simp only [zipT]
  clear FX hga
  rcases Nat.lt_or_ge i l.length with hi|hi
  · have hga:=nuV_get hi
    have hat1:l.getD i 0=n→n∈l:=fun h=>h ▸ mem_at hi
    have hat3:l.getD i 0≠n→∀ j,j<i+1→l.getD j 0≠n:=fun h j hj=>by
      rcases Nat.lt_or_ge j i with q|q
      · exact hi2 j q
      · obtain rfl:j=i:=by omega
        exact h
    generalize l.getD i 0=x at *
    (have FX:=And.intro hln hga;repeat'(first|(refine sx ?_ ?_<;>intro h<;>first|(exfalso;omega)|skip)|refine ny ?_|refine WA_block ?_))
    all_goals(try(exfalso;omega))
    all_goals try
      ((refine r_es hQ ?_;try with_reducible rfl)
       exact congrArg V.bool (decide_eq_true (hat1 (by omega))).symm)
    all_goals(refine next_ hL (i+1) ⟨hi,hat3 (by omega)⟩ (by omega))
  · obtain rfl:i=l.length:=by omega
    have hga:=hln
    (have FX:=And.intro hln hga;repeat'(first|(refine sx ?_ ?_<;>intro h<;>first|(exfalso;omega)|skip)|refine ny ?_|refine WA_block ?_))
    all_goals(try(exfalso;omega))
    all_goals((refine r_es hQ ?_;try with_reducible rfl))
    all_goals(exact congrArg V.bool (decide_eq_false (mem_no hi2)).symm)
end Go.Proofs.YtookikhphobnlaaGreatDoor
