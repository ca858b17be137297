/- what a bench is written as, and that it is read back -/
import Derived.Test.YtookikhphobnlaaGreatDoorGAN
import Derived.Test.YtookikhphobnlaaGreatDoorBW
set_option linter.unusedSimpArgs false
set_option linter.unusedVariables false
namespace Go.Proofs.YtookikhphobnlaaGreatDoor
open Go.RowKit
attribute [local irreducible] WA WOs WDs WAn qThen qBlock tput
set_option maxHeartbeats 1000000
set_option maxRecDepth 20000
set_option linter.unusedSimpArgs false
set_option linter.unusedVariables false
set_option maxHeartbeats 4000000
def txP(s:Txt):Prop:=∀ c∈s,c≠32∧c≠10
theorem nameP_tx{s:Txt}(h:nameP s):txP s:=by
  intro c hc
  obtain⟨i,hi,rfl⟩:=List.getElem_of_mem hc
  have h2:=h.2.2 i hi
  have e:byt s i=(s[i].toNat:Int):=by unfold byt;rw [List.getD_eq_getElem?_getD,List.getElem?_eq_getElem hi];rfl
  unfold okC letP digP at h2
  rw [e] at h2
  constructor
  · intro q
    have:s[i].toNat=32:=by rw [q];rfl
    omega
  · intro q
    have:s[i].toNat=10:=by rw [q];rfl
    omega
/-- words with a space between each two -/
def joinS:List Txt→Txt
  |[]=>[]
  |[w]=>w
  |w::x::r=>w++32::joinS (x::r)
theorem cut_join:∀ {ws:List Txt},ws≠[]→(∀ w∈ws,txP w)→cutP 32 (joinS ws)=ws
  |[],h,_=>absurd rfl h
  |[w],_,h=>cutP_no fun c hc=>(h w List.mem_cons_self c hc).1
  | w::x::r,_,h=>by
    unfold joinS
    rw [cutP_app fun c hc=>(h w List.mem_cons_self c hc).1,cut_join (by simp) fun y hy=>h y (List.mem_cons_of_mem _ hy)]
theorem join_tx:∀ {ws:List Txt},(∀ w∈ws,txP w)→∀ c∈joinS ws,c≠10
  |[],_,c,hc=>by cases hc
  |[w],h,c,hc=>(h w List.mem_cons_self c hc).2
  | w ::x::r,h,c,hc=>by
    unfold joinS at hc
    rcases List.mem_append.1 hc with hc|hc
    · exact(h w List.mem_cons_self c hc).2
    · rcases List.mem_cons.1 hc with rfl|hc
      · decide
      · exact join_tx (fun y hy=>h y (List.mem_cons_of_mem _ hy)) c hc
theorem join_len{L:Nat}:∀ {ws:List Txt},(∀ w∈ws,w.length≤L)→(joinS ws).length≤ws.length * (L+1)
  |[],_=>Nat.zero_le _
  | [w],h=>by
    have:=h w List.mem_cons_self
    show w.length≤1 * (L+1)
    omega
  | w::x::r,h=>by
    have h1:=h w List.mem_cons_self
    have h2:=join_len (ws:=x::r) fun y hy=>h y (List.mem_cons_of_mem _ hy)
    have e:(w::x::r).length * (L+1)=(x::r).length * (L+1)+(L+1):=Nat.succ_mul _ _
    unfold joinS
    rw [List.length_append,List.length_cons,e]
    omega
def mlW(x:MsR):List Txt:=[measureT,x.name,Lib.itoa x.val,Lib.itoa x.low,Lib.itoa x.high]
def effW:List EfR→List Txt
  |[]=>[]
  |e::r=>onT::e.meas::Lib.itoa e.by_::effW r
def afW:List Txt→List Txt
  |[]=>[]
  |t::r=>afterT::t::afW r
def alW(x:AdR):List Txt:=adjustT::x.name::Lib.itoa x.least::Lib.itoa x.most::Lib.itoa x.pass::(effW x.effs++afW x.after)
def linesB(b:BnR):List Txt:=b.ms.map (fun x=>joinS (mlW x))++b.ads.map fun x=>joinS (alW x)
/-- the text of a bench -/
def printB(b:BnR):Txt:=(linesB b).flatMap fun l=>l++[10]
structure MWr(x:MsR):Prop where
  n:nameP x.name
  v:x.val.natAbs≤100000
  l:x.low.natAbs≤100000
  h:x.high.natAbs≤100000
structure AWr(x:AdR):Prop where
  n:nameP x.name
  l:x.least.natAbs≤1000
  m:x.most.natAbs≤1000
  p:x.pass.natAbs≤1000
  fe:x.effs.length≤12
  fa:x.after.length≤12
  e:∀ e∈x.effs,nameP e.meas∧e.by_.natAbs≤1000
  a:∀ t∈x.after,nameP t
structure BWr(b:BnR):Prop where
  fm:b.ms.length≤12
  fa:b.ads.length≤12
  m:∀ x∈b.ms,MWr x
  a:∀ x∈b.ads,AWr x
theorem onP_back(t:List Txt)(ht:onP t=some ([],t)):∀ (l:List EfR),(∀ e∈l,e.by_.natAbs≤9999999)→onP (effW l++t)=some (l,t)
  |[],_=>ht
  | e::r,h=>by
    have ih:=onP_back t ht r fun x hx=>h x (List.mem_cons_of_mem _ hx)
    show onP ([111,110]::e.meas::Lib.itoa e.by_::(effW r++t))=_
    rw [onP_yes,numP_itoa (d:=6) (by decide) (by have:=h e List.mem_cons_self;omega),ih]
    rfl
theorem onP_af(l:List Txt):onP (afW l)=some ([],afW l):=by
  refine onP_no ?_
  rintro⟨mm,w,r,h⟩
  cases l with
  |nil=>cases h
  | cons t r=>
    injection h with h _
    exact absurd h (by decide)
theorem afP_back:∀ (l:List Txt),afP (afW l)=(l,[])
  |[]=>rfl
  | t::r=>by
    show afP ([97,102,116,101,114]::t::afW r)=_
    rw [afP_yes,afP_back r]
theorem adjT_back{x:AdR}(h:AWr x):adjT (x.name::Lib.itoa x.least::Lib.itoa x.most::Lib.itoa x.pass::(effW x.effs++afW x.after))=(x,true):=by
  have h1:numsP 7 [Lib.itoa x.least,Lib.itoa x.most,Lib.itoa x.pass]=some [x.least,x.most,x.pass]:=by
    simp only [numsP]
    rw [numP_itoa (d:=6) (by decide) (by have:=h.l;omega),numP_itoa (d:=6) (by decide) (by have:=h.m;omega),numP_itoa (d:=6) (by decide) (by have:=h.p;omega)]
    rfl
  simp only [adjT]
  rw [h1]
  dsimp only
  rw [onP_back (afW x.after) (onP_af _) x.effs fun e he=>by have:=(h.e e he).2;omega]
  dsimp only
  rw [afP_back]
  rfl
theorem itoa_tx(n:Int):txP (Lib.itoa n):=fun _ hc=>itoa_ne hc
theorem mlW_tx{x:MsR}(h:MWr x):∀ w∈mlW x,txP w:=by
  intro w hw
  simp only [mlW,List.mem_cons,List.not_mem_nil,or_false] at hw
  rcases hw with rfl|rfl|rfl|rfl|rfl
  · intro c hc;revert c;decide
  · exact nameP_tx h.n
  · exact itoa_tx _
  · exact itoa_tx _
  · exact itoa_tx _
theorem effW_tx:∀ {l:List EfR},(∀ e∈l,nameP e.meas)→∀ w∈effW l,txP w
  |[],_,w,hw=>by cases hw
  | e::r,h,w,hw=>by
    simp only [effW,List.mem_cons] at hw
    rcases hw with rfl|rfl|rfl|hw
    · intro c hc;revert c;decide
    · exact nameP_tx (h e List.mem_cons_self)
    · exact itoa_tx _
    · exact effW_tx (fun x hx=>h x (List.mem_cons_of_mem _ hx)) w hw
theorem afW_tx:∀ {l:List Txt},(∀ t∈l,nameP t)→∀ w∈afW l,txP w
  |[],_,w,hw=>by cases hw
  | t::r,h,w,hw=>by
    simp only [afW,List.mem_cons] at hw
    rcases hw with rfl|rfl|hw
    · intro c hc;revert c;decide
    · exact nameP_tx (h _ List.mem_cons_self)
    · exact afW_tx (fun x hx=>h x (List.mem_cons_of_mem _ hx)) w hw
theorem alW_tx{x:AdR}(h:AWr x):∀ w∈alW x,txP w:=by
  intro w hw
  simp only [alW,List.mem_cons,List.mem_append] at hw
  rcases hw with rfl|rfl|rfl|rfl|rfl|hw|hw
  · intro c hc;revert c;decide
  · exact nameP_tx h.n
  · exact itoa_tx _
  · exact itoa_tx _
  · exact itoa_tx _
  · exact effW_tx (fun e he=>(h.e e he).1) w hw
  · exact afW_tx h.a w hw
theorem itoa_len{n:Int}(h:n.natAbs≤100000):(Lib.itoa n).length≤12:=by
  have:=dec_len 5 n.natAbs (by omega)
  unfold Lib.itoa
  split
  · simp only [List.length_cons];omega
  · rw [show n.toNat=n.natAbs by omega];omega
theorem mlW_len{x:MsR}(h:MWr x):(joinS (mlW x)).length≤999:=by
  have:=join_len (L:=12) (ws:=mlW x) fun w hw=>by
    simp only [mlW,List.mem_cons,List.not_mem_nil,or_false] at hw
    rcases hw with rfl|rfl|rfl|rfl|rfl
    · decide
    · exact h.n.2.1
    · exact itoa_len h.v
    · exact itoa_len h.l
    · exact itoa_len h.h
  have e:(mlW x).length=5:=rfl
  rw [e] at this
  omega
theorem effW_len:∀ (l:List EfR),(effW l).length=3 * l.length
  |[]=>rfl
  |e::r=>by simp only [effW,List.length_cons,effW_len r];omega
theorem afW_len:∀ (l:List Txt),(afW l).length=2 * l.length
  |[]=>rfl
  |e::r=>by simp only [afW,List.length_cons,afW_len r];omega
theorem effW_w:∀ {l:List EfR},(∀ e∈l,nameP e.meas∧e.by_.natAbs≤1000)→∀ w∈effW l,w.length≤12
  |[],_,w,hw=>by cases hw
  | e::r,h,w,hw=>by
    simp only [effW,List.mem_cons] at hw
    rcases hw with rfl|rfl|rfl|hw
    · decide
    · exact(h e List.mem_cons_self).1.2.1
    · exact itoa_len (by have:=(h e List.mem_cons_self).2;omega)
    · exact effW_w (fun x hx=>h x (List.mem_cons_of_mem _ hx)) w hw
theorem afW_w:∀ {l:List Txt},(∀ t∈l,nameP t)→∀ w∈afW l,w.length≤12
  |[],_,w,hw=>by cases hw
  | t::r,h,w,hw=>by
    simp only [afW,List.mem_cons] at hw
    rcases hw with rfl|rfl|hw
    · decide
    · exact(h _ List.mem_cons_self).2.1
    · exact afW_w (fun x hx=>h x (List.mem_cons_of_mem _ hx)) w hw
theorem alW_len{x:AdR}(h:AWr x):(joinS (alW x)).length≤999:=by
  have:=join_len (L:=12) (ws:=alW x) fun w hw=>by
    simp only [alW,List.mem_cons,List.mem_append] at hw
    rcases hw with rfl|rfl|rfl|rfl|rfl|hw|hw
    · decide
    · exact h.n.2.1
    · exact itoa_len (by have:=h.l;omega)
    · exact itoa_len (by have:=h.m;omega)
    · exact itoa_len (by have:=h.p;omega)
    · exact effW_w h.e w hw
    · exact afW_w h.a w hw
  have e:(alW x).length=5+(3 * x.effs.length+2 * x.after.length):=by simp only [alW,List.length_cons,List.length_append,effW_len,afW_len];omega
  have h1:=h.fe
  have h2:=h.fa
  rw [e] at this
  have:(5+(3 * x.effs.length+2 * x.after.length)) * (12+1)≤65 * 13:=Nat.mul_le_mul_right _ (by omega)
  omega
theorem lines_len{b:BnR}(h:BWr b):∀ l∈linesB b,l.length≤999:=by
  intro l hl
  rcases List.mem_append.1 hl with hl|hl
  · obtain⟨x,hx,rfl⟩:=List.mem_map.1 hl
    exact mlW_len (h.m x hx)
  · obtain⟨x,hx,rfl⟩:=List.mem_map.1 hl
    exact alW_len (h.a x hx)
theorem lines_no{b:BnR}(h:BWr b):∀ l∈linesB b,∀ c∈l,c≠10:=by
  intro l hl
  rcases List.mem_append.1 hl with hl|hl
  · obtain⟨x,hx,rfl⟩:=List.mem_map.1 hl
    exact join_tx (mlW_tx (h.m x hx))
  · obtain⟨x,hx,rfl⟩:=List.mem_map.1 hl
    exact join_tx (alW_tx (h.a x hx))
theorem cut_lines:∀ {ls:List Txt},(∀ l∈ls,∀ c∈l,c≠10)→cutP 10 (ls.flatMap fun l=>l++[10])=ls++[[]]
  |[],_=>rfl
  | l::r,h=>by
    rw [List.flatMap_cons,List.append_assoc,List.singleton_append,cutP_app (h l List.mem_cons_self),cut_lines fun x hx=>h x (List.mem_cons_of_mem _ hx)]
    rfl
theorem line_ms{x:MsR}(h:MWr x)(mm:List MsR):lineP ⟨mm,[]⟩ (joinS (mlW x))=some ⟨mm++[x],[]⟩:=by
  unfold lineP
  rw [cut_join (by simp [mlW]) (mlW_tx h)]
  simp only [mlW]
  rw [if_pos ⟨trivial,rfl,trivial⟩]
  have h1:numsP 7 (List.drop 1 [x.name,Lib.itoa x.val,Lib.itoa x.low,Lib.itoa x.high])=some [x.val,x.low,x.high]:=by
    show numsP 7 [_,_,_]=_
    simp only [numsP]
    rw [numP_itoa (d:=6) (by decide) (by have:=h.v;omega),numP_itoa (d:=6) (by decide) (by have:=h.l;omega),numP_itoa (d:=6) (by decide) (by have:=h.h;omega)]
    rfl
  rw [h1]
  rfl
theorem line_ad{x:AdR}(h:AWr x)(b:BnR):lineP b (joinS (alW x))=some ⟨b.ms,b.ads++[x]⟩:=by
  unfold lineP
  rw [cut_join (by simp [alW]) (alW_tx h)]
  simp only [alW]
  rw [if_neg (fun q=>absurd q.1 (by decide)),if_pos trivial,adjT_back h]
  rfl
theorem rows_ads:∀ {l:List AdR} (k:Nat) (b:BnR),(∀ x∈l,AWr x)→rowsP k b (l.map (fun x=>joinS (alW x))++[[]])= .ok ⟨b.ms,b.ads++l⟩
  | [],k,b,_=>by
    rw [List.append_nil]
    rfl
  | x ::r,k,b,h=>by
    have ih:=rows_ads (l:=r) (k+1) ⟨b.ms,b.ads++[x]⟩ fun y hy=>h y (List.mem_cons_of_mem _ hy)
    have e:=line_ad (h x List.mem_cons_self) b
    rw [List.map_cons,List.cons_append]
    rcases hq:r.map (fun x=>joinS (alW x))++[[]] with _|⟨q,rs⟩
    · simp at hq
    · rw [hq] at ih
      simp only [rowsP,e]
      rw [ih]
      simp
theorem rows_ms:∀ {l:List MsR} (k:Nat) (mm:List MsR) (ads:List AdR),(∀ x∈l,MWr x)→(∀ x∈ads,AWr x)→rowsP k ⟨mm,[]⟩ (l.map (fun x=>joinS (mlW x))++(ads.map (fun x=>joinS (alW x))++[[]]))= .ok ⟨mm++l,ads⟩
  | [],k,mm,ads,_,h=>by
    rw [List.append_nil]
    exact rows_ads k ⟨mm,[]⟩ h
  | x ::r,k,mm,ads,h,h2=>by
    have ih:=rows_ms (l:=r) (k+1) (mm++[x]) ads (fun y hy=>h y (List.mem_cons_of_mem _ hy)) h2
    have e:=line_ms (h x List.mem_cons_self) mm
    rw [List.map_cons,List.cons_append]
    rcases hq:r.map (fun x=>joinS (mlW x))++(ads.map (fun x=>joinS (alW x))++[[]]) with _|⟨q,rs⟩
    · simp at hq
    · rw [hq] at ih
      simp only [rowsP,e]
      rw [ih]
      simp
theorem cut_print{b:BnR}(h:BWr b):cutP 10 (printB b)=linesB b++[[]]:=cut_lines (lines_no h)
theorem print_len{b:BnR}(h:BWr b):(printB b).length≤24000:=by
  have key:∀ ls:List Txt,(∀ l∈ls,l.length≤999)→(ls.flatMap fun l=>l++[10]).length≤ls.length * 1000:=by
    intro ls
    induction ls with
    |nil=>intro _;exact Nat.le_refl _
    | cons l r ih=>
      intro h
      have h1:=h l List.mem_cons_self
      have h2:=ih fun x hx=>h x (List.mem_cons_of_mem _ hx)
      have e:(l::r).length * 1000=r.length * 1000+1000:=Nat.succ_mul _ _
      rw [List.flatMap_cons,List.length_append,List.length_append,e]
      simp only [List.length_cons,List.length_nil]
      omega
  have h1:=key _ (lines_len h)
  have h2:(linesB b).length≤24:=by
    have:=h.fm;have:=h.fa
    simp only [linesB,List.length_append,List.length_map]
    omega
  have:(linesB b).length * 1000≤24 * 1000:=Nat.mul_le_mul_right _ h2
  exact Nat.le_trans h1 this
theorem print_back{b:BnR}(h:BWr b)(h0:bnErr b=0):prsP (printB b)=(b,0,0):=by
  have hl:=print_len h
  have hr:rowsP 0 bnz (cutP 10 (printB b))= .ok b:=by
    rw [cut_print h,linesB,List.append_assoc]
    exact rows_ms 0 [] b.ads h.m h.a
  unfold prsP
  rw [if_neg (by omega),hr]
  dsimp only
  rw [if_pos h0]
theorem gd_mem{α:Type}{l:List α}{d x:α}(h:x∈l):∃ i,i<l.length∧l.getD i d=x:=by
  obtain⟨i,hi,rfl⟩:=List.getElem_of_mem h
  exact⟨i,hi,by rw [List.getD_eq_getElem?_getD,List.getElem?_eq_getElem hi];rfl⟩
theorem wr_ok {b:BnR} (h0:bnErr b=0):BWr b:=by
  have hk:=bn_ok h0
  have hmn:∀ i,i<b.ms.length→MWr (b.ms.getD i msz):=fun i hi=>by
    obtain⟨h1,_,h2,h3,h4,_⟩:=msErr_zero (hk.me i hi)
    exact⟨h1,by omega,by omega,by omega⟩
  have han:∀ i,i<b.ads.length→nameP (b.ads.getD i adz).name:=fun i hi=>(ad_ok (hk.ae i hi)).nm
  refine⟨hk.fm,hk.fa,fun x hx=>?_,fun x hx=>?_⟩
  · obtain⟨i,hi,rfl⟩:=gd_mem (d:=msz) hx
    exact hmn i hi
  · obtain ⟨i,hi,rfl⟩:=gd_mem (d:=adz) hx
    have ha:=ad_ok (hk.ae i hi)
    have haf:=ha.af
    unfold afErr at haf
    split at haf
    · simp at haf
    · rename_i h12
      refine⟨ha.nm,by have:=ha.le;omega,by have:=ha.mo;omega,by have:=ha.pa;omega,ha.fe,by omega,fun e he=>?_,fun t ht=>?_⟩
      · obtain⟨k,hk1,rfl⟩:=gd_mem (d:=efz) he
        obtain⟨h1,_,h3,_⟩:=ef_ok (ha.ef k hk1)
        refine⟨?_,by omega⟩
        rcases fdx_cases (isM ((b.ads.getD i adz).effs.getD k efz).meas) b.ms msz with ⟨h,_⟩|⟨j,hj,_,h2,_⟩
        · omega
        · rw [←of_decide_eq_true h2]
          exact(hmn j hj).n
      · obtain⟨k,hk1,rfl⟩:=gd_mem (d:=[]) ht
        have hz:=fE_zero.1 haf k hk1
        unfold afErrAt at hz
        split at hz
        · simp at hz
        · rename_i hn
          rcases fdx_cases (isA ((b.ads.getD i adz).after.getD k [])) b.ads adz with ⟨h,_⟩|⟨j,hj,_,h2,_⟩
          · omega
          · rw [←of_decide_eq_true h2]
            exact han j hj
end Go.Proofs.YtookikhphobnlaaGreatDoor
