/- what is written is read back: forces -/
import Derived.Test.YtjonlmpjdhoogaaGreatDoorGAH
import Derived.Test.YtjonlmpjdhoogaaGreatDoorX6
import Derived.Test.YtjonlmpjdhoogaaGreatDoorX7
import Derived.Lib.ItoaLen
set_option linter.unusedSimpArgs false
set_option linter.unusedVariables false
namespace Go.Proofs.YtjonlmpjdhoogaaGreatDoor
open Go.RowKit
attribute [local irreducible] WA WOs WDs WAn qThen qBlock tput
set_option maxHeartbeats 1000000
set_option maxRecDepth 20000
set_option linter.unusedSimpArgs false
set_option linter.unusedVariables false
set_option maxHeartbeats 4000000
theorem valD_dec(u:Nat):valD 0 (Lib.decDigits u)=u:=by
  induction u using Nat.strongRecOn with
  | _ u ih=>
    rw [Lib.decDigits]
    split
    · show 10 * 0+((UInt8.ofNat (48+u)).toNat - 48)=u
      have:=u8_of (d:=48+u) (by omega)
      omega
    · rw [valD_snoc,ih (u / 10) (by omega)]
      have:=u8_of (d:=48+u % 10) (by omega)
      omega
theorem dec_len:∀ (k u:Nat),u<10 ^ (k+1)→(Lib.decDigits u).length≤k+1
  | 0,u,h=>by
    rw [Lib.decDigits,dif_pos (by simpa using h)]
    exact Nat.le_refl _
  | k +1,u,h=>by
    by_cases h9:u<10
    · rw [Lib.decDigits,dif_pos h9];simp
    · rw [Lib.decDigits,dif_neg h9,List.length_append]
      have:=dec_len k (u / 10) (by rw [Nat.pow_succ] at h;omega)
      simp only [List.length_cons,List.length_nil]
      omega
theorem dec_ne(u:Nat):Lib.decDigits u≠[]:=by
  rw [Lib.decDigits]
  split
  · simp
  · simp
theorem dec_fr(u:Nat):frP (Lib.decDigits u)=0:=by
  unfold frP
  rw [if_neg]
  intro h
  rcases hd:Lib.decDigits u with _|⟨c,r⟩
  · exact dec_ne u hd
  · rw [hd] at h
    simp at h
    have:=dec_dig u c (by rw [hd];exact List.mem_cons_self)
    subst h
    exact absurd this.1 (by decide)
theorem numP_itoa {d:Nat} (hd:d≤17) {n:Int} (h:n.natAbs<10 ^ (d+1)):numP (d+1) (Lib.itoa n)=some n:=by
  have key:nGood (d+1) (Lib.itoa n)∧nV (Lib.itoa n)=n:=by
    unfold Lib.itoa nGood nV
    split
    · have hf:frP (45::Lib.decDigits n.natAbs)=1:=rfl
      rw [hf]
      refine⟨⟨?_,?_,?_⟩,?_⟩
      · have:=dec_ne n.natAbs
        intro q
        simp at q
        exact this q
      · have:=dec_len d n.natAbs h
        simp only [List.length_cons]
        omega
      · exact dec_dig _
      · rw [if_pos rfl]
        show -((valD 0 (Lib.decDigits n.natAbs):Nat):Int)=n
        rw [valD_dec]
        omega
    · rename_i hn
      have hf:frP (Lib.decDigits n.toNat)=0:=dec_fr _
      rw [hf]
      refine⟨⟨?_,?_,?_⟩,?_⟩
      · have:=dec_ne n.toNat
        intro q
        exact this (List.length_eq_zero_iff.1 q)
      · have:=dec_len d n.toNat (by rw [show n.toNat=n.natAbs by omega];exact h)
        omega
      · exact dec_dig _
      · rw [if_neg (by decide)]
        show((valD 0 (Lib.decDigits n.toNat):Nat):Int)=n
        rw [valD_dec]
        omega
  rw [numP_good (by omega) key.1,key.2,if_pos rfl]
theorem itoa_ne{n:Int}{c:UInt8}(hc:c∈Lib.itoa n):c≠32∧c≠10:=by
  unfold Lib.itoa at hc
  have key:∀ u,c∈Lib.decDigits u→c≠32∧c≠10:=fun u h=>by
    have:=dec_dig u c h
    constructor
    · rintro rfl;exact absurd this.1 (by decide)
    · rintro rfl;exact absurd this.1 (by decide)
  split at hc
  · rcases List.mem_cons.1 hc with rfl|hc
    · decide
    · exact key _ hc
  · exact key _ hc
theorem cutP_no{c:UInt8}:∀ {s:Txt},(∀ x∈s,x≠c)→cutP c s=[s]
  |[],_=>rfl
  | b::l,h=>by
    have ih:=cutP_no (c:=c) (s:=l) fun x hx=>h x (List.mem_cons_of_mem _ hx)
    unfold cutP
    rw [if_neg (h b List.mem_cons_self),ih]
theorem cutP_app{c:UInt8}{s:Txt}:∀ {p:Txt},(∀ x∈p,x≠c)→cutP c (p++c::s)=p::cutP c s
  | [],_=>by
    rw [List.nil_append]
    conv=>lhs;unfold cutP
    rw [if_pos rfl]
  | b::l,h=>by
    have ih:=cutP_app (c:=c) (s:=s) (p:=l) fun x hx=>h x (List.mem_cons_of_mem _ hx)
    rw [List.cons_append]
    conv=>lhs;unfold cutP
    rw [if_neg (h b List.mem_cons_self),ih]
def txP(s:Txt):Prop:=∀ c∈s,c≠32∧c≠10
/-- words with a space between each two -/
def joinS:List Txt→Txt
  |[]=>[]
  |[w]=>w
  |w::x::r=>w++32::joinS (x::r)
theorem cut_join:∀ {ws:List Txt},ws≠[]→(∀ w∈ws,txP w)→cutP 32 (joinS ws)=ws
  |[],h,_=>absurd rfl h
  |[w],_,h=>cutP_no fun c hc=>(h w List.mem_cons_self c hc).1
  | w::x::r,_,h=>by
    unfold joinS
    rw [cutP_app fun c hc=>(h w List.mem_cons_self c hc).1,cut_join (by simp) fun y hy=>h y (List.mem_cons_of_mem _ hy)]
theorem join_tx:∀ {ws:List Txt},(∀ w∈ws,txP w)→∀ c∈joinS ws,c≠10
  |[],_,c,hc=>by cases hc
  |[w],h,c,hc=>(h w List.mem_cons_self c hc).2
  | w ::x::r,h,c,hc=>by
    unfold joinS at hc
    rcases List.mem_append.1 hc with hc|hc
    · exact(h w List.mem_cons_self c hc).2
    · rcases List.mem_cons.1 hc with rfl|hc
      · decide
      · exact join_tx (fun y hy=>h y (List.mem_cons_of_mem _ hy)) c hc
theorem join_len{L:Nat}:∀ {ws:List Txt},(∀ w∈ws,w.length≤L)→(joinS ws).length≤ws.length * (L+1)
  |[],_=>Nat.zero_le _
  | [w],h=>by
    have:=h w List.mem_cons_self
    show w.length≤1 * (L+1)
    omega
  | w::x::r,h=>by
    have h1:=h w List.mem_cons_self
    have h2:=join_len (ws:=x::r) fun y hy=>h y (List.mem_cons_of_mem _ hy)
    have e:(w::x::r).length * (L+1)=(x::r).length * (L+1)+(L+1):=Nat.succ_mul _ _
    unfold joinS
    rw [List.length_append,List.length_cons,e]
    omega
theorem cut_lines:∀ {ls:List Txt},(∀ l∈ls,∀ c∈l,c≠10)→cutP 10 (ls.flatMap fun l=>l++[10])=ls++[[]]
  |[],_=>rfl
  | l::r,h=>by
    rw [List.flatMap_cons,List.append_assoc,List.singleton_append,cutP_app (h l List.mem_cons_self),cut_lines fun x hx=>h x (List.mem_cons_of_mem _ hx)]
    rfl
theorem itoa_tx(n:Int):txP (Lib.itoa n):=fun _ hc=>itoa_ne hc
theorem itoa_len{n:Int}(h:n.natAbs≤9999999999):(Lib.itoa n).length≤12:=by
  have:=dec_len 9 n.natAbs (by omega)
  unfold Lib.itoa
  split
  · simp only [List.length_cons];omega
  · rw [show n.toNat=n.natAbs by omega];omega
/-- the words of a force -/
def flW(x:Pl):List Txt:=[forceT,Lib.itoa x.a,Lib.itoa x.b,Lib.itoa x.c,Lib.itoa x.x,Lib.itoa x.y,Lib.itoa x.z]
def linesF(l:List Pl):List Txt:=l.map fun x=>joinS (flW x)
/-- the text of forces -/
def printF(l:List Pl):Txt:=(linesF l).flatMap fun l=>l++[10]
structure FWr(p:Pl):Prop where
  a:p.a.natAbs≤9999999999
  b:p.b.natAbs≤9999999999
  c:p.c.natAbs≤9999999999
  x:p.x.natAbs≤9999999999
  y:p.y.natAbs≤9999999999
  z:p.z.natAbs≤9999999999
theorem fwr_of{x:Pl}(h:plOk x):FWr x:=by
  unfold plOk Plc Bil at h
  exact⟨by omega,by omega,by omega,by omega,by omega,by omega⟩
theorem flW_tx(x:Pl):∀ w∈flW x,txP w:=by
  intro w hw
  simp only [flW,List.mem_cons,List.not_mem_nil,or_false] at hw
  rcases hw with rfl|rfl|rfl|rfl|rfl|rfl|rfl
  · intro c hc;revert c;decide
  · exact itoa_tx _
  · exact itoa_tx _
  · exact itoa_tx _
  · exact itoa_tx _
  · exact itoa_tx _
  · exact itoa_tx _
theorem flW_len{x:Pl}(h:FWr x):(joinS (flW x)).length≤99:=by
  have:=join_len (L:=12) (ws:=flW x) fun w hw=>by
    simp only [flW,List.mem_cons,List.not_mem_nil,or_false] at hw
    rcases hw with rfl|rfl|rfl|rfl|rfl|rfl|rfl
    · decide
    · exact itoa_len h.a
    · exact itoa_len h.b
    · exact itoa_len h.c
    · exact itoa_len h.x
    · exact itoa_len h.y
    · exact itoa_len h.z
  have e:(flW x).length=7:=rfl
  rw [e] at this
  omega
theorem lineF_back{x:Pl}(h:FWr x):lineF (joinS (flW x))=some x:=by
  have hc:cutP 32 (joinS (flW x))=forceT::[Lib.itoa x.a,Lib.itoa x.b,Lib.itoa x.c,Lib.itoa x.x,Lib.itoa x.y,Lib.itoa x.z]:=cut_join (by simp [flW]) (flW_tx x)
  have hn:numsP 10 [Lib.itoa x.a,Lib.itoa x.b,Lib.itoa x.c,Lib.itoa x.x,Lib.itoa x.y,Lib.itoa x.z]=some [x.a,x.b,x.c,x.x,x.y,x.z]:=by
    simp only [numsP]
    rw [numP_itoa (d:=9) (by decide) (by have:=h.a;omega),numP_itoa (d:=9) (by decide) (by have:=h.b;omega),numP_itoa (d:=9) (by decide) (by have:=h.c;omega),numP_itoa (d:=9) (by decide) (by have:=h.x;omega),numP_itoa (d:=9) (by decide) (by have:=h.y;omega),numP_itoa (d:=9) (by decide) (by have:=h.z;omega)]
    rfl
  exact lineF_some hc hn
theorem rowsF_back:∀ {l:List Pl} (k:List Pl),(∀ x∈l,FWr x)→rowsF k (linesF l++[[]])= .ok (k++l)
  |[],k,_=>by simp [linesF,rowsF]
  | x ::r,k,h=>by
    have h1:=lineF_back (h x List.mem_cons_self)
    have ih:=rowsF_back (l:=r) (k++[x]) fun y hy=>h y (List.mem_cons_of_mem _ hy)
    have e:linesF (x::r)++[[]]=joinS (flW x)::(linesF r++[[]]):=rfl
    rw [e]
    rcases hq:linesF r++[[]] with _|⟨q,rs⟩
    · simp at hq
    · rw [hq] at ih
      unfold rowsF
      rw [h1]
      dsimp only
      rw [ih]
      simp
theorem linesF_no(l:List Pl):∀ s∈linesF l,∀ c∈s,c≠10:=by
  intro s hs
  obtain⟨x, -,rfl⟩:=List.mem_map.1 hs
  exact join_tx (flW_tx x)
theorem linesF_len{l:List Pl}(h:∀ x∈l,FWr x):∀ s∈linesF l,s.length≤99:=by
  intro s hs
  obtain⟨x,hx,rfl⟩:=List.mem_map.1 hs
  exact flW_len (h x hx)
theorem cut_printF(l:List Pl):cutP 10 (printF l)=linesF l++[[]]:=cut_lines (linesF_no l)
theorem printF_snoc(l:List Pl)(x:Pl):printF (l++[x])=printF l++joinS (flW x)++[10]:=by simp [printF,linesF,List.flatMap_append]
theorem printF_len{l:List Pl}(h:∀ x∈l,FWr x):(printF l).length≤l.length * 100:=by
  have key:∀ ls:List Txt,(∀ l∈ls,l.length≤99)→(ls.flatMap fun l=>l++[10]).length≤ls.length * 100:=by
    intro ls
    induction ls with
    |nil=>intro _;exact Nat.le_refl _
    | cons l r ih=>
      intro h
      have h1:=h l List.mem_cons_self
      have h2:=ih fun x hx=>h x (List.mem_cons_of_mem _ hx)
      have e:(l::r).length * 100=r.length * 100+100:=Nat.succ_mul _ _
      rw [List.flatMap_cons,List.length_append,List.length_append,e]
      simp only [List.length_cons,List.length_nil]
      omega
  have:=key _ (linesF_len h)
  rwa [show(linesF l).length=l.length from List.length_map ..] at this
theorem ok_fwr{l:List Pl}(h:frcErr l=0):l.length≤300∧∀ x∈l,FWr x:=⟨(frcErr_ok h).1,fun x hx=>fwr_of ((frcErr_ok h).2 x hx)⟩
theorem printF_all{l:List Pl}(h:frcErr l=0):(printF l).length≤60000∧(cutP 10 (printF l)).length≤1000∧(∀ r∈cutP 10 (printF l),r.length≤999)∧prsF (printF l)=(l,0,0):=by
  obtain⟨h1,h2⟩:=ok_fwr h
  have hl:=printF_len h2
  have hm:l.length * 100≤300 * 100:=Nat.mul_le_mul_right _ h1
  have hc:=cut_printF l
  have hr:=rowsF_back [] h2
  refine⟨by omega,?_,?_,?_⟩
  · rw [hc,List.length_append,show(linesF l).length=l.length from List.length_map ..]
    simp only [List.length_cons,List.length_nil]
    omega
  · rw [hc]
    intro r hr
    rcases List.mem_append.1 hr with q|q
    · exact Nat.le_trans (linesF_len h2 r q) (by decide)
    · obtain rfl:=List.mem_singleton.1 q
      exact Nat.zero_le _
  · unfold prsF
    rw [if_neg (by omega),hc,hr]
    dsimp only
    rw [List.nil_append,if_pos h]
end Go.Proofs.YtjonlmpjdhoogaaGreatDoor
