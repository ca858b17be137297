import Derived.Test.YtjonlmpjdhoogaaGreatDoorGAF
import Derived.Test.YtjonlmpjdhoogaaGreatDoorGAE
import Derived.Test.YtjonlmpjdhoogaaGreatDoorP1
set_option linter.unusedSimpArgs false
set_option linter.unusedVariables false
namespace Go.Proofs.YtjonlmpjdhoogaaGreatDoor
open Go.RowKit
attribute [local irreducible] WA WOs WDs WAn qThen qBlock tput
set_option maxHeartbeats 1000000
set_option maxRecDepth 20000
set_option linter.unusedSimpArgs false
set_option linter.unusedVariables false
def frsV(l:List (Int×Int)):List (List V):=l.map fun p=>[V.int .i64 p.1,V.int .i64 p.2]
theorem intsV_set{xs:List Int}{i:Nat}{v:Int}:(intsV xs).set i [.int .i64 v]=intsV (xs.set i v):=by simp [intsV,List.map_set]
theorem intsV_rep(n:Nat):List.replicate n [V.int .i64 0]=intsV (List.replicate n 0):=by simp [intsV]
theorem intsV_getD{xs:List Int}{i:Nat}(h:i<xs.length):(intsV xs)[i]?=some [.int .i64 (xs.getD i 0)]:=by rw [getD_get h];exact intsV_get h
theorem intsV_plain(xs:List Int):plainLL (intsV xs)=true:=by
  induction xs with
  |nil=>rfl
  |cons x xs ih=>simp only [intsV,List.map_cons,plainLL,plainL,V.plain,Bool.true_and] at ih ⊢;exact ih
theorem frsV_plain(l:List (Int×Int)):plainLL (frsV l)=true:=by
  induction l with
  |nil=>rfl
  |cons x xs ih=>simp only [frsV,List.map_cons,plainLL,plainL,V.plain,Bool.true_and] at ih ⊢;exact ih
theorem chkB_ok:∀ (xs:List Int) (p:Option Int),chkB p xs=0→(∀ x∈xs, -20000≤x∧x≤20000)∧(∀ q,p=some q→∀ (h:0<xs.length),q<xs[0])∧∀ j (h:j+1<xs.length),xs[j]<xs[j+1]
  |[],_,_=>⟨(fun x h=>nomatch h),(fun q _ h=>absurd h (by simp)),(fun j h=>absurd h (by simp))⟩
  | x ::r,p,h=>by
    simp only [chkB] at h
    by_cases hb: -20000≤x∧x≤20000
    · rw [if_neg (by simpa using hb)] at h
      by_cases hp:(p.elim false fun q=>decide (x≤q))=true
      · rw [if_pos hp] at h;simp at h
      · rw [if_neg hp] at h
        obtain⟨h1,h2,h3⟩:=chkB_ok r (some x) h
        refine⟨fun y hy=>?_,fun q hq _=>?_,fun j hj=>?_⟩
        · rcases List.mem_cons.1 hy with rfl|hy
          · exact hb
          · exact h1 y hy
        · subst hq
          simp at hp ⊢
          omega
        · rcases j with _|j
          · exact h2 x rfl (by simpa using hj)
          · exact h3 j (by simpa using hj)
    · rw [if_pos hb] at h;simp at h
theorem barsOk_of {xs:List Int} (h:barsErr xs=0):BarsOk xs:=by
  unfold barsErr at h
  split at h
  · simp at h
  · rename_i hn
    obtain⟨h1,_,h3⟩:=chkB_ok xs none h
    refine⟨by omega,by omega,fun j hj=>h1 _ (List.getElem_mem hj),?_⟩
    intro i j hi hj hij
    have:∀ (d i:Nat) (hi:i<xs.length) (hj:i+d+1<xs.length),xs[i]<xs[i+d+1]:=by
      intro d
      induction d with
      |zero=>intro i hi hj;exact h3 i hj
      | succ d ih=>
        intro i hi hj
        have a:=ih i hi (by omega)
        have b:=h3 (i+d+1) hj
        exact Int.lt_trans a b
    have:=this (j - i - 1) i hi (by omega)
    have e:i+(j - i - 1)+1=j:=by omega
    simp only [e] at this
    exact this
def laidK(xs:List Int)(ls:List (Int×Int))(k:Nat):List Int×List Int:=laid xs (ls.take k)
theorem laidK_succ{xs:List Int}{ls:List (Int×Int)}{k:Nat}(h:k<ls.length):laidK xs ls (k+1)=ldStep xs (laidK xs ls k) ls[k]:=by
  unfold laidK laid
  rw [List.take_succ_eq_append_getElem h,List.foldl_append];rfl
theorem laidK_bd{xs:List Int}{ls:List (Int×Int)}(hx:BarsOk xs)(hl:∀ p∈ls,(-20000≤p.1∧p.1≤20000)∧(-1000000≤p.2∧p.2≤1000000)):∀ k,k≤ls.length→LaidBd xs (laidK xs ls k) (k * 40000000000)
  | 0,_=>by
    have:=laidBd_start xs
    simpa [laidK,laid] using this
  | k+1,h=>by
    have ih:=laidK_bd hx hl k (by omega)
    obtain⟨p1,p2⟩:=hl ls[k] (List.getElem_mem (by omega))
    have:=laidBd_step hx ih (by omega) p1 p2
    rw [laidK_succ (by omega)]
    have e:((k+1:Nat):Int) * 40000000000=(k:Int) * 40000000000+40000000000:=by omega
    rw [e];exact this
theorem uG13_14_5{N:Nat}{l:List Oper}{t:List (Nat×V)}{m:Mem}{Q:Exit→List (Nat×V)→Mem→Prop}(h:RgN Tryz.prog N l t m Q (fun i=>if i==3 || i==7 || i==8 then .q else .p) [.one 0,.one 1,.one 2,.one 3,.one 4,.one 5,.one 6,.one 7,.one 8,.one 9]):WA Tryz.prog N (.region 5 l.toArray true) t m Q:=d_rgN h
theorem uG13_14_8{N:Nat}{l:List Oper}{t:List (Nat×V)}{m:Mem}{Q:Exit→List (Nat×V)→Mem→Prop}(h:RgN Tryz.prog N l t m Q (fun i=>if i==2 || i==5 then .a else if i==1 || i==4 then .q else .p) [.one 0,.one 1,.one 3,.one 4,.grp true [] [2,5],.one 6,.one 7]):WA Tryz.prog N (.region 8 l.toArray true) t m Q:=d_rgN h
theorem uG13_14_14{N:Nat}{l:List Oper}{t:List (Nat×V)}{m:Mem}{Q:Exit→List (Nat×V)→Mem→Prop}(h:RgN Tryz.prog N l t m Q (fun i=>if i==17 then .w else if i==3 || i==5 || i==10 || i==12 then .q else .p) [.one 0,.one 1,.one 2,.one 3,.one 4,.one 5,.one 6,.one 7,.one 8,.one 9,.one 10,.one 11,.one 12,.one 13,.one 14,.one 15,.one 16,.one 17]):WA Tryz.prog N (.region 14 l.toArray true) t m Q:=d_rgN h
theorem uG13_14_15{N:Nat}{l:List Oper}{t:List (Nat×V)}{m:Mem}{Q:Exit→List (Nat×V)→Mem→Prop}(h:RgN Tryz.prog N l t m Q (fun i=>if i==17 then .w else if i==4 || i==6 || i==8 || i==12 then .q else .p) [.one 0,.one 1,.one 2,.one 3,.one 4,.one 5,.one 6,.one 7,.one 8,.one 9,.one 10,.one 11,.one 12,.one 13,.one 14,.one 15,.one 16,.one 17]):WA Tryz.prog N (.region 15 l.toArray true) t m Q:=d_rgN h
theorem uG13_14_21{N:Nat}{l:List Oper}{t:List (Nat×V)}{m:Mem}{Q:Exit→List (Nat×V)→Mem→Prop}(h:RgN Tryz.prog N l t m Q (fun i=>if i==12 || i==13 then .f else if i==10 || i==11 then .a else if i==3 || i==8 then .q else .p) [.one 0,.one 1,.one 2,.one 3,.one 4,.one 5,.one 6,.one 7,.one 8,.one 9,.grp true [] [10,11],.one 12,.one 13]):WA Tryz.prog N (.region 21 l.toArray true) t m Q:=d_rgN h
theorem uG13_14_23{N:Nat}{l:List Oper}{t:List (Nat×V)}{m:Mem}{Q:Exit→List (Nat×V)→Mem→Prop}(h:RgN Tryz.prog N l t m Q (fun i=>if i==11 then .w else if i==3 || i==8 then .q else .p) [.one 0,.one 1,.one 2,.one 3,.one 4,.one 5,.one 6,.one 7,.one 8,.one 9,.one 10,.one 11]):WA Tryz.prog N (.region 23 l.toArray true) t m Q:=d_rgN h
theorem uG13_14_25{N:Nat}{l:List Oper}{t:List (Nat×V)}{m:Mem}{Q:Exit→List (Nat×V)→Mem→Prop}(h:RgN Tryz.prog N l t m Q (fun i=>if i==11 then .w else if i==4 || i==8 then .q else .p) [.one 0,.one 1,.one 2,.one 3,.one 4,.one 5,.one 6,.one 7,.one 8,.one 9,.one 10,.one 11]):WA Tryz.prog N (.region 25 l.toArray true) t m Q:=d_rgN h
def outK(xs:List Int)(ls:List (Int×Int))(i:Nat):List (Int×Int):=(List.range i).map (distrAt xs (laid xs ls))
theorem outK_succ(xs:List Int)(ls:List (Int×Int))(i:Nat):frsV (outK xs ls (i+1))=frsV (outK xs ls i)++[[.int .i64 (distrAt xs (laid xs ls) i).1,.int .i64 (distrAt xs (laid xs ls) i).2]]:=by
  simp [outK,frsV,List.range_succ]
theorem outK_len(xs:List Int)(ls:List (Int×Int))(i:Nat):(frsV (outK xs ls i)).length=i:=by simp [outK,frsV]
def dSt(i:Nat):TV:=match i with|0=> .v .nilsl|i+1=> .sl 2 (i+1)
def dE(xs:List Int)(ls:List (Int×Int))(i:Nat):Mem:=match i with|0=>[]|i+1=>[.cells .own 50 2 (frsV (outK xs ls (i+1)))]
set_option maxHeartbeats 4000000 in
theorem distr_ok (xs:List Int) (ls:List (Int×Int)) (hl:xs.length≤1000000) (hm:ls.length≤1000000) (hb0:barsErr xs=0) (hl0:loadsErr (xs.getD 0 0) (xs.getD (xs.length - 1) 0) ls=0) (m:Mem):
    Gives Tryz.prog 14 [.lst (intsV xs),.lst (ldsV ls)] m (.tup [.lst (frsV (distr xs ls)),.int .i64 0]):=by
  have hx:=barsOk_of hb0
  have hx2:=hx.two
  have hx20:=hx.few
  have hlen:=intsV_length (xs:=xs)
  have hlenl:=ldsV_length (ls:=ls)
  have hg0:=intsV_getD (xs:=xs) (i:=0) (by omega)
  have hg1:=intsV_getD (xs:=xs) (i:=xs.length - 1) (by omega)
  have hn1:((xs.length:Int) - 1).toNat=xs.length - 1:=by omega
  have hls:ls.length≤100∧∀ p∈ls,loadOk (xs.getD 0 0) (xs.getD (xs.length - 1) 0) p:=by
    have h:=hl0
    unfold loadsErr at h
    split at h
    · simp at h
    · split at h
      · exact⟨by omega,by assumption⟩
      · simp at h
  have hbd:∀ p∈ls,(-20000≤p.1∧p.1≤20000)∧(-1000000≤p.2∧p.2≤1000000):=by
    intro p hp
    obtain⟨h1,h2⟩:=hls.2 p hp
    have:=getD_bd hx 0
    have:=getD_bd hx (xs.length - 1)
    exact⟨by omega,h2⟩
  have hrep:(List.replicate ((xs.length:Int)).toNat [V.int .i64 0])=intsV (laidK xs ls 0).1:=by
    rw [Int.toNat_natCast,intsV_rep];rfl
  refine CallA_in Tryz.func14 rfl Tryz.ntmps14 Tryz.results14 (by kernel_rfl) (by simp) fun Q hQ=>?_
  (have FX:=And.intro hlen (And.intro hlenl (And.intro hg0 (And.intro hg1 (And.intro hn1 (And.intro hb0 hl0)))));repeat'(first|(refine sx ?_ ?_<;>intro h<;>first|(exfalso;omega)|skip)|(refine g_op ?_;refine g_call ?_;refine g_args ?_;(first|refine s_fn (checkbars_c xs hl _) ?_|refine s_fn (checkloads_c ls _ _ hm _) ?_|refine s_fn (lowest_c _ _ ?_ ?_ ?_ ?_ _) ?_)<;>try first|omega|assumption)|refine ny ?_|refine WA_block ?_|(refine uG13_14_5 ?_;refine⟨by kernel_rfl,?_⟩)|(refine uG13_14_8 ?_;refine⟨by kernel_rfl,?_⟩)|(refine uG13_14_14 ?_;refine⟨by kernel_rfl,?_⟩)|(refine uG13_14_15 ?_;refine⟨by kernel_rfl,?_⟩)|(refine uG13_14_21 ?_;refine⟨by kernel_rfl,?_⟩)|(refine uG13_14_23 ?_;refine⟨by kernel_rfl,?_⟩)|(refine uG13_14_25 ?_;refine⟨by kernel_rfl,?_⟩)|((first|refine grp_cons (fun _=>checkbars_c xs hl _) ?_|refine grp_cons (fun _=>checkloads_c ls _ _ hm _) ?_|refine grp_cons (fun _=>lowest_c _ _ ?_ ?_ ?_ ?_ _) ?_)<;>try first|omega|assumption)|(refine g_d ?_;refine d_args ?_;(first|refine d_fn (checkbars_c xs hl _) ?_|refine d_fn (checkloads_c ls _ _ hm _) ?_|refine d_fn (lowest_c _ _ ?_ ?_ ?_ ?_ _) ?_|refine d_fnQ (fun _=>checkbars_c xs hl _) ?_|refine d_fnQ (fun _=>checkloads_c ls _ _ hm _) ?_|refine d_fnQ (fun _=>lowest_c _ _ ?_ ?_ ?_ ?_ _) ?_)<;>try first|omega|assumption)|(refine g_d ?_;(first|refine d_fnY (checkbars_c xs hl _) ?_|refine d_fnY (checkloads_c ls _ _ hm _) ?_|refine d_fnY (lowest_c _ _ ?_ ?_ ?_ ?_ _) ?_)<;>try first|omega|assumption)))
  refine WA_whileM (σ:=Nat) (L:=lend m++[.dead,.dead]) [0,7,9,10,45,46,47] (fun k=>[.v (.lst (intsV xs)),.v (.int .i64 (xs.length - 1)),.sl 0 xs.length,.sl 1 xs.length,.v (.lst (ldsV ls)),.v (.int .i64 ls.length),.v (.int .i64 k)]) (fun k=>[.cells .own 3 1 (intsV (laidK xs ls k).1),.cells .own 3 1 (intsV (laidK xs ls k).2)]) (fun k=>k≤ls.length) (fun k=>ls.length - k) 0 (Nat.zero_le _) ?_ ?_ (by decide) ?_ ?_ ?_
  · simp [tget,TV.inst,argT]
  · simp [laidK,laid,intsV_rep]
  · intro k _;simp [TV.ok,V.keeps,V.plain,intsV_plain,ldsV_plain]
  · intro k _;simp [Blk.flat,intsV,flatL,V.flat,plainL,V.plain]
  rintro k hk B ⟨D,rfl⟩ K hK
  generalize hB:lend m++[.dead,.dead]++D=B at hK ⊢
  have hlb:=laidK_bd hx hbd k hk
  generalize hRL:laidK xs ls k=RL at hlb
  obtain⟨R,L⟩:=RL
  simp only [zipT,List.map_cons,List.map_nil,TV.inst,Nat.add_zero]
  rcases Nat.lt_or_ge k ls.length with hlt|hge
  · have hget:=ldsV_get hlt
    have hp:=hbd _ (List.getElem_mem hlt)
    have hlo:=(hls.2 _ (List.getElem_mem hlt)).1
    have hsucc:=laidK_succ (xs:=xs) hlt
    obtain⟨⟨a,w⟩,haw⟩:∃ p,ls[k]=p:=⟨_,rfl⟩
    rw [haw] at hget hp hsucc hlo
    dsimp only at hget hp hlo
    clear FX
    (have FX:=And.intro hlen (And.intro hlenl hget);repeat'(first|(refine sx ?_ ?_<;>intro h<;>first|(exfalso;omega)|skip)|(refine g_op ?_;refine g_call ?_;refine g_args ?_;(first|refine s_fn (checkbars_c xs hl _) ?_|refine s_fn (checkloads_c ls _ _ hm _) ?_|refine s_fn (lowest_c _ _ ?_ ?_ ?_ ?_ _) ?_)<;>try first|omega|assumption)|refine ny ?_|refine WA_block ?_|(refine uG13_14_5 ?_;refine⟨by kernel_rfl,?_⟩)|(refine uG13_14_8 ?_;refine⟨by kernel_rfl,?_⟩)|(refine uG13_14_14 ?_;refine⟨by kernel_rfl,?_⟩)|(refine uG13_14_15 ?_;refine⟨by kernel_rfl,?_⟩)|(refine uG13_14_21 ?_;refine⟨by kernel_rfl,?_⟩)|(refine uG13_14_23 ?_;refine⟨by kernel_rfl,?_⟩)|(refine uG13_14_25 ?_;refine⟨by kernel_rfl,?_⟩)|((first|refine grp_cons (fun _=>checkbars_c xs hl _) ?_|refine grp_cons (fun _=>checkloads_c ls _ _ hm _) ?_|refine grp_cons (fun _=>lowest_c _ _ ?_ ?_ ?_ ?_ _) ?_)<;>try first|omega|assumption)|(refine g_d ?_;refine d_args ?_;(first|refine d_fn (checkbars_c xs hl _) ?_|refine d_fn (checkloads_c ls _ _ hm _) ?_|refine d_fn (lowest_c _ _ ?_ ?_ ?_ ?_ _) ?_|refine d_fnQ (fun _=>checkbars_c xs hl _) ?_|refine d_fnQ (fun _=>checkloads_c ls _ _ hm _) ?_|refine d_fnQ (fun _=>lowest_c _ _ ?_ ?_ ?_ ?_ _) ?_)<;>try first|omega|assumption)|(refine g_d ?_;(first|refine d_fnY (checkbars_c xs hl _) ?_|refine d_fnY (checkloads_c ls _ _ hm _) ?_|refine d_fnY (lowest_c _ _ ?_ ?_ ?_ ?_ _) ?_)<;>try first|omega|assumption)))
    refine g_op ?_;refine g_call ?_;refine g_args ?_;refine s_fnA (bsearch_c xs (a+1) hl hx.up _) ?_
    rintro v mo ⟨rfl,kk,b0,rfl,hk1,hk2,hk3⟩
    simp only [Option.getD_none]
    have hcnt:=cnt_eq hk1 hk2 hk3
    have hkk:1≤kk:=by
      rcases Nat.eq_zero_or_pos kk with h0|h0
      · subst h0
        have:=hk3 0 (by omega) (Nat.le_refl _)
        rw [getD_get (by omega:0<xs.length)] at hlo
        omega
      · exact h0
    obtain⟨sg,hsg⟩:∃ sg,seg xs a=sg:=⟨_,rfl⟩
    have hsg1:=seg_lt (xs:=xs) hx2 a
    have hmin:(if (xs.length:Int) - 1 - 1<(kk:Int) - 1 then (xs.length:Int) - 1 - 1 else (kk:Int) - 1)=(sg:Int):=by
      rw [←hsg];unfold seg;rw [hcnt];split<;>omega
    rw [hsg] at hsg1
    have l1:R.length=xs.length:=hlb.l1
    have l2:L.length=xs.length:=hlb.l2
    have hR:=intsV_getD (xs:=R) (i:=sg) (by omega)
    have hL:=intsV_getD (xs:=L) (i:=sg+1) (by omega)
    have hx0:=intsV_getD (xs:=xs) (i:=sg) (by omega)
    have hx1:=intsV_getD (xs:=xs) (i:=sg+1) (by omega)
    have ht1:((sg:Int)+1).toNat=sg+1:=by omega
    have b1:=hlb.b1 sg
    have b2:=hlb.b2 (sg+1)
    have d1:=getD_bd hx sg
    have d2:=getD_bd hx (sg+1)
    have m1:=mulW hp.2 (d:=xs.getD (sg+1) 0 - a) (by omega)
    have m2:=mulW hp.2 (d:=a - xs.getD sg 0) (by omega)
    dsimp only at b1 b2
    clear FX
    (have FX:=And.intro hlen (And.intro hlenl (And.intro hmin (And.intro hR (And.intro hL (And.intro hx0 (And.intro hx1 ht1))))));repeat'(first|(refine sx ?_ ?_<;>intro h<;>first|(exfalso;omega)|skip)|(refine g_op ?_;refine g_call ?_;refine g_args ?_;(first|refine s_fn (checkbars_c xs hl _) ?_|refine s_fn (checkloads_c ls _ _ hm _) ?_|refine s_fn (lowest_c _ _ ?_ ?_ ?_ ?_ _) ?_)<;>try first|omega|assumption)|refine ny ?_|refine WA_block ?_|(refine uG13_14_5 ?_;refine⟨by kernel_rfl,?_⟩)|(refine uG13_14_8 ?_;refine⟨by kernel_rfl,?_⟩)|(refine uG13_14_14 ?_;refine⟨by kernel_rfl,?_⟩)|(refine uG13_14_15 ?_;refine⟨by kernel_rfl,?_⟩)|(refine uG13_14_21 ?_;refine⟨by kernel_rfl,?_⟩)|(refine uG13_14_23 ?_;refine⟨by kernel_rfl,?_⟩)|(refine uG13_14_25 ?_;refine⟨by kernel_rfl,?_⟩)|((first|refine grp_cons (fun _=>checkbars_c xs hl _) ?_|refine grp_cons (fun _=>checkloads_c ls _ _ hm _) ?_|refine grp_cons (fun _=>lowest_c _ _ ?_ ?_ ?_ ?_ _) ?_)<;>try first|omega|assumption)|(refine g_d ?_;refine d_args ?_;(first|refine d_fn (checkbars_c xs hl _) ?_|refine d_fn (checkloads_c ls _ _ hm _) ?_|refine d_fn (lowest_c _ _ ?_ ?_ ?_ ?_ _) ?_|refine d_fnQ (fun _=>checkbars_c xs hl _) ?_|refine d_fnQ (fun _=>checkloads_c ls _ _ hm _) ?_|refine d_fnQ (fun _=>lowest_c _ _ ?_ ?_ ?_ ?_ _) ?_)<;>try first|omega|assumption)|(refine g_d ?_;(first|refine d_fnY (checkbars_c xs hl _) ?_|refine d_fnY (checkloads_c ls _ _ hm _) ?_|refine d_fnY (lowest_c _ _ ?_ ?_ ?_ ?_ _) ?_)<;>try first|omega|assumption)))
    refine nextM_ hK (k+1) [0,1] (by omega) (by omega) ?_
    rw [hsucc,hRL]
    simp only [ldStep,hsg,←intsV_set]
    rfl
  · have hke:k=ls.length:=by omega
    subst hke
    have hRL':laid xs ls=(R,L):=by rw [←hRL];unfold laidK;rw [List.take_length]
    clear FX
    (have FX:=And.intro hlen hlenl;repeat'(first|(refine sx ?_ ?_<;>intro h<;>first|(exfalso;omega)|skip)|(refine g_op ?_;refine g_call ?_;refine g_args ?_;(first|refine s_fn (checkbars_c xs hl _) ?_|refine s_fn (checkloads_c ls _ _ hm _) ?_|refine s_fn (lowest_c _ _ ?_ ?_ ?_ ?_ _) ?_)<;>try first|omega|assumption)|refine ny ?_|refine WA_block ?_|(refine uG13_14_5 ?_;refine⟨by kernel_rfl,?_⟩)|(refine uG13_14_8 ?_;refine⟨by kernel_rfl,?_⟩)|(refine uG13_14_14 ?_;refine⟨by kernel_rfl,?_⟩)|(refine uG13_14_15 ?_;refine⟨by kernel_rfl,?_⟩)|(refine uG13_14_21 ?_;refine⟨by kernel_rfl,?_⟩)|(refine uG13_14_23 ?_;refine⟨by kernel_rfl,?_⟩)|(refine uG13_14_25 ?_;refine⟨by kernel_rfl,?_⟩)|((first|refine grp_cons (fun _=>checkbars_c xs hl _) ?_|refine grp_cons (fun _=>checkloads_c ls _ _ hm _) ?_|refine grp_cons (fun _=>lowest_c _ _ ?_ ?_ ?_ ?_ _) ?_)<;>try first|omega|assumption)|(refine g_d ?_;refine d_args ?_;(first|refine d_fn (checkbars_c xs hl _) ?_|refine d_fn (checkloads_c ls _ _ hm _) ?_|refine d_fn (lowest_c _ _ ?_ ?_ ?_ ?_ _) ?_|refine d_fnQ (fun _=>checkbars_c xs hl _) ?_|refine d_fnQ (fun _=>checkloads_c ls _ _ hm _) ?_|refine d_fnQ (fun _=>lowest_c _ _ ?_ ?_ ?_ ?_ _) ?_)<;>try first|omega|assumption)|(refine g_d ?_;(first|refine d_fnY (checkbars_c xs hl _) ?_|refine d_fnY (checkloads_c ls _ _ hm _) ?_|refine d_fnY (lowest_c _ _ ?_ ?_ ?_ ?_ _) ?_)<;>try first|omega|assumption)))
    refine WA_whileM (σ:=Nat) (L:=B) [0,7,9,10,15,100,101] (fun i=>[.v (.lst (intsV xs)),.v (.int .i64 (xs.length - 1)),.sl 0 xs.length,.sl 1 xs.length,dSt i,.v (.int .i64 xs.length),.v (.int .i64 i)]) (fun i=> .cells .own 3 1 (intsV R):: .cells .own 3 1 (intsV L)::dE xs ls i) (fun i=>i≤xs.length) (fun i=>xs.length - i) 0 (Nat.zero_le _) ?_ ?_ (by decide) ?_ ?_ ?_
    · simp [tget,TV.inst,dSt]
    · rfl
    · intro i _;cases i<;>simp [TV.ok,V.keeps,V.plain,intsV_plain,dSt,dE]
    · intro i _;cases i<;>simp [Blk.flat,intsV,frsV,dE,flatL,V.flat,plainL,V.plain]
    rintro i hi B2 ⟨D2,rfl⟩ K2 hK2
    have hB2:B++D2=lend m++([.dead,.dead]++D++D2):=by rw [←hB];simp
    generalize hBB:B++D2=B2 at hK2 hB2 ⊢
    clear hK hBB hB
    have l1:R.length=xs.length:=hlb.l1
    have l2:L.length=xs.length:=hlb.l2
    rcases Nat.lt_or_ge i xs.length with hlt|hge
    · have hRi:=intsV_getD (xs:=R) (i:=i) (by omega)
      have hLi:=intsV_getD (xs:=L) (i:=i) (by omega)
      have hxi:=intsV_getD (xs:=xs) (i:=i) hlt
      have b1:=hlb.b1 i
      have b2:=hlb.b2 i
      have c1:=bef_bd hx hlt
      have c2:=beh_bd hx hlt
      have p1:=mulBig (a:=L.getD i 0) (b:=behW xs i) (by dsimp only at b2;omega) c2
      have p2:=mulBig (a:=R.getD i 0) (b:=befW xs i) (by dsimp only at b1;omega) c1
      have p3:=mulDen c1 c2
      have hso:=outK_succ xs ls i
      have hdi:distrAt xs (laid xs ls) i=lowF (L.getD i 0 * behW xs i+R.getD i 0 * befW xs i) (befW xs i * behW xs i):=by rw [hRL'];rfl
      rw [hdi] at hso
      unfold lowF at hso
      clear b1 b2 hdi
      cases i with
      | zero=>
        have hbw:befW xs 0=1:=rfl
        have hhw:behW xs 0=xs.getD 1 0 - xs.getD 0 0:=by unfold behW;rw [if_pos (by omega)]
        simp only [hbw,hhw,Int.one_mul] at hso p1 p2 p3 c2
        have hx1:=intsV_getD (xs:=xs) (i:=1) (by omega)
        have ht1:(((0:Nat):Int)+1).toNat=1:=by omega
        simp only [dSt,dE]
        simp only [zipT,List.map_cons,List.map_nil,TV.inst,Nat.add_zero]
        clear FX
        (have FX:=And.intro hlen (And.intro hRi (And.intro hLi (And.intro hxi (And.intro hx1 ht1))));repeat'(first|(refine sx ?_ ?_<;>intro h<;>first|(exfalso;omega)|skip)|(refine g_op ?_;refine g_call ?_;refine g_args ?_;(first|refine s_fn (checkbars_c xs hl _) ?_|refine s_fn (checkloads_c ls _ _ hm _) ?_|refine s_fn (lowest_c _ _ ?_ ?_ ?_ ?_ _) ?_)<;>try first|omega|assumption)|refine ny ?_|refine WA_block ?_|(refine uG13_14_5 ?_;refine⟨by kernel_rfl,?_⟩)|(refine uG13_14_8 ?_;refine⟨by kernel_rfl,?_⟩)|(refine uG13_14_14 ?_;refine⟨by kernel_rfl,?_⟩)|(refine uG13_14_15 ?_;refine⟨by kernel_rfl,?_⟩)|(refine uG13_14_21 ?_;refine⟨by kernel_rfl,?_⟩)|(refine uG13_14_23 ?_;refine⟨by kernel_rfl,?_⟩)|(refine uG13_14_25 ?_;refine⟨by kernel_rfl,?_⟩)|((first|refine grp_cons (fun _=>checkbars_c xs hl _) ?_|refine grp_cons (fun _=>checkloads_c ls _ _ hm _) ?_|refine grp_cons (fun _=>lowest_c _ _ ?_ ?_ ?_ ?_ _) ?_)<;>try first|omega|assumption)|(refine g_d ?_;refine d_args ?_;(first|refine d_fn (checkbars_c xs hl _) ?_|refine d_fn (checkloads_c ls _ _ hm _) ?_|refine d_fn (lowest_c _ _ ?_ ?_ ?_ ?_ _) ?_|refine d_fnQ (fun _=>checkbars_c xs hl _) ?_|refine d_fnQ (fun _=>checkloads_c ls _ _ hm _) ?_|refine d_fnQ (fun _=>lowest_c _ _ ?_ ?_ ?_ ?_ _) ?_)<;>try first|omega|assumption)|(refine g_d ?_;(first|refine d_fnY (checkbars_c xs hl _) ?_|refine d_fnY (checkloads_c ls _ _ hm _) ?_|refine d_fnY (lowest_c _ _ ?_ ?_ ?_ ?_ _) ?_)<;>try first|omega|assumption)))
        all_goals(refine nextM_ hK2 1 [0,1,7] (by omega) (by omega) ?_)
        all_goals(simp only [dE];rw [hso];rfl)
      | succ i=>
        have hbw:befW xs (i+1)=xs.getD (i+1) 0 - xs.getD i 0:=by unfold befW;rw [if_pos (by omega)];rfl
        have hxp:=intsV_getD (xs:=xs) (i:=i) (by omega)
        have ht0:(((i+1:Nat):Int) - 1).toNat=i:=by omega
        have ht1:(((i+1:Nat):Int)+1).toNat=i+1+1:=by omega
        have hol:=outK_len xs ls (i+1)
        have hoa:(frsV (outK xs ls (i+1))).take (i+1)=frsV (outK xs ls (i+1)):=by rw [List.take_of_length_le (by omega)]
        rcases Nat.lt_or_ge (i+1+1) xs.length with hl2|hl2
        · have hhw:behW xs (i+1)=xs.getD (i+1+1) 0 - xs.getD (i+1) 0:=by unfold behW;rw [if_pos (by omega)]
          simp only [hbw,hhw] at hso p1 p2 p3 c2 c1
          have hx1:=intsV_getD (xs:=xs) (i:=i+1+1) hl2
          simp only [dSt,dE]
          simp only [zipT,List.map_cons,List.map_nil,TV.inst,Nat.add_zero]
          clear FX
          (have FX:=And.intro hlen (And.intro hRi (And.intro hLi (And.intro hxi (And.intro hx1 (And.intro hxp (And.intro ht0 (And.intro ht1 (And.intro hol hoa))))))));repeat'(first|(refine sx ?_ ?_<;>intro h<;>first|(exfalso;omega)|skip)|(refine g_op ?_;refine g_call ?_;refine g_args ?_;(first|refine s_fn (checkbars_c xs hl _) ?_|refine s_fn (checkloads_c ls _ _ hm _) ?_|refine s_fn (lowest_c _ _ ?_ ?_ ?_ ?_ _) ?_)<;>try first|omega|assumption)|refine ny ?_|refine WA_block ?_|(refine uG13_14_5 ?_;refine⟨by kernel_rfl,?_⟩)|(refine uG13_14_8 ?_;refine⟨by kernel_rfl,?_⟩)|(refine uG13_14_14 ?_;refine⟨by kernel_rfl,?_⟩)|(refine uG13_14_15 ?_;refine⟨by kernel_rfl,?_⟩)|(refine uG13_14_21 ?_;refine⟨by kernel_rfl,?_⟩)|(refine uG13_14_23 ?_;refine⟨by kernel_rfl,?_⟩)|(refine uG13_14_25 ?_;refine⟨by kernel_rfl,?_⟩)|((first|refine grp_cons (fun _=>checkbars_c xs hl _) ?_|refine grp_cons (fun _=>checkloads_c ls _ _ hm _) ?_|refine grp_cons (fun _=>lowest_c _ _ ?_ ?_ ?_ ?_ _) ?_)<;>try first|omega|assumption)|(refine g_d ?_;refine d_args ?_;(first|refine d_fn (checkbars_c xs hl _) ?_|refine d_fn (checkloads_c ls _ _ hm _) ?_|refine d_fn (lowest_c _ _ ?_ ?_ ?_ ?_ _) ?_|refine d_fnQ (fun _=>checkbars_c xs hl _) ?_|refine d_fnQ (fun _=>checkloads_c ls _ _ hm _) ?_|refine d_fnQ (fun _=>lowest_c _ _ ?_ ?_ ?_ ?_ _) ?_)<;>try first|omega|assumption)|(refine g_d ?_;(first|refine d_fnY (checkbars_c xs hl _) ?_|refine d_fnY (checkloads_c ls _ _ hm _) ?_|refine d_fnY (lowest_c _ _ ?_ ?_ ?_ ?_ _) ?_)<;>try first|omega|assumption)))
          all_goals(refine nextM_ hK2 (i+1+1) [0,1,8] (by omega) (by omega) ?_)
          all_goals(simp only [dE];rw [hso];rfl)
        · have hhw:behW xs (i+1)=1:=by unfold behW;rw [if_neg (by omega)]
          simp only [hbw,hhw] at hso p1 p2 p3 c2 c1
          simp only [dSt,dE]
          simp only [zipT,List.map_cons,List.map_nil,TV.inst,Nat.add_zero]
          clear FX
          (have FX:=And.intro hlen (And.intro hRi (And.intro hLi (And.intro hxi (And.intro hxp (And.intro ht0 (And.intro ht1 (And.intro hol hoa)))))));repeat'(first|(refine sx ?_ ?_<;>intro h<;>first|(exfalso;omega)|skip)|(refine g_op ?_;refine g_call ?_;refine g_args ?_;(first|refine s_fn (checkbars_c xs hl _) ?_|refine s_fn (checkloads_c ls _ _ hm _) ?_|refine s_fn (lowest_c _ _ ?_ ?_ ?_ ?_ _) ?_)<;>try first|omega|assumption)|refine ny ?_|refine WA_block ?_|(refine uG13_14_5 ?_;refine⟨by kernel_rfl,?_⟩)|(refine uG13_14_8 ?_;refine⟨by kernel_rfl,?_⟩)|(refine uG13_14_14 ?_;refine⟨by kernel_rfl,?_⟩)|(refine uG13_14_15 ?_;refine⟨by kernel_rfl,?_⟩)|(refine uG13_14_21 ?_;refine⟨by kernel_rfl,?_⟩)|(refine uG13_14_23 ?_;refine⟨by kernel_rfl,?_⟩)|(refine uG13_14_25 ?_;refine⟨by kernel_rfl,?_⟩)|((first|refine grp_cons (fun _=>checkbars_c xs hl _) ?_|refine grp_cons (fun _=>checkloads_c ls _ _ hm _) ?_|refine grp_cons (fun _=>lowest_c _ _ ?_ ?_ ?_ ?_ _) ?_)<;>try first|omega|assumption)|(refine g_d ?_;refine d_args ?_;(first|refine d_fn (checkbars_c xs hl _) ?_|refine d_fn (checkloads_c ls _ _ hm _) ?_|refine d_fn (lowest_c _ _ ?_ ?_ ?_ ?_ _) ?_|refine d_fnQ (fun _=>checkbars_c xs hl _) ?_|refine d_fnQ (fun _=>checkloads_c ls _ _ hm _) ?_|refine d_fnQ (fun _=>lowest_c _ _ ?_ ?_ ?_ ?_ _) ?_)<;>try first|omega|assumption)|(refine g_d ?_;(first|refine d_fnY (checkbars_c xs hl _) ?_|refine d_fnY (checkloads_c ls _ _ hm _) ?_|refine d_fnY (lowest_c _ _ ?_ ?_ ?_ ?_ _) ?_)<;>try first|omega|assumption)))
          all_goals(refine nextM_ hK2 (i+1+1) [0,1,8] (by omega) (by omega) ?_)
          all_goals(simp only [dE];rw [hso];rfl)
    · have hie:i=xs.length:=by omega
      subst hie
      obtain⟨n,hn⟩:∃ n,xs.length=n+1:=⟨xs.length - 1,by omega⟩
      have hd:distr xs ls=outK xs ls xs.length:=rfl
      have hol:=outK_len xs ls xs.length
      simp only [hn,dSt,dE]
      simp only [zipT,List.map_cons,List.map_nil,TV.inst,Nat.add_zero]
      clear FX
      (have FX:=And.intro hlen hlenl;repeat'(first|(refine sx ?_ ?_<;>intro h<;>first|(exfalso;omega)|skip)|(refine g_op ?_;refine g_call ?_;refine g_args ?_;(first|refine s_fn (checkbars_c xs hl _) ?_|refine s_fn (checkloads_c ls _ _ hm _) ?_|refine s_fn (lowest_c _ _ ?_ ?_ ?_ ?_ _) ?_)<;>try first|omega|assumption)|refine ny ?_|refine WA_block ?_|(refine uG13_14_5 ?_;refine⟨by kernel_rfl,?_⟩)|(refine uG13_14_8 ?_;refine⟨by kernel_rfl,?_⟩)|(refine uG13_14_14 ?_;refine⟨by kernel_rfl,?_⟩)|(refine uG13_14_15 ?_;refine⟨by kernel_rfl,?_⟩)|(refine uG13_14_21 ?_;refine⟨by kernel_rfl,?_⟩)|(refine uG13_14_23 ?_;refine⟨by kernel_rfl,?_⟩)|(refine uG13_14_25 ?_;refine⟨by kernel_rfl,?_⟩)|((first|refine grp_cons (fun _=>checkbars_c xs hl _) ?_|refine grp_cons (fun _=>checkloads_c ls _ _ hm _) ?_|refine grp_cons (fun _=>lowest_c _ _ ?_ ?_ ?_ ?_ _) ?_)<;>try first|omega|assumption)|(refine g_d ?_;refine d_args ?_;(first|refine d_fn (checkbars_c xs hl _) ?_|refine d_fn (checkloads_c ls _ _ hm _) ?_|refine d_fn (lowest_c _ _ ?_ ?_ ?_ ?_ _) ?_|refine d_fnQ (fun _=>checkbars_c xs hl _) ?_|refine d_fnQ (fun _=>checkloads_c ls _ _ hm _) ?_|refine d_fnQ (fun _=>lowest_c _ _ ?_ ?_ ?_ ?_ _) ?_)<;>try first|omega|assumption)|(refine g_d ?_;(first|refine d_fnY (checkbars_c xs hl _) ?_|refine d_fnY (checkloads_c ls _ _ hm _) ?_|refine d_fnY (lowest_c _ _ ?_ ?_ ?_ ?_ _) ?_)<;>try first|omega|assumption)))
      all_goals(refine r_esA hQ ?_)
      all_goals(refine fin_sl2 (j:=2) hB2 rfl (by rw [←hn,hol];exact Nat.le_refl _) (by rw [←hn,List.take_of_length_le (by omega)];exact frsV_plain _) (fun m L=>frz_int m L 3 _ _) ⟨?_,rfl⟩)
      all_goals(rw [←hn,List.take_of_length_le (by omega),hd])
end Go.Proofs.YtjonlmpjdhoogaaGreatDoor
