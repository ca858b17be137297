import Derived.Test.YtjonlmpjdhoogaaGreatDoorGAA
import Derived.Test.YtjonlmpjdhoogaaGreatDoorGAC
import Derived.Lib.ItoaLen
set_option linter.unusedSimpArgs false
set_option linter.unusedVariables false
/- contracts: names, small numbers -/
namespace Go.Proofs.YtjonlmpjdhoogaaGreatDoor
open Go.RowKit
attribute [local irreducible] WA WOs WDs WAn qThen qBlock tput
set_option maxHeartbeats 1000000
set_option maxRecDepth 20000
set_option linter.unusedSimpArgs false
set_option linter.unusedVariables false

theorem bisdigit_c(c:Int)(m:Mem):Gives Tryz.prog 74 [.int .u8 c] m (.bool (decide (digP c))):=by
  refine Gives_in Tryz.func74 rfl Tryz.ntmps74 Tryz.results74 (by kernel_rfl) (by simp) rfl fun Q hQ=>?_
  (repeat'(first|(refine sx ?_ ?_<;>intro h<;>first|(exfalso;omega)|skip)|refine ny ?_|refine WA_block ?_))
  all_goals((refine r_es hQ ?_;try with_reducible rfl);unfold digP)
  all_goals(first|exact congrArg V.bool (decide_eq_true (by first|omega|simp_all)).symm|exact congrArg V.bool (decide_eq_false (by first|omega|simp_all)).symm|exact congrArg V.bool (decide_eq_decide.2 (by omega)))

theorem babs_c(n:Int)(h1: -9223372036854775807≤n)(h2:n≤9223372036854775807)(m:Mem):Gives Tryz.prog 55 [.int .i64 n] m (.int .i64 (n.natAbs:Int)):=by
  refine Gives_in Tryz.func55 rfl Tryz.ntmps55 Tryz.results55 (by kernel_rfl) (by simp) rfl fun Q hQ=>?_
  (repeat'(first|(refine sx ?_ ?_<;>intro h<;>first|(exfalso;omega)|skip)|refine ny ?_|refine WA_block ?_))
  all_goals((refine r_es hQ ?_;try with_reducible rfl);all_goals(simp only [V.int.injEq,true_and];omega))
end Go.Proofs.YtjonlmpjdhoogaaGreatDoor
namespace Go.Proofs.YtjonlmpjdhoogaaGreatDoor
open Go.RowKit
attribute [local irreducible] WA WOs WDs WAn qThen qBlock tput
set_option maxHeartbeats 1000000
set_option maxRecDepth 20000
set_option linter.unusedSimpArgs false
set_option linter.unusedVariables false
set_option maxHeartbeats 4000000
/-- what is to be written yet, and behind it what is written -/
def dS(m:Nat)(s:Txt):Txt:=if m=0 then s else Lib.decDigits m++s
theorem dS_step{m:Nat}(h:m≠0)(s:Txt):dS m s=dS (m / 10) (UInt8.ofNat (48+m % 10)::s):=by
  unfold dS
  rw [if_neg h]
  by_cases h9:m<10
  · rw [if_pos (by omega),Lib.decDigits,dif_pos h9,Nat.mod_eq_of_lt h9];rfl
  · rw [if_neg (by omega),Lib.decDigits,dif_neg h9,List.append_assoc];rfl
theorem u8_of{d:Nat}(h:d<256):((UInt8.ofNat d).toNat:Int)=d:=by
  rw [UInt8.toNat_ofNat'];omega
theorem itoa_dS{n:Int}(h:n≠0):Lib.itoa n=if n<0 then 45::dS n.natAbs [] else dS n.natAbs []:=by
  unfold Lib.itoa dS
  have h1:¬ n.natAbs=0:=by omega
  simp only [h1,if_false,List.append_nil]
  split
  · rfl
  · rw [show n.toNat=n.natAbs by omega]
theorem dS_len(m:Nat)(s:Txt):s.length≤(dS m s).length:=by
  unfold dS
  split
  · exact Nat.le_refl _
  · rw [List.length_append];omega
theorem dS_len20{m:Nat}(h:m≤9223372036854775808):(dS m []).length≤20:=by
  unfold dS
  split
  · simp
  · rw [List.append_nil,Lib.decDigits_length];exact Lib.nDigits_le20 m (by omega)
theorem app_last{B:Mem}{x:Blk}:(B++[x])[B.length]?=some x:=by simp
def deS(n:Int)(s:Int×Txt):List TV:=[.v (.int .i64 n),.v (.int .i64 s.1),.v (.str s.2)]

theorem bdec_c(n:Int)(hn:n.natAbs≤9223372036854775808)(m:Mem):Gives Tryz.prog 29 [.int .i64 n] m (.str (Lib.itoa n)):=by
  suffices key:CallA Tryz.prog 29 [.int .i64 n] m (fun v mo=>mo=none∧WkV v (.str (Lib.itoa n))) from Gives_ofX key fun v mo h=>h
  refine CallA_in Tryz.func29 rfl Tryz.ntmps29 Tryz.results29 (by kernel_rfl) (by simp) fun Q hQ=>?_
  (repeat'(first|(refine sx ?_ ?_<;>intro h<;>first|(exfalso;omega)|skip)|refine ny ?_|refine WA_block ?_))
  · subst h
    refine r_esA hQ (v':= .str [48]) (.inl ⟨rfl,rfl,?_⟩)
    exact(show Lib.itoa 0=[48] from(show Lib.itoa 0=Lib.decDigits 0 from rfl).trans (by rw [Lib.decDigits];rfl)) ▸ WkV.refl _
  · rw [itoa_dS h] at hQ
    refine WA_whileT (σ:=Int×Txt) (L:=lend m) [0,4,3] (deS n) (fun _=>[]) (fun s=>s.1.natAbs≤n.natAbs∧dS s.1.natAbs s.2=dS n.natAbs []) (fun s=>s.1.natAbs) (n,[]) ⟨Nat.le_refl _,rfl⟩ (by simp only [deS,List.map_cons,List.map_nil,TV.inst];exact tv_) rfl (by decide) (fun _ _=>rfl) (fun _ _=>rfl) ?_
    rintro⟨u,s⟩ ⟨hu,hs⟩ B ⟨D,hB⟩ K hK
    dsimp only at hu hs
    simp only [deS]
    have hd:(u.tmod 10).natAbs=u.natAbs % 10:=Int.natAbs_tmod u 10
    have hq:(u.tdiv 10).natAbs=u.natAbs / 10:=Int.natAbs_tdiv u 10
    have hab:=fun m=>babs_c (u.tmod 10) (by omega) (by omega) m
    rw [hd] at hab
    have hb9:u.natAbs % 10<10:=Nat.mod_lt _ (by decide)
    have hst:=fun(h:u≠0)=>dS_step (m:=u.natAbs) (by omega) s
    generalize u.natAbs % 10=c at hd hb9 hab hst
    have hsl:s.length≤20:=Nat.le_trans (dS_len u.natAbs s) (hs ▸ dS_len20 hn)
    have hw8:IntKind.u8.wrap (48+(c:Int))=((UInt8.ofNat (48+c)).toNat:Int):=by
      rw [u8_of (d:=48+c) (by omega)]
      simp [IntKind.wrap,IntKind.bits,IntKind.signed]
      omega
    have h8:=u8_of (d:=48+c) (by omega)
    simp only [List.map_cons,List.map_nil,TB.inst,TV.inst,tv_map,zipT,List.cons_append,List.nil_append,Nat.add_zero]
    (have FX:=And.intro hb9 hsl;repeat'(first|(refine sx ?_ ?_<;>intro h<;>first|(exfalso;omega)|skip)|(refine g_op ?_;refine g_call ?_;refine g_args ?_;(first|refine s_fn (hab _) ?_)<;>try first|omega|assumption)|refine ny ?_|refine WA_block ?_))
    · refine g_op ?_
      refine s_bk (c:=UInt8.ofNat (48+c)) ?_ hw8 (by exact lk_) app_last rfl (by kernel_rfl)
      (have FX:=And.intro hb9 hsl;repeat'(first|(refine sx ?_ ?_<;>intro h<;>first|(exfalso;omega)|skip)|(refine g_op ?_;refine g_call ?_;refine g_args ?_;(first|refine s_fn (hab _) ?_)<;>try first|omega|assumption)|refine ny ?_|refine WA_block ?_))
      exact hK (u.tdiv 10,UInt8.ofNat (48+c)::s) [] _ _ ⟨_,rfl,by simp only [deS,List.map_cons,List.map_nil,TV.inst];exact tv_,rfl,List.nodup_nil⟩ ⟨by dsimp only;omega,by dsimp only;rw [hq,←hst h];exact hs⟩ (by dsimp only;omega)
    all_goals(obtain rfl:u=0:=by assumption)
    all_goals(rw [show dS (Int.natAbs 0) s=s from rfl] at hs;rw [←hs] at hQ)
    · rw [if_pos (by assumption)] at hQ
      exact r_esA hQ (v':= .str (45::s)) (.inl ⟨rfl,rfl,WkV.refl _⟩)
    · rw [if_neg (by assumption)] at hQ
      exact r_esA hQ (v':= .str s) (.inl ⟨rfl,rfl,WkV.refl _⟩)
end Go.Proofs.YtjonlmpjdhoogaaGreatDoor
