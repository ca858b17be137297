/- contracts: searches with functions -/
import Derived.Test.YtookikhphobnlaaGreatDoorB2
set_option linter.unusedSimpArgs false
set_option linter.unusedVariables false
namespace Go.Proofs.YtookikhphobnlaaGreatDoor
open Go.RowKit
attribute [local irreducible] WA WOs WDs WAn qThen qBlock tput
set_option maxHeartbeats 1000000
set_option maxRecDepth 20000
set_option linter.unusedSimpArgs false
set_option linter.unusedVariables false
/-- what is to be read in a memory is so in the other one -/
def Sees(m M:Mem):Prop:=(∀ (k:Nat) st ty sz es,m[k]?=some (Blk.cells st ty sz es)→∃ st',M[k]?=some (Blk.cells st' ty sz es))∧∀ (k:Nat) st vs φ,m[k]?=some (Blk.obj st vs φ)→∃ st',M[k]?=some (Blk.obj st' vs φ)
theorem Sees.refl(m:Mem):Sees m m:=⟨fun _ _ _ _ _ h=>⟨_,h⟩,fun _ _ _ _ h=>⟨_,h⟩⟩
theorem Sees.trans{a b c:Mem}(h:Sees a b)(k:Sees b c):Sees a c:=
  ⟨fun _ _ _ _ _ q=>(h.1 _ _ _ _ _ q).elim fun _ q=>k.1 _ _ _ _ _ q,fun _ _ _ _ q=>(h.2 _ _ _ _ q).elim fun _ q=>k.2 _ _ _ _ q⟩
theorem Sees.lend(m X:Mem):Sees m (lend m++X):=by
  refine⟨fun k st ty sz es h=>?_,fun k st vs φ h=>?_⟩
  · have hlt:k<(Go.Proofs.YtookikhphobnlaaGreatDoor.lend m).length:=by
      have:=(List.getElem?_eq_some_iff.1 h).1
      simpa [Go.Proofs.YtookikhphobnlaaGreatDoor.lend] using this
    rw [List.getElem?_append_left hlt]
    simp only [Go.Proofs.YtookikhphobnlaaGreatDoor.lend,List.getElem?_map,h,Option.map_some]
    cases st<;>exact⟨_,rfl⟩
  · have hlt:k<(Go.Proofs.YtookikhphobnlaaGreatDoor.lend m).length:=by
      have:=(List.getElem?_eq_some_iff.1 h).1
      simpa [Go.Proofs.YtookikhphobnlaaGreatDoor.lend] using this
    rw [List.getElem?_append_left hlt]
    simp only [Go.Proofs.YtookikhphobnlaaGreatDoor.lend,List.getElem?_map,h,Option.map_some]
    cases st<;>exact⟨_,rfl⟩
theorem Sees.at{m M:Mem}(h:Sees m M){k:Nat}{st:Sta}{ty sz:Nat}{es:List (List V)}(hk:m[k]?=some (.cells st ty sz es)):∃ st',M[k]?=some (.cells st' ty sz es):=h.1 _ _ _ _ _ hk
theorem at_last(M:Mem)(b:Blk):(M++[b])[M.length]?=some b:=by simp
theorem Gives_fz{P:Program}{f:FuncId}{vs:List V}{m:Mem}{b:Nat}{st:Sta}{ty sz:Nat}{es:List (List V)}{v:V}(hb:m[b]?=some (.cells st ty sz es))(hv:v.flat=true)(h:Gives P f (vs.map (frzV b es)) (m.set b (.cells .ro ty sz es)) v):Gives P f vs m v:=by
  refine⟨h.1,fun w ρ xs hM hA=>?_⟩
  have af:=After.of_ro hM hb
  refine(h.2 w ρ xs af.mem ⟨by simpa using hA.1,fun i v x h1 h2=>?_⟩).mono ?_
  · rw [List.getElem?_map,Option.map_eq_some_iff] at h1
    obtain⟨v0,h1,rfl⟩:=h1
    exact frzV_rel hM hb (hA.2 i v0 x h1 h2)
  · rintro e w' ⟨v',mo,x,rfl,⟨rfl,rfl⟩,hh⟩
    rcases hh with ⟨_,hbel,rv⟩|⟨m',ρ',e,_⟩
    · exact⟨v',none,x,rfl,⟨rfl,rfl⟩,.inl ⟨rfl,hbel,flat_rel rv hv⟩⟩
    · cases e

theorem ix_ns(l:List Int)(f:Int→Bool)(g:FuncId)(cs:List V)(m:Mem)(hlb:l.length≤100000)(hc:∀ i,i<l.length→∀ M,Sees m M→Gives Tryz.prog g (.int .i64 (l.getD i 0)::cs) M (.bool (f (l.getD i 0)))):Gives Tryz.prog 132 [.lst (nsV l),.clo (.func g) [] cs] m (.int .i64 (fdx f l)):=by
  have hlen:=nsV_length (l:=l)
  have hget:=hlen
  refine Gives_in Tryz.func132 rfl Tryz.ntmps132 Tryz.results132 (by kernel_rfl) (by simp) rfl fun Q hQ=>?_
  (have FX:=And.intro hlen hget;repeat'(first|(refine sx ?_ ?_<;>intro h<;>first|(exfalso;omega)|skip)|(refine g_op ?_;refine g_call ?_;refine g_args ?_;(first|refine s_fn (hcl ()) ?_)<;>try first|omega|assumption)|(refine g_op ?_;refine g_dyn ?_;refine g_dargs ?_;first|(refine s_fn (hcl ()) ?_<;>try first|omega|assumption))|refine ny ?_|refine WA_block ?_))
  refine WA_while (σ:=Nat) [0,1,6,7,8] (fun i=>[.lst (nsV l),.clo (.func g) [] cs,.lst (nsV l),.int .i64 l.length,.int .i64 i]) (fun _=>lend m++[]) (fun i=>i≤l.length∧∀ j,j<i→f (l.getD j 0)=false) (fun i=>l.length - i) 0 ⟨Nat.zero_le _,fun j h=>absurd h (Nat.not_lt_zero _)⟩ tv_ rfl ?_
  rintro i ⟨hi,hj⟩ L hL
  simp only [zipT]
  clear FX
  rcases Nat.lt_or_ge i l.length with hlt|hge
  · have hget:=nsV_get hlt
    have hcl:=fun(_:Unit)=>hc i hlt (lend m++[]) (Sees.lend m [])
    cases hf:f (l.getD i 0) with
    | true=>
      rw [hf] at hcl
      (have FX:=And.intro hlen hget;repeat'(first|(refine sx ?_ ?_<;>intro h<;>first|(exfalso;omega)|skip)|(refine g_op ?_;refine g_call ?_;refine g_args ?_;(first|refine s_fn (hcl ()) ?_)<;>try first|omega|assumption)|(refine g_op ?_;refine g_dyn ?_;refine g_dargs ?_;first|(refine s_fn (hcl ()) ?_<;>try first|omega|assumption))|refine ny ?_|refine WA_block ?_))
      all_goals(try(exfalso;omega))
      all_goals((refine r_es hQ ?_;try with_reducible rfl))
      all_goals(exact congrArg (V.int .i64) (fdx_at hlt hj hf).symm)
    | false=>
      rw [hf] at hcl
      (have FX:=And.intro hlen hget;repeat'(first|(refine sx ?_ ?_<;>intro h<;>first|(exfalso;omega)|skip)|(refine g_op ?_;refine g_call ?_;refine g_args ?_;(first|refine s_fn (hcl ()) ?_)<;>try first|omega|assumption)|(refine g_op ?_;refine g_dyn ?_;refine g_dargs ?_;first|(refine s_fn (hcl ()) ?_<;>try first|omega|assumption))|refine ny ?_|refine WA_block ?_))
      all_goals(try(exfalso;omega))
      all_goals(refine next_ hL (i+1) ⟨by omega,up_false (f:=fun j=>f (l.getD j 0)) hj hf⟩ (by omega))
  · have e:i=l.length:=by omega
    subst e
    have hcl:=fun(_:Unit)=>True
    (have FX:=And.intro hlen hget;repeat'(first|(refine sx ?_ ?_<;>intro h<;>first|(exfalso;omega)|skip)|(refine g_op ?_;refine g_call ?_;refine g_args ?_;(first|refine s_fn (hcl ()) ?_)<;>try first|omega|assumption)|(refine g_op ?_;refine g_dyn ?_;refine g_dargs ?_;first|(refine s_fn (hcl ()) ?_<;>try first|omega|assumption))|refine ny ?_|refine WA_block ?_))
    all_goals(try(exfalso;omega))
    all_goals((refine r_es hQ ?_;try with_reducible rfl))
    all_goals(exact congrArg (V.int .i64) (fdx_no hj).symm)

theorem cf_ns(l:List Int)(f:Int→Bool)(g:FuncId)(cs:List V)(m:Mem)(hlb:l.length≤100000)(hc:∀ i,i<l.length→∀ M,Sees m M→Gives Tryz.prog g (.int .i64 (l.getD i 0)::cs) M (.bool (f (l.getD i 0)))):Gives Tryz.prog 110 [.lst (nsV l),.clo (.func g) [] cs] m (.bool (decide (0≤fdx f l))):=by
  refine Gives_in Tryz.func110 rfl Tryz.ntmps110 Tryz.results110 (by kernel_rfl) (by simp) rfl fun Q hQ=>?_
  (repeat'(first|(refine sx ?_ ?_<;>intro h<;>first|(exfalso;omega)|skip)|(refine g_op ?_;refine g_call ?_;refine g_args ?_;(first|refine s_fn (ix_ns l f g cs _ hlb (fun i hi M hM=>hc i hi M ((Sees.lend m []).trans hM))) ?_)<;>try first|omega|assumption)|refine ny ?_|refine WA_block ?_))
  all_goals((refine r_es hQ ?_;try with_reducible rfl))
  all_goals(exact congrArg V.bool (by first|rfl|(rw [decide_eq_true (by assumption)];rfl)|(rw [decide_eq_false (by assumption)];rfl)|exact(decide_eq_true (by assumption)).symm|exact(decide_eq_false (by assumption)).symm|exact(decide_eq_true (by omega)).symm|exact(decide_eq_false (by omega)).symm))

theorem ix_mss(l:List MsR)(f:MsR→Bool)(g:FuncId)(cs:List V)(m:Mem)(hlb:l.length≤100000)(hc:∀ i,i<l.length→∀ M,Sees m M→Gives Tryz.prog g (.agg (msV (l.getD i msz))::cs) M (.bool (f (l.getD i msz)))):Gives Tryz.prog 91 [.lst (mssV l),.clo (.func g) [] cs] m (.int .i64 (fdx f l)):=by
  have hlen:=mssV_length (l:=l)
  have hget:=hlen
  refine Gives_in Tryz.func91 rfl Tryz.ntmps91 Tryz.results91 (by kernel_rfl) (by simp) rfl fun Q hQ=>?_
  (have FX:=And.intro hlen hget;repeat'(first|(refine sx ?_ ?_<;>intro h<;>first|(exfalso;omega)|skip)|(refine g_op ?_;refine g_call ?_;refine g_args ?_;(first|refine s_fn (hcl ()) ?_)<;>try first|omega|assumption)|(refine g_op ?_;refine g_dyn ?_;refine g_dargs ?_;first|(refine s_fn (hcl ()) ?_<;>try first|omega|assumption))|refine ny ?_|refine WA_block ?_))
  refine WA_while (σ:=Nat) [0,1,6,7,8] (fun i=>[.lst (mssV l),.clo (.func g) [] cs,.lst (mssV l),.int .i64 l.length,.int .i64 i]) (fun _=>lend m++[]) (fun i=>i≤l.length∧∀ j,j<i→f (l.getD j msz)=false) (fun i=>l.length - i) 0 ⟨Nat.zero_le _,fun j h=>absurd h (Nat.not_lt_zero _)⟩ tv_ rfl ?_
  rintro i ⟨hi,hj⟩ L hL
  simp only [zipT]
  clear FX
  rcases Nat.lt_or_ge i l.length with hlt|hge
  · have hget:=mssV_get hlt
    have hcl:=fun(_:Unit)=>hc i hlt (lend m++[]) (Sees.lend m [])
    unfold msV at hcl hget
    cases hf:f (l.getD i msz) with
    | true=>
      rw [hf] at hcl
      (have FX:=And.intro hlen hget;repeat'(first|(refine sx ?_ ?_<;>intro h<;>first|(exfalso;omega)|skip)|(refine g_op ?_;refine g_call ?_;refine g_args ?_;(first|refine s_fn (hcl ()) ?_)<;>try first|omega|assumption)|(refine g_op ?_;refine g_dyn ?_;refine g_dargs ?_;first|(refine s_fn (hcl ()) ?_<;>try first|omega|assumption))|refine ny ?_|refine WA_block ?_))
      all_goals(try(exfalso;omega))
      all_goals((refine r_es hQ ?_;try with_reducible rfl))
      all_goals(exact congrArg (V.int .i64) (fdx_at hlt hj hf).symm)
    | false=>
      rw [hf] at hcl
      (have FX:=And.intro hlen hget;repeat'(first|(refine sx ?_ ?_<;>intro h<;>first|(exfalso;omega)|skip)|(refine g_op ?_;refine g_call ?_;refine g_args ?_;(first|refine s_fn (hcl ()) ?_)<;>try first|omega|assumption)|(refine g_op ?_;refine g_dyn ?_;refine g_dargs ?_;first|(refine s_fn (hcl ()) ?_<;>try first|omega|assumption))|refine ny ?_|refine WA_block ?_))
      all_goals(try(exfalso;omega))
      all_goals(refine next_ hL (i+1) ⟨by omega,up_false (f:=fun j=>f (l.getD j msz)) hj hf⟩ (by omega))
  · have e:i=l.length:=by omega
    subst e
    have hcl:=fun(_:Unit)=>True
    (have FX:=And.intro hlen hget;repeat'(first|(refine sx ?_ ?_<;>intro h<;>first|(exfalso;omega)|skip)|(refine g_op ?_;refine g_call ?_;refine g_args ?_;(first|refine s_fn (hcl ()) ?_)<;>try first|omega|assumption)|(refine g_op ?_;refine g_dyn ?_;refine g_dargs ?_;first|(refine s_fn (hcl ()) ?_<;>try first|omega|assumption))|refine ny ?_|refine WA_block ?_))
    all_goals(try(exfalso;omega))
    all_goals((refine r_es hQ ?_;try with_reducible rfl))
    all_goals(exact congrArg (V.int .i64) (fdx_no hj).symm)

theorem ix_ads(l:List AdR)(f:AdR→Bool)(g:FuncId)(cs:List V)(m:Mem)(hlb:l.length≤100000)(hc:∀ i,i<l.length→∀ M,Sees m M→Gives Tryz.prog g (.agg (adV (l.getD i adz))::cs) M (.bool (f (l.getD i adz)))):Gives Tryz.prog 74 [.lst (adsV l),.clo (.func g) [] cs] m (.int .i64 (fdx f l)):=by
  have hlen:=adsV_length (l:=l)
  have hget:=hlen
  refine Gives_in Tryz.func74 rfl Tryz.ntmps74 Tryz.results74 (by kernel_rfl) (by simp) rfl fun Q hQ=>?_
  (have FX:=And.intro hlen hget;repeat'(first|(refine sx ?_ ?_<;>intro h<;>first|(exfalso;omega)|skip)|(refine g_op ?_;refine g_call ?_;refine g_args ?_;(first|refine s_fn (hcl ()) ?_)<;>try first|omega|assumption)|(refine g_op ?_;refine g_dyn ?_;refine g_dargs ?_;first|(refine s_fn (hcl ()) ?_<;>try first|omega|assumption))|refine ny ?_|refine WA_block ?_))
  refine WA_while (σ:=Nat) [0,1,6,7,8] (fun i=>[.lst (adsV l),.clo (.func g) [] cs,.lst (adsV l),.int .i64 l.length,.int .i64 i]) (fun _=>lend m++[]) (fun i=>i≤l.length∧∀ j,j<i→f (l.getD j adz)=false) (fun i=>l.length - i) 0 ⟨Nat.zero_le _,fun j h=>absurd h (Nat.not_lt_zero _)⟩ tv_ rfl ?_
  rintro i ⟨hi,hj⟩ L hL
  simp only [zipT]
  clear FX
  rcases Nat.lt_or_ge i l.length with hlt|hge
  · have hget:=adsV_get hlt
    have hcl:=fun(_:Unit)=>hc i hlt (lend m++[]) (Sees.lend m [])
    unfold adV at hcl hget
    cases hf:f (l.getD i adz) with
    | true=>
      rw [hf] at hcl
      (have FX:=And.intro hlen hget;repeat'(first|(refine sx ?_ ?_<;>intro h<;>first|(exfalso;omega)|skip)|(refine g_op ?_;refine g_call ?_;refine g_args ?_;(first|refine s_fn (hcl ()) ?_)<;>try first|omega|assumption)|(refine g_op ?_;refine g_dyn ?_;refine g_dargs ?_;first|(refine s_fn (hcl ()) ?_<;>try first|omega|assumption))|refine ny ?_|refine WA_block ?_))
      all_goals(try(exfalso;omega))
      all_goals((refine r_es hQ ?_;try with_reducible rfl))
      all_goals(exact congrArg (V.int .i64) (fdx_at hlt hj hf).symm)
    | false=>
      rw [hf] at hcl
      (have FX:=And.intro hlen hget;repeat'(first|(refine sx ?_ ?_<;>intro h<;>first|(exfalso;omega)|skip)|(refine g_op ?_;refine g_call ?_;refine g_args ?_;(first|refine s_fn (hcl ()) ?_)<;>try first|omega|assumption)|(refine g_op ?_;refine g_dyn ?_;refine g_dargs ?_;first|(refine s_fn (hcl ()) ?_<;>try first|omega|assumption))|refine ny ?_|refine WA_block ?_))
      all_goals(try(exfalso;omega))
      all_goals(refine next_ hL (i+1) ⟨by omega,up_false (f:=fun j=>f (l.getD j adz)) hj hf⟩ (by omega))
  · have e:i=l.length:=by omega
    subst e
    have hcl:=fun(_:Unit)=>True
    (have FX:=And.intro hlen hget;repeat'(first|(refine sx ?_ ?_<;>intro h<;>first|(exfalso;omega)|skip)|(refine g_op ?_;refine g_call ?_;refine g_args ?_;(first|refine s_fn (hcl ()) ?_)<;>try first|omega|assumption)|(refine g_op ?_;refine g_dyn ?_;refine g_dargs ?_;first|(refine s_fn (hcl ()) ?_<;>try first|omega|assumption))|refine ny ?_|refine WA_block ?_))
    all_goals(try(exfalso;omega))
    all_goals((refine r_es hQ ?_;try with_reducible rfl))
    all_goals(exact congrArg (V.int .i64) (fdx_no hj).symm)

theorem ix_efs(l:List EfR)(f:EfR→Bool)(g:FuncId)(cs:List V)(m:Mem)(hlb:l.length≤100000)(hc:∀ i,i<l.length→∀ M,Sees m M→Gives Tryz.prog g (.agg (efV (l.getD i efz))::cs) M (.bool (f (l.getD i efz)))):Gives Tryz.prog 112 [.lst (efsV l),.clo (.func g) [] cs] m (.int .i64 (fdx f l)):=by
  have hlen:=efsV_length (l:=l)
  have hget:=hlen
  refine Gives_in Tryz.func112 rfl Tryz.ntmps112 Tryz.results112 (by kernel_rfl) (by simp) rfl fun Q hQ=>?_
  (have FX:=And.intro hlen hget;repeat'(first|(refine sx ?_ ?_<;>intro h<;>first|(exfalso;omega)|skip)|(refine g_op ?_;refine g_call ?_;refine g_args ?_;(first|refine s_fn (hcl ()) ?_)<;>try first|omega|assumption)|(refine g_op ?_;refine g_dyn ?_;refine g_dargs ?_;first|(refine s_fn (hcl ()) ?_<;>try first|omega|assumption))|refine ny ?_|refine WA_block ?_))
  refine WA_while (σ:=Nat) [0,1,6,7,8] (fun i=>[.lst (efsV l),.clo (.func g) [] cs,.lst (efsV l),.int .i64 l.length,.int .i64 i]) (fun _=>lend m++[]) (fun i=>i≤l.length∧∀ j,j<i→f (l.getD j efz)=false) (fun i=>l.length - i) 0 ⟨Nat.zero_le _,fun j h=>absurd h (Nat.not_lt_zero _)⟩ tv_ rfl ?_
  rintro i ⟨hi,hj⟩ L hL
  simp only [zipT]
  clear FX
  rcases Nat.lt_or_ge i l.length with hlt|hge
  · have hget:=efsV_get hlt
    have hcl:=fun(_:Unit)=>hc i hlt (lend m++[]) (Sees.lend m [])
    unfold efV at hcl hget
    cases hf:f (l.getD i efz) with
    | true=>
      rw [hf] at hcl
      (have FX:=And.intro hlen hget;repeat'(first|(refine sx ?_ ?_<;>intro h<;>first|(exfalso;omega)|skip)|(refine g_op ?_;refine g_call ?_;refine g_args ?_;(first|refine s_fn (hcl ()) ?_)<;>try first|omega|assumption)|(refine g_op ?_;refine g_dyn ?_;refine g_dargs ?_;first|(refine s_fn (hcl ()) ?_<;>try first|omega|assumption))|refine ny ?_|refine WA_block ?_))
      all_goals(try(exfalso;omega))
      all_goals((refine r_es hQ ?_;try with_reducible rfl))
      all_goals(exact congrArg (V.int .i64) (fdx_at hlt hj hf).symm)
    | false=>
      rw [hf] at hcl
      (have FX:=And.intro hlen hget;repeat'(first|(refine sx ?_ ?_<;>intro h<;>first|(exfalso;omega)|skip)|(refine g_op ?_;refine g_call ?_;refine g_args ?_;(first|refine s_fn (hcl ()) ?_)<;>try first|omega|assumption)|(refine g_op ?_;refine g_dyn ?_;refine g_dargs ?_;first|(refine s_fn (hcl ()) ?_<;>try first|omega|assumption))|refine ny ?_|refine WA_block ?_))
      all_goals(try(exfalso;omega))
      all_goals(refine next_ hL (i+1) ⟨by omega,up_false (f:=fun j=>f (l.getD j efz)) hj hf⟩ (by omega))
  · have e:i=l.length:=by omega
    subst e
    have hcl:=fun(_:Unit)=>True
    (have FX:=And.intro hlen hget;repeat'(first|(refine sx ?_ ?_<;>intro h<;>first|(exfalso;omega)|skip)|(refine g_op ?_;refine g_call ?_;refine g_args ?_;(first|refine s_fn (hcl ()) ?_)<;>try first|omega|assumption)|(refine g_op ?_;refine g_dyn ?_;refine g_dargs ?_;first|(refine s_fn (hcl ()) ?_<;>try first|omega|assumption))|refine ny ?_|refine WA_block ?_))
    all_goals(try(exfalso;omega))
    all_goals((refine r_es hQ ?_;try with_reducible rfl))
    all_goals(exact congrArg (V.int .i64) (fdx_no hj).symm)

theorem cf_efs(l:List EfR)(f:EfR→Bool)(g:FuncId)(cs:List V)(m:Mem)(hlb:l.length≤100000)(hc:∀ i,i<l.length→∀ M,Sees m M→Gives Tryz.prog g (.agg (efV (l.getD i efz))::cs) M (.bool (f (l.getD i efz)))):Gives Tryz.prog 86 [.lst (efsV l),.clo (.func g) [] cs] m (.bool (decide (0≤fdx f l))):=by
  refine Gives_in Tryz.func86 rfl Tryz.ntmps86 Tryz.results86 (by kernel_rfl) (by simp) rfl fun Q hQ=>?_
  (repeat'(first|(refine sx ?_ ?_<;>intro h<;>first|(exfalso;omega)|skip)|(refine g_op ?_;refine g_call ?_;refine g_args ?_;(first|refine s_fn (ix_efs l f g cs _ hlb (fun i hi M hM=>hc i hi M ((Sees.lend m []).trans hM))) ?_)<;>try first|omega|assumption)|refine ny ?_|refine WA_block ?_))
  all_goals((refine r_es hQ ?_;try with_reducible rfl))
  all_goals(exact congrArg V.bool (by first|rfl|(rw [decide_eq_true (by assumption)];rfl)|(rw [decide_eq_false (by assumption)];rfl)|exact(decide_eq_true (by assumption)).symm|exact(decide_eq_false (by assumption)).symm|exact(decide_eq_true (by omega)).symm|exact(decide_eq_false (by omega)).symm))

theorem ix_ts(l:List Txt)(f:Txt→Bool)(g:FuncId)(cs:List V)(m:Mem)(hlb:l.length≤100000)(hc:∀ i,i<l.length→∀ M,Sees m M→Gives Tryz.prog g (.str (l.getD i [])::cs) M (.bool (f (l.getD i [])))):Gives Tryz.prog 107 [.lst (tsV l),.clo (.func g) [] cs] m (.int .i64 (fdx f l)):=by
  have hlen:=tsV_length (l:=l)
  have hget:=hlen
  refine Gives_in Tryz.func107 rfl Tryz.ntmps107 Tryz.results107 (by kernel_rfl) (by simp) rfl fun Q hQ=>?_
  (have FX:=And.intro hlen hget;repeat'(first|(refine sx ?_ ?_<;>intro h<;>first|(exfalso;omega)|skip)|(refine g_op ?_;refine g_call ?_;refine g_args ?_;(first|refine s_fn (hcl ()) ?_)<;>try first|omega|assumption)|(refine g_op ?_;refine g_dyn ?_;refine g_dargs ?_;first|(refine s_fn (hcl ()) ?_<;>try first|omega|assumption))|refine ny ?_|refine WA_block ?_))
  refine WA_while (σ:=Nat) [0,1,6,7,8] (fun i=>[.lst (tsV l),.clo (.func g) [] cs,.lst (tsV l),.int .i64 l.length,.int .i64 i]) (fun _=>lend m++[]) (fun i=>i≤l.length∧∀ j,j<i→f (l.getD j [])=false) (fun i=>l.length - i) 0 ⟨Nat.zero_le _,fun j h=>absurd h (Nat.not_lt_zero _)⟩ tv_ rfl ?_
  rintro i ⟨hi,hj⟩ L hL
  simp only [zipT]
  clear FX
  rcases Nat.lt_or_ge i l.length with hlt|hge
  · have hget:=tsV_get hlt
    have hcl:=fun(_:Unit)=>hc i hlt (lend m++[]) (Sees.lend m [])
    cases hf:f (l.getD i []) with
    | true=>
      rw [hf] at hcl
      (have FX:=And.intro hlen hget;repeat'(first|(refine sx ?_ ?_<;>intro h<;>first|(exfalso;omega)|skip)|(refine g_op ?_;refine g_call ?_;refine g_args ?_;(first|refine s_fn (hcl ()) ?_)<;>try first|omega|assumption)|(refine g_op ?_;refine g_dyn ?_;refine g_dargs ?_;first|(refine s_fn (hcl ()) ?_<;>try first|omega|assumption))|refine ny ?_|refine WA_block ?_))
      all_goals(try(exfalso;omega))
      all_goals((refine r_es hQ ?_;try with_reducible rfl))
      all_goals(exact congrArg (V.int .i64) (fdx_at hlt hj hf).symm)
    | false=>
      rw [hf] at hcl
      (have FX:=And.intro hlen hget;repeat'(first|(refine sx ?_ ?_<;>intro h<;>first|(exfalso;omega)|skip)|(refine g_op ?_;refine g_call ?_;refine g_args ?_;(first|refine s_fn (hcl ()) ?_)<;>try first|omega|assumption)|(refine g_op ?_;refine g_dyn ?_;refine g_dargs ?_;first|(refine s_fn (hcl ()) ?_<;>try first|omega|assumption))|refine ny ?_|refine WA_block ?_))
      all_goals(try(exfalso;omega))
      all_goals(refine next_ hL (i+1) ⟨by omega,up_false (f:=fun j=>f (l.getD j [])) hj hf⟩ (by omega))
  · have e:i=l.length:=by omega
    subst e
    have hcl:=fun(_:Unit)=>True
    (have FX:=And.intro hlen hget;repeat'(first|(refine sx ?_ ?_<;>intro h<;>first|(exfalso;omega)|skip)|(refine g_op ?_;refine g_call ?_;refine g_args ?_;(first|refine s_fn (hcl ()) ?_)<;>try first|omega|assumption)|(refine g_op ?_;refine g_dyn ?_;refine g_dargs ?_;first|(refine s_fn (hcl ()) ?_<;>try first|omega|assumption))|refine ny ?_|refine WA_block ?_))
    all_goals(try(exfalso;omega))
    all_goals((refine r_es hQ ?_;try with_reducible rfl))
    all_goals(exact congrArg (V.int .i64) (fdx_no hj).symm)

theorem cf_ts(l:List Txt)(f:Txt→Bool)(g:FuncId)(cs:List V)(m:Mem)(hlb:l.length≤100000)(hc:∀ i,i<l.length→∀ M,Sees m M→Gives Tryz.prog g (.str (l.getD i [])::cs) M (.bool (f (l.getD i [])))):Gives Tryz.prog 76 [.lst (tsV l),.clo (.func g) [] cs] m (.bool (decide (0≤fdx f l))):=by
  refine Gives_in Tryz.func76 rfl Tryz.ntmps76 Tryz.results76 (by kernel_rfl) (by simp) rfl fun Q hQ=>?_
  (repeat'(first|(refine sx ?_ ?_<;>intro h<;>first|(exfalso;omega)|skip)|(refine g_op ?_;refine g_call ?_;refine g_args ?_;(first|refine s_fn (ix_ts l f g cs _ hlb (fun i hi M hM=>hc i hi M ((Sees.lend m []).trans hM))) ?_)<;>try first|omega|assumption)|refine ny ?_|refine WA_block ?_))
  all_goals((refine r_es hQ ?_;try with_reducible rfl))
  all_goals(exact congrArg V.bool (by first|rfl|(rw [decide_eq_true (by assumption)];rfl)|(rw [decide_eq_false (by assumption)];rfl)|exact(decide_eq_true (by assumption)).symm|exact(decide_eq_false (by assumption)).symm|exact(decide_eq_true (by omega)).symm|exact(decide_eq_false (by omega)).symm))

theorem six_ts(l:List Txt)(s:Txt)(m:Mem)(hlb:l.length≤100000):Gives Tryz.prog 114 [.lst (tsV l),.str s] m (.int .i64 (fdx (isT s) l)):=by
  have hlen:=tsV_length (l:=l)
  have hget:=hlen
  refine Gives_in Tryz.func114 rfl Tryz.ntmps114 Tryz.results114 (by kernel_rfl) (by simp) rfl fun Q hQ=>?_
  (have FX:=And.intro hlen hget;repeat'(first|(refine sx ?_ ?_<;>intro h<;>first|(exfalso;omega)|skip)|refine ny ?_|refine WA_block ?_))
  refine WA_while (σ:=Nat) [0,1,6,7,8] (fun i=>[.lst (tsV l),.str s,.lst (tsV l),.int .i64 l.length,.int .i64 i]) (fun _=>lend m++[]) (fun i=>i≤l.length∧∀ j,j<i→isT s (l.getD j [])=false) (fun i=>l.length - i) 0 ⟨Nat.zero_le _,fun j h=>absurd h (Nat.not_lt_zero _)⟩ tv_ rfl ?_
  rintro i ⟨hi,hj⟩ L hL
  simp only [zipT]
  clear FX
  rcases Nat.lt_or_ge i l.length with hlt|hge
  · have hget:=tsV_get hlt
    have hd:isT s (l.getD i [])=decide (l.getD i []=s):=rfl
    generalize hx:l.getD i []=x at *
    by_cases he:s=x
    · (have FX:=And.intro hlen hget;repeat'(first|(refine sx ?_ ?_<;>intro h<;>first|(exfalso;omega)|skip)|refine ny ?_|refine WA_block ?_))
      all_goals(try(exfalso;first|omega|contradiction))
      all_goals((refine r_es hQ ?_;try with_reducible rfl))
      all_goals(exact congrArg (V.int .i64) (fdx_at hlt hj (by rw [hx,hd];exact decide_eq_true he.symm)).symm)
    · (have FX:=And.intro hlen hget;repeat'(first|(refine sx ?_ ?_<;>intro h<;>first|(exfalso;omega)|skip)|refine ny ?_|refine WA_block ?_))
      all_goals(try(exfalso;first|omega|contradiction))
      all_goals(refine next_ hL (i+1) ⟨by omega,up_false (f:=fun j=>isT s (l.getD j [])) hj (show isT s (l.getD i [])=false by rw [hx,hd];exact decide_eq_false fun h=>he h.symm)⟩ (by omega))
  · have e:i=l.length:=by omega
    subst e
    (have FX:=And.intro hlen hget;repeat'(first|(refine sx ?_ ?_<;>intro h<;>first|(exfalso;omega)|skip)|refine ny ?_|refine WA_block ?_))
    all_goals(try(exfalso;omega))
    all_goals((refine r_es hQ ?_;try with_reducible rfl))
    all_goals(exact congrArg (V.int .i64) (fdx_no hj).symm)

theorem sct_ts(l:List Txt)(s:Txt)(m:Mem)(hlb:l.length≤100000):Gives Tryz.prog 89 [.lst (tsV l),.str s] m (.bool (decide (0≤fdx (isT s) l))):=by
  refine Gives_in Tryz.func89 rfl Tryz.ntmps89 Tryz.results89 (by kernel_rfl) (by simp) rfl fun Q hQ=>?_
  (repeat'(first|(refine sx ?_ ?_<;>intro h<;>first|(exfalso;omega)|skip)|(refine g_op ?_;refine g_call ?_;refine g_args ?_;(first|refine s_fn (six_ts l s _ hlb) ?_)<;>try first|omega|assumption)|refine ny ?_|refine WA_block ?_))
  all_goals((refine r_es hQ ?_;try with_reducible rfl))
  all_goals(exact congrArg V.bool (by first|rfl|(rw [decide_eq_true (by assumption)];rfl)|(rw [decide_eq_false (by assumption)];rfl)|exact(decide_eq_true (by assumption)).symm|exact(decide_eq_false (by assumption)).symm|exact(decide_eq_true (by omega)).symm|exact(decide_eq_false (by omega)).symm))

theorem gsmall1_c(n most:Int)(hb: -1000000000≤most∧most≤1000000000)(M:Mem)(k:Nat)(st:Sta)(hk:M[k]?=some (.cells st 3 1 [[.int .i64 most]])):Gives Tryz.prog 111 [.int .i64 n,.ptr k 0 0] M (.bool (!decide (-most≤n∧n≤most))):=by
  have hk:=(Sees.lend M []).1 _ _ _ _ _ hk
  obtain⟨st',hk⟩:=hk
  refine Gives_in Tryz.func111 rfl Tryz.ntmps111 Tryz.results111 (by kernel_rfl) (by simp) rfl fun Q hQ=>?_
  (have FX:=hk;repeat'(first|(refine sx ?_ ?_<;>intro h<;>first|(exfalso;omega)|skip)|(refine g_op ?_;refine g_call ?_;refine g_args ?_;(first|refine s_fn (gwithin_c _ _ _ _) ?_)<;>try first|omega|assumption)|refine ny ?_|refine WA_block ?_))
  all_goals((refine r_es hQ ?_;try with_reducible rfl))
  all_goals(exact congrArg V.bool (by first|exact(congrArg not (decide_eq_true (by omega))).symm|exact(congrArg not (decide_eq_false (by omega))).symm|exact congrArg not (decide_eq_decide.2 (by omega))))
def smallP(most:Int)(l:List Int):Prop:=∀ i,i<l.length→ -most≤l.getD i 0∧l.getD i 0≤most
instance(most:Int)(l:List Int):Decidable (smallP most l):=inferInstanceAs (Decidable (∀ i,i<l.length→_))
theorem small_fdx(most:Int)(l:List Int):(!decide (0≤fdx (fun n=>!decide (-most≤n∧n≤most)) l))=decide (smallP most l):=by
  rcases fdx_cases (fun n=>!decide (-most≤n∧n≤most)) l 0 with ⟨h1,h2⟩|⟨i,h1,h2,h3,_⟩
  · rw [h1,decide_eq_false (by omega)]
    refine(decide_eq_true fun i hi=>?_).symm
    have:=h2 i hi
    simpa using this
  · rw [h2,decide_eq_true (by omega)]
    refine(decide_eq_false fun h=>?_).symm
    have:=h i h1
    have h4:(!decide (-most≤l.getD i 0∧l.getD i 0≤most))=true:=h3
    rw [decide_eq_true this] at h4
    cases h4

theorem gsmall_c(most:Int)(hb: -1000000000≤most∧most≤1000000000)(l:List Int)(m:Mem)(hlb:l.length≤100000):Gives Tryz.prog 84 [.int .i64 most,.lst (nsV l)] m (.bool (decide (smallP most l))):=by
  rw [←small_fdx]
  refine Gives_in Tryz.func84 rfl Tryz.ntmps84 Tryz.results84 (by kernel_rfl) (by simp) rfl fun Q hQ=>?_
  (repeat'(first|(refine sx ?_ ?_<;>intro h<;>first|(exfalso;omega)|skip)|(refine g_op ?_;refine g_call ?_;refine g_args ?_;(first|refine s_fn (cf_ns l (fun n=>!decide (-most≤n∧n≤most)) _ _ _ hlb (fun i hi M hM=>(hM.at (at_last _ _)).elim fun st h=>gsmall1_c _ most hb M _ st h)) ?_)<;>try first|omega|assumption)|refine ny ?_|refine WA_block ?_))
  all_goals((refine r_es hQ ?_;try with_reducible rfl))
  all_goals(exact congrArg V.bool (by first|rfl|(rw [decide_eq_true (by assumption)];rfl)|(rw [decide_eq_false (by assumption)];rfl)|exact(decide_eq_true (by assumption)).symm|exact(decide_eq_false (by assumption)).symm|exact(decide_eq_true (by omega)).symm|exact(decide_eq_false (by omega)).symm))
/-- .. of a slice of the caller's own -/
theorem gsmall_s(most:Int)(hb: -1000000000≤most∧most≤1000000000)(l:List Int)(hlb:l.length≤100000)(m:Mem)(k:Nat)(st:Sta)(hk:m[k]?=some (.cells st 3 1 (nsV l)))(n:Nat)(hn:n=l.length):Gives Tryz.prog 84 [.int .i64 most,.sl k n] m (.bool (decide (smallP most l))):=by
  subst hn
  refine Gives_fz hk rfl ?_
  have h:[V.int .i64 most,V.sl k l.length].map (frzV k (nsV l))=[.int .i64 most,.lst (nsV l)]:=by
    have:(nsV l).take l.length=nsV l:=by rw [←nsV_length (l:=l)];exact List.take_length
    simp [frzV,nsV_length,this]
  rw [h]
  exact gsmall_c most hb l _ hlb
end Go.Proofs.YtookikhphobnlaaGreatDoor
