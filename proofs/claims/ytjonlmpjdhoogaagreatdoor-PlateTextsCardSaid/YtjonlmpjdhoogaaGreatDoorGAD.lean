import Derived.Test.YtjonlmpjdhoogaaGreatDoorProg
import Derived.WalkKit
import Derived.Lib.Mul64
import Derived.Laws.Bits64b
import Derived.Test.YtjonlmpjdhoogaaGreatDoorYC
import Derived.Test.YtjonlmpjdhoogaaGreatDoorGAC
set_option linter.unusedSimpArgs false
set_option linter.unusedVariables false
/- kit-style walks of the library's small functions -/
namespace Go.Proofs.YtjonlmpjdhoogaaGreatDoor
open Go.RowKit Go.Lib
namespace M64
theorem maskN(a:Nat)(ha:a<18446744073709551616):bits .and .u64 (a:Int) 4294967295=((a % 4294967296:Nat):Int):=by
  have h:=bits_and_u64_nat a 4294967295 ha (by omega)
  have e:a &&& 4294967295=a % 4294967296:=Nat.and_two_pow_sub_one_eq_mod a 32
  rw [e] at h
  exact h
theorem divN(a:Nat):(a:Int) / 4294967296=((a / 4294967296:Nat):Int):=by omega
theorem mulN(a b:Nat):(a:Int) * (b:Int)=((a * b:Nat):Int):=(Int.natCast_mul a b).symm
theorem addN(a b:Nat):(a:Int)+(b:Int)=((a+b:Nat):Int):=(Int.natCast_add a b).symm
theorem wrapN(a:Nat)(ha:a<18446744073709551616):IntKind.u64.wrap (a:Int)=(a:Int):=by rw [IntKind.wrap_u64];omega
theorem wrapM(a:Nat):IntKind.u64.wrap (a:Int)=((a % 18446744073709551616:Nat):Int):=by rw [IntKind.wrap_u64];omega
end M64
set_option maxHeartbeats 1000000 in
theorem mul64_calls(x y:Nat)(hx:x<18446744073709551616)(hy:y<18446744073709551616)(w:World):
    Calls Tryz.prog 94 #[.int .u64 x,.int .u64 y] w fun e w'=>e= .returned (.tuple #[.int .u64 ((x * y / 18446744073709551616:Nat):Int),.int .u64 ((x * y % 18446744073709551616:Nat):Int)])∧w'=w:=by
  obtain⟨bd,bt,bw,hhi⟩:=Lib.mul64_hi x y hx hy
  have ba:=Lib.half_mul_le (a:=x / 4294967296) (b:=y / 4294967296) (by omega) (by omega)
  have bb:=Lib.half_mul_le (a:=x / 4294967296) (b:=y % 4294967296) (by omega) (by omega)
  have bc:=Lib.half_mul_le (a:=x % 4294967296) (b:=y / 4294967296) (by omega) (by omega)
  have ba':x / 4294967296 * (y / 4294967296)<18446744073709551616:=by omega
  have bb':x / 4294967296 * (y % 4294967296)<18446744073709551616:=by omega
  have bc':x % 4294967296 * (y / 4294967296)<18446744073709551616:=by omega
  have bh1:x / 4294967296 * (y / 4294967296)+(x / 4294967296 * (y % 4294967296)+x % 4294967296 * (y % 4294967296) / 4294967296) / 4294967296<18446744073709551616:=by omega
  have bh:x / 4294967296 * (y / 4294967296)+(x / 4294967296 * (y % 4294967296)+x % 4294967296 * (y % 4294967296) / 4294967296) / 4294967296+((x / 4294967296 * (y % 4294967296)+x % 4294967296 * (y % 4294967296) / 4294967296) % 4294967296+x % 4294967296 * (y / 4294967296)) / 4294967296<18446744073709551616:=by omega
  go_enter Tryz.func94,Tryz.ntmps94
  go_wp2
  simp only [M64.maskN x hx,M64.maskN y hy,M64.divN,M64.mulN,M64.addN,M64.wrapN _ bd,M64.wrapN _ bb',M64.wrapN _ bt,M64.maskN _ bt,M64.wrapN _ bc',M64.wrapN _ bw,M64.wrapN _ ba',M64.wrapN _ bh1,M64.wrapN _ bh,M64.wrapM (x * y)]
  rw [hhi]
  go_ret2
  exact⟨rfl,rfl⟩
end Go.Proofs.YtjonlmpjdhoogaaGreatDoor
namespace Go.Proofs.YtjonlmpjdhoogaaGreatDoor
open Go.RowKit
attribute [local irreducible] WA WOs WDs WAn qThen qBlock tput
set_option maxHeartbeats 1000000
set_option maxRecDepth 20000
set_option linter.unusedSimpArgs false
set_option linter.unusedVariables false
theorem mul64_c(x y:Int)(hx0:0≤x)(hx:x≤18446744073709551615)(hy0:0≤y)(hy:y≤18446744073709551615)(m:Mem):
    Gives Tryz.prog 94 [.int .u64 x,.int .u64 y] m (.tup [.int .u64 (x * y / 18446744073709551616),.int .u64 (x * y % 18446744073709551616)]):=by
  obtain⟨a,rfl⟩:=Int.eq_ofNat_of_zero_le hx0
  obtain⟨b,rfl⟩:=Int.eq_ofNat_of_zero_le hy0
  refine Gives_of_calls (by kernel_rfl) rfl rfl fun w=>?_
  refine(mul64_calls a b (by omega) (by omega) w).mono ?_
  rintro e w' ⟨rfl,rfl⟩
  refine⟨?_,Below.refl _ _⟩
  simp [V.real,realL]

theorem pow2_c(x n:Int)(h0:0≤x)(h1:x≤1000000000000000000)(h2:0≤n)(h3:n≤1000000000000000000)(m:Mem):Gives Tryz.prog 77 [.int .i64 x,.int .i64 2,.int .i64 n] m (.bool (decide (x * x≤n))):=by
  have hq0:0≤x * x:=Int.mul_nonneg h0 h0
  have hq1:x≤x * x∨x=0:=by
    rcases Int.lt_or_le 0 x with h|h
    · left
      have h5:(1:Int)≤x:=h
      have:=Int.mul_le_mul_of_nonneg_left h5 h0
      omega
    · right;omega
  have hm:x % 18446744073709551616=x:=by omega
  refine Gives_in Tryz.func77 rfl Tryz.ntmps77 Tryz.results77 (by kernel_rfl) (by simp) rfl fun Q hQ=>?_
  (repeat'(first|(refine sx ?_ ?_<;>intro h<;>first|(exfalso;omega)|skip)|(refine g_op ?_;refine g_call ?_;refine g_args ?_;(first|refine s_fn (mul64_c _ _ ?_ ?_ ?_ ?_ _) ?_)<;>try first|omega|assumption)|refine ny ?_|refine WA_block ?_))
  refine WA_rounds 3 ?_
  (repeat'(first|(refine sx ?_ ?_<;>intro h<;>first|(exfalso;omega)|skip)|(refine g_op ?_;refine g_call ?_;refine g_args ?_;(first|refine s_fn (mul64_c _ _ ?_ ?_ ?_ ?_ _) ?_)<;>try first|omega|assumption)|refine ny ?_|refine WA_block ?_))
  all_goals((refine r_es hQ ?_;try with_reducible rfl);simp only [hm] at *;simp;omega)
def IsRoot(n r:Int):Prop:=0≤r∧r * r≤n∧n<(r+1) * (r+1)
theorem root_uniq{n r s:Int}(h:IsRoot n r)(k:IsRoot n s):r=s:=by
  obtain⟨h1,h2,h3⟩:=h
  obtain⟨k1,k2,k3⟩:=k
  apply Int.le_antisymm
  · apply Int.le_of_not_gt
    intro hlt
    have:(s+1) * (s+1)≤r * r:=Int.mul_le_mul (by omega) (by omega) (by omega) h1
    omega
  · apply Int.le_of_not_gt
    intro hlt
    have:(r+1) * (r+1)≤s * s:=Int.mul_le_mul (by omega) (by omega) (by omega) k1
    omega

theorem root_c(n r:Int)(h0:0≤n)(h1:n≤1000000000000000000)(hr:IsRoot n r)(m:Mem):Gives Tryz.prog 60 [.int .i64 n,.int .i64 2] m (.tup [.int .i64 r,.int .i64 0]):=by
  refine Gives_in Tryz.func60 rfl Tryz.ntmps60 Tryz.results60 (by kernel_rfl) (by simp) rfl fun Q hQ=>?_
  (repeat'(first|(refine sx ?_ ?_<;>intro h<;>first|(exfalso;omega)|skip)|(refine g_op ?_;refine g_call ?_;refine g_args ?_;(first|refine s_fn (nwithin_c _ _ _ _) ?_|refine s_fn (pow2_c _ _ ?_ ?_ ?_ ?_ _) ?_)<;>try first|omega|assumption)|refine ny ?_|refine WA_block ?_))
  refine WA_while (σ:=Int×Int) [0,1,6,7] (fun s=>[.int .i64 n,.int .i64 2,.int .i64 s.1,.int .i64 s.2]) (fun _=>lend m++[]) (fun s=>0≤s.1∧s.1≤s.2∧s.2≤n∧s.1 * s.1≤n∧n<(s.2+1) * (s.2+1)) (fun s=>(s.2 - s.1).natAbs) (0,n) ?_ tv_ rfl ?_
  · have:(n+1) * (1:Int)≤(n+1) * (n+1):=Int.mul_le_mul_of_nonneg_left (by omega) (by omega)
    refine⟨?_,?_,?_,?_,?_⟩<;>dsimp only<;>omega
  rintro⟨lo,hi⟩ ⟨i1,i2,i3,i4,i5⟩ L hL
  dsimp only at i1 i2 i3 i4 i5
  simp only [zipT]
  (repeat'(first|(refine sx ?_ ?_<;>intro h<;>first|(exfalso;omega)|skip)|(refine g_op ?_;refine g_call ?_;refine g_args ?_;(first|refine s_fn (nwithin_c _ _ _ _) ?_|refine s_fn (pow2_c _ _ ?_ ?_ ?_ ?_ _) ?_)<;>try first|omega|assumption)|refine ny ?_|refine WA_block ?_))
  · refine next_ hL (hi - (hi - lo) / 2,hi) ⟨?_,?_,?_,?_,?_⟩ ?_<;>dsimp only<;>omega
  · have e:hi - (hi - lo) / 2 - 1+1=hi - (hi - lo) / 2:=by omega
    refine next_ hL (lo,hi - (hi - lo) / 2 - 1) ⟨?_,?_,?_,?_,?_⟩ ?_<;>dsimp only<;>(try rw [e])<;>omega
  · (refine r_es hQ ?_;try with_reducible rfl)
    have:lo=hi:=by omega
    subst this
    rw [root_uniq hr ⟨i1,i4,i5⟩]
end Go.Proofs.YtjonlmpjdhoogaaGreatDoor
