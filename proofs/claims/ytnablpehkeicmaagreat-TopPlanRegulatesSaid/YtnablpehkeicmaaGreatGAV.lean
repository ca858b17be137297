import Derived.Test.YtnablpehkeicmaaGreatGAU
import Derived.Test.YtnablpehkeicmaaGreatGAS
import Derived.Test.YtnablpehkeicmaaGreatGAQ
import Derived.Test.YtnablpehkeicmaaGreatC12
import Derived.Test.YtnablpehkeicmaaGreatGAE
set_option linter.unusedSimpArgs false
set_option linter.unusedVariables false
/- contracts: the order of events, and what has happened -/
namespace Go.Proofs.YtnablpehkeicmaaGreat
open Go.RowKit
attribute [local irreducible] WA WOs WDs WAn qThen qBlock tput
set_option maxHeartbeats 1000000
set_option maxRecDepth 20000
set_option linter.unusedSimpArgs false
set_option linter.unusedVariables false
attribute [local irreducible] smB cut sm
def txV(o:Nms):List (List V):=o.map fun s=>[V.str s]
theorem txV_length{o:Nms}:(txV o).length=o.length:=by simp [txV]
theorem txV_get{o:Nms}{i:Nat}(h:i<o.length):(txV o)[i]?=some [V.str (nmAt o i)]:=by
  unfold txV nmAt;rw [List.getElem?_map,list_get (d:=[]) h];rfl
theorem mem_of_at{o:Nms}{s:List UInt8}{i:Nat}(h:i<o.length)(he:nmAt o i=s):s∈o:=by
  rw [←he];unfold nmAt
  rw [List.getD_eq_getElem?_getD,List.getElem?_eq_getElem h]
  exact List.getElem_mem h
theorem not_mem_at{o:Nms}{s:List UInt8}(h:∀ j,j<o.length→nmAt o j≠s):s ∉ o:=by
  intro hm
  obtain⟨j,hj,he⟩:=List.getElem_of_mem hm
  refine h j hj ?_
  unfold nmAt
  rw [List.getD_eq_getElem?_getD,List.getElem?_eq_getElem hj]
  exact he

def eqS(s t:List UInt8):Bool:=decide (t=s)
theorem fidx_mem(o:Nms)(s:List UInt8):0≤fidx (eqS s) o↔s∈o:=by
  rcases fidx_cases (eqS s) o [] with ⟨h1,h2⟩|⟨i,h1,h2,h3,_⟩
  · rw [h1]
    constructor
    · intro h;omega
    · intro h
      exact absurd h (not_mem_at fun j hj he=>by have:=h2 j hj;unfold eqS at this;exact absurd he (of_decide_eq_false this))
  · rw [h2]
    constructor
    · intro _;exact mem_of_at h1 (of_decide_eq_true h3)
    · intro _;omega

theorem sindex_c(o:Nms)(s:List UInt8)(hl:o.length≤1000000)(m:Mem):Gives Tryz.prog 77 [.lst (txV o),.str s] m (.int .i64 (fidx (eqS s) o)):=by
  have hlo:=txV_length (o:=o)
  have hgo:=hlo
  refine Gives_in Tryz.func77 rfl Tryz.ntmps77 Tryz.results77 (by kernel_rfl) (by simp) rfl fun Q hQ=>?_
  (have FX:=And.intro hlo hgo;repeat'(first|(refine sx ?_ ?_<;>intro h<;>first|(exfalso;omega)|skip)|refine ny ?_|refine WA_block ?_))
  refine WA_while (σ:=Nat) [0,1,7,8] (fun i=>[.lst (txV o),.str s,.int .i64 o.length,.int .i64 i]) (fun _=>lend m++[]) (fun i=>i≤o.length∧∀ j,j<i→eqS s (o.getD j [])=false) (fun i=>o.length - i) 0 ⟨Nat.zero_le _,fun j h=>absurd h (Nat.not_lt_zero _)⟩ tv_ rfl ?_
  rintro i ⟨hi,hj⟩ L hL
  simp only [zipT]
  clear FX hgo
  rcases Nat.lt_or_ge i o.length with hlt|hge
  · have hgo:=txV_get hlt
    have hq:eqS s (o.getD i [])=decide (nmAt o i=s):=rfl
    (have FX:=And.intro hlo hgo;repeat'(first|(refine sx ?_ ?_<;>intro h<;>first|(exfalso;omega)|skip)|refine ny ?_|refine WA_block ?_))
    all_goals(try(exfalso;omega))
    all_goals try
      ((refine r_es hQ ?_;try with_reducible rfl)
       exact congrArg (V.int .i64) (fidx_at (d:=[]) hlt hj (by rw [hq];exact decide_eq_true (by first|assumption|exact Eq.symm (by assumption)))).symm)
    all_goals(refine next_ hL (i+1) ⟨by omega,fun j h=>?_⟩ (by omega))
    all_goals(rcases Nat.lt_or_ge j i with h2|h2)
    all_goals first
      |exact hj j h2
      | (obtain rfl:j=i:=by omega
         rw [hq]
         exact decide_eq_false (by first|assumption|exact fun h=>absurd h.symm (by assumption)))
  · have e:i=o.length:=by omega
    subst e
    have hgo:=hlo
    (have FX:=And.intro hlo hgo;repeat'(first|(refine sx ?_ ?_<;>intro h<;>first|(exfalso;omega)|skip)|refine ny ?_|refine WA_block ?_))
    all_goals(try(exfalso;omega))
    all_goals((refine r_es hQ ?_;try with_reducible rfl))
    all_goals(exact congrArg (V.int .i64) (fidx_no (d:=[]) hj).symm)

theorem scontains_c(o:Nms)(s:List UInt8)(hl:o.length≤1000000)(m:Mem):Gives Tryz.prog 52 [.lst (txV o),.str s] m (.bool (decide (s∈o))):=by
  have e:decide (s∈o)=decide (0≤fidx (eqS s) o):=decide_eq_decide.2 (fidx_mem o s).symm
  rw [e]
  refine Gives_in Tryz.func52 rfl Tryz.ntmps52 Tryz.results52 (by kernel_rfl) (by simp) rfl fun Q hQ=>?_
  (repeat'(first|(refine sx ?_ ?_<;>intro h<;>first|(exfalso;omega)|skip)|(refine na ?_;(first|refine nb (sindex_c o s hl) ?_)<;>try first|omega|assumption)|refine ny ?_|refine WA_block ?_))
  all_goals((refine r_es hQ ?_;try with_reducible rfl))
  all_goals first
    |rfl
    |exact congrArg V.bool (decide_eq_true (by assumption)).symm
    |exact congrArg V.bool (decide_eq_false (by assumption)).symm
end Go.Proofs.YtnablpehkeicmaaGreat
namespace Go.Proofs.YtnablpehkeicmaaGreat
end Go.Proofs.YtnablpehkeicmaaGreat
