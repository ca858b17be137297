/- contracts: the sort of events, from above -/
import Derived.Test.YtomkbpoicjabfaaGreatDoorGAP
set_option linter.unusedSimpArgs false
set_option linter.unusedVariables false
namespace Go.Proofs.YtomkbpoicjabfaaGreatDoor
open Go.RowKit
attribute [local irreducible] WA WOs WDs WAn qThen qBlock tput
set_option maxHeartbeats 1000000
set_option maxRecDepth 20000
set_option linter.unusedSimpArgs false
set_option linter.unusedVariables false
attribute [local irreducible] smB cut sm
theorem uC31_112_17{N:Nat}{l:List Oper}{t:List (Nat×V)}{m:Mem}{Q:Exit→List (Nat×V)→Mem→Prop}(h:RgN Tryz.prog N l t m Q (fun i=>if i==8 || i==12 || i==13 || i==15 then .q else .p) [.one 0,.one 1,.one 2,.one 3,.one 4,.one 5,.one 6,.one 7,.one 8,.one 9,.one 10,.one 11,.one 12,.one 13,.one 14,.one 15,.one 16]):WA Tryz.prog N (.region 17 l.toArray true) t m Q:=d_rgN h
theorem pdq_w(b:Nat)(l:List Hp)(hn:NumL l)(hs:∀ p∈l,sm p.2)(h0:1≤l.length)(hl:l.length≤12)(lim:Int):CallW Tryz.prog 112 [.sl b l.length,.int .i64 0,.int .i64 l.length,.int .i64 lim,.clo (.func 91) [] []] b (.cells .own 106 3 (hpsV l)) (.cells .own 106 3 (hpsV (srtH l))) (.tup []):=by
  have h1:l.length≤1000:=by omega
  refine CallW_in (tvs:=[.sl 0 l.length,.v (.int .i64 0),.v (.int .i64 l.length),.v (.int .i64 lim),.v (.clo (.func 91) [] [])]) (v:= .tup []) (es':=hpsV (srtH l)) Tryz.func112 rfl Tryz.ntmps112 Tryz.results112 (by kernel_rfl) (by simp) (hpsV_flat _) rfl fun m Q hQ=>?_
  simp only [List.map_cons,List.map_nil,TV.inst]
  (repeat'(first|(refine sx ?_ ?_<;>intro h<;>first|(exfalso;omega)|skip)|(refine g_op ?_;refine g_call ?_;refine g_args ?_;(first|refine s_fnW (inssort_w _ l hn hs h0 h1) ?_)<;>try first|omega|assumption)|refine ny ?_|refine WA_block ?_|(refine uC31_112_17 ?_;refine⟨by kernel_rfl,?_⟩)|((first|refine grp_w (inssort_w _ l hn hs h0 h1) ?_)<;>try first|omega|assumption)|(refine g_d ?_;refine d_args ?_;(first|refine d_fnW (inssort_w _ l hn hs h0 h1) ?_)<;>try first|omega|assumption)))
  refine WA_rounds 1 ?_
  (repeat'(first|(refine sx ?_ ?_<;>intro h<;>first|(exfalso;omega)|skip)|(refine g_op ?_;refine g_call ?_;refine g_args ?_;(first|refine s_fnW (inssort_w _ l hn hs h0 h1) ?_)<;>try first|omega|assumption)|refine ny ?_|refine WA_block ?_|(refine uC31_112_17 ?_;refine⟨by kernel_rfl,?_⟩)|((first|refine grp_w (inssort_w _ l hn hs h0 h1) ?_)<;>try first|omega|assumption)|(refine g_d ?_;refine d_args ?_;(first|refine d_fnW (inssort_w _ l hn hs h0 h1) ?_)<;>try first|omega|assumption)))
  all_goals(try(exfalso;omega))
  all_goals(refine r_esW hQ ?_ ?_<;>try with_reducible rfl)

theorem mlen_c(n:Nat)(h:n≤12)(m:Mem):Gives Tryz.prog 113 [.int .u64 n] m (.int .i64 ((lenB n).toNat:Int)):=by
  refine Gives_in Tryz.func113 rfl Tryz.ntmps113 Tryz.results113 (by kernel_rfl) (by simp) rfl fun Q hQ=>?_
  (repeat'(first|(refine sx ?_ ?_<;>intro h<;>first|(exfalso;omega)|skip)|(refine g_op ?_;refine g_call ?_;refine g_args ?_;(first|refine s_fn (mlen64_c n h _) ?_)<;>try first|omega|assumption)|refine ny ?_|refine WA_block ?_))
  all_goals(refine r_es hQ ?_;try with_reducible rfl)

theorem asort_w(b:Nat)(l:List Hp)(hn:NumL l)(hs:∀ p∈l,sm p.2)(h0:1≤l.length)(hl:l.length≤12):CallW Tryz.prog 90 [.sl b l.length,.clo (.func 91) [] []] b (.cells .own 106 3 (hpsV l)) (.cells .own 106 3 (hpsV (srtH l))) (.tup []):=by
  refine CallW_in (tvs:=[.sl 0 l.length,.v (.clo (.func 91) [] [])]) (v:= .tup []) (es':=hpsV (srtH l)) Tryz.func90 rfl Tryz.ntmps90 Tryz.results90 (by kernel_rfl) (by simp) (hpsV_flat _) rfl fun m Q hQ=>?_
  simp only [List.map_cons,List.map_nil,TV.inst]
  (repeat'(first|(refine sx ?_ ?_<;>intro h<;>first|(exfalso;omega)|skip)|(refine g_op ?_;refine g_call ?_;refine g_args ?_;(first|refine s_fn (mlen_c _ hl _) ?_|refine s_fnW (pdq_w _ l hn hs h0 hl _) ?_)<;>try first|omega|assumption)|refine ny ?_|refine WA_block ?_))
  all_goals(try(exfalso;omega))
  all_goals(refine r_esW hQ ?_ ?_<;>try with_reducible rfl)
theorem uC31_129_4{N:Nat}{l:List Oper}{t:List (Nat×V)}{m:Mem}{Q:Exit→List (Nat×V)→Mem→Prop}(h:RgN Tryz.prog N l t m Q (fun i=>if i==8 || i==13 || i==14 then .q else .p) [.one 0,.one 1,.one 2,.one 3,.one 4,.one 5,.one 6,.one 7,.one 8,.one 9,.one 10,.one 11,.one 12,.one 13,.one 14,.one 15,.one 16]):WA Tryz.prog N (.region 4 l.toArray true) t m Q:=d_rgN h
theorem uC31_129_6{N:Nat}{l:List Oper}{t:List (Nat×V)}{m:Mem}{Q:Exit→List (Nat×V)→Mem→Prop}(h:RgN Tryz.prog N l t m Q (fun i=>if i==15 || i==17 then .w else if i==9 || i==13 then .q else .p) [.one 0,.one 1,.one 2,.one 3,.one 4,.one 5,.one 6,.one 7,.one 8,.one 9,.one 10,.one 11,.one 12,.one 13,.one 14,.one 15,.one 16,.one 17]):WA Tryz.prog N (.region 6 l.toArray true) t m Q:=d_rgN h
theorem insnil_c(m:Mem):Gives Tryz.prog 129 [.nilsl,.int .i64 0,.int .i64 0,.clo (.func 91) [] []] m (.tup []):=by
  refine Gives_in Tryz.func129 rfl Tryz.ntmps129 Tryz.results129 (by kernel_rfl) (by simp) rfl fun Q hQ=>?_
  (repeat'(first|(refine sx ?_ ?_<;>intro h<;>first|(exfalso;omega)|skip)|refine ny ?_|refine WA_block ?_|(refine uC31_129_4 ?_;refine⟨by kernel_rfl,?_⟩)|(refine uC31_129_6 ?_;refine⟨by kernel_rfl,?_⟩)))
  refine WA_rounds 1 ?_
  (repeat'(first|(refine sx ?_ ?_<;>intro h<;>first|(exfalso;omega)|skip)|refine ny ?_|refine WA_block ?_|(refine uC31_129_4 ?_;refine⟨by kernel_rfl,?_⟩)|(refine uC31_129_6 ?_;refine⟨by kernel_rfl,?_⟩)))
  all_goals(try(exfalso;omega))
  all_goals(refine r_es hQ ?_;try with_reducible rfl)
theorem pdqnil_c(lim:Int)(m:Mem):Gives Tryz.prog 112 [.nilsl,.int .i64 0,.int .i64 0,.int .i64 lim,.clo (.func 91) [] []] m (.tup []):=by
  refine Gives_in Tryz.func112 rfl Tryz.ntmps112 Tryz.results112 (by kernel_rfl) (by simp) rfl fun Q hQ=>?_
  (repeat'(first|(refine sx ?_ ?_<;>intro h<;>first|(exfalso;omega)|skip)|(refine g_op ?_;refine g_call ?_;refine g_args ?_;(first|refine s_fn (insnil_c _) ?_)<;>try first|omega|assumption)|refine ny ?_|refine WA_block ?_|(refine uC31_112_17 ?_;refine⟨by kernel_rfl,?_⟩)|((first|refine grp_cons (fun _=>insnil_c _) ?_)<;>try first|omega|assumption)|(refine g_d ?_;refine d_args ?_;(first|refine d_fn (insnil_c _) ?_|refine d_fnQ (fun _=>insnil_c _) ?_)<;>try first|omega|assumption)|(refine g_d ?_;(first|refine d_fnY (insnil_c _) ?_)<;>try first|omega|assumption)))
  refine WA_rounds 1 ?_
  (repeat'(first|(refine sx ?_ ?_<;>intro h<;>first|(exfalso;omega)|skip)|(refine g_op ?_;refine g_call ?_;refine g_args ?_;(first|refine s_fn (insnil_c _) ?_)<;>try first|omega|assumption)|refine ny ?_|refine WA_block ?_|(refine uC31_112_17 ?_;refine⟨by kernel_rfl,?_⟩)|((first|refine grp_cons (fun _=>insnil_c _) ?_)<;>try first|omega|assumption)|(refine g_d ?_;refine d_args ?_;(first|refine d_fn (insnil_c _) ?_|refine d_fnQ (fun _=>insnil_c _) ?_)<;>try first|omega|assumption)|(refine g_d ?_;(first|refine d_fnY (insnil_c _) ?_)<;>try first|omega|assumption)))
  all_goals(try(exfalso;omega))
  all_goals(refine r_es hQ ?_;try with_reducible rfl)
theorem asortnil_c(m:Mem):Gives Tryz.prog 90 [.nilsl,.clo (.func 91) [] []] m (.tup []):=by
  have hk:∀ m,Gives Tryz.prog 113 [.int .u64 0] m (.int .i64 ((lenB 0).toNat:Int)):=fun m=>mlen_c 0 (by omega) m
  refine Gives_in Tryz.func90 rfl Tryz.ntmps90 Tryz.results90 (by kernel_rfl) (by simp) rfl fun Q hQ=>?_
  (repeat'(first|(refine sx ?_ ?_<;>intro h<;>first|(exfalso;omega)|skip)|(refine g_op ?_;refine g_call ?_;refine g_args ?_;(first|refine s_fn (hk _) ?_|refine s_fn (pdqnil_c _ _) ?_)<;>try first|omega|assumption)|refine ny ?_|refine WA_block ?_))
  all_goals(try(exfalso;omega))
  all_goals(refine r_es hQ ?_;try with_reducible rfl)
end Go.Proofs.YtomkbpoicjabfaaGreatDoor
