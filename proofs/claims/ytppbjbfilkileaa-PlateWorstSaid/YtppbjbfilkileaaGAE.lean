import Derived.Test.YtppbjbfilkileaaGAD
import Derived.Test.YtppbjbfilkileaaG8
import Derived.Test.YtppbjbfilkileaaYC
set_option linter.unusedSimpArgs false
set_option linter.unusedVariables false
namespace Go.Proofs.Ytppbjbfilkileaa
open Go.RowKit
attribute [local irreducible] WA WOs WDs WAn qThen qBlock tput
set_option maxHeartbeats 1000000
set_option maxRecDepth 20000
set_option linter.unusedSimpArgs false
set_option linter.unusedVariables false
theorem aw1(m:Mem):Gives Try.prog 16 [.agg [.int .i64 1000,.int .i64 1000],.agg [.int .i64 (0),.int .i64 (0),.int .i64 (0)],.agg [.int .i64 (100),.int .i64 (100),.int .i64 (0)]] m (.tup [.agg [.int .i64 707,.int .i64 708,.int .i64 707,.int .i64 708,.int .i64 0,.int .i64 0],.int .i64 0]):=by
  have h:=ppull_ok 1000 1000 0 0 0 100 100 0 100 100 0 100 100 0 14142 14143 (by omega) (by unfold Plc;omega) (by unfold Plc;omega) rfl rfl rfl (by unfold Plc;omega) (by omega) (by decide) (by decide) (by decide) (by unfold IsRoot;omega) (by decide) m
  have e1:compLo 1000 1000 100 14142 14143=707:=by decide +kernel
  have e2:compHi 1000 1000 100 14142 14143=708:=by decide +kernel
  have e3:compLo 1000 1000 0 14142 14143=0:=by decide +kernel
  have e4:compHi 1000 1000 0 14142 14143=0:=by decide +kernel
  rw [e1,e2,e3,e4] at h
  exact h
theorem aw2(m:Mem):Gives Try.prog 17 [.lst [[.int .i64 0],[.int .i64 100],[.int .i64 300]],.lst [[.int .i64 50,.int .i64 60],[.int .i64 200,.int .i64 90],[.int .i64 300,.int .i64 10]]] m (.tup [.lst [[.int .i64 30,.int .i64 1],[.int .i64 75,.int .i64 1],[.int .i64 55,.int .i64 1]],.int .i64 0]):=by
  have h:=distr_ok [0,100,300] [(50,60),(200,90),(300,10)] (by decide) (by decide) (by decide +kernel) (by decide +kernel) m
  have e:distr [0,100,300] [(50,60),(200,90),(300,10)]=[(30,1),(75,1),(55,1)]:=by decide +kernel
  rw [e] at h
  exact h
theorem aw3(m:Mem):Gives Try.prog 18 [.agg [.int .i64 0,.int .i64 100,.int .i64 0,.int .i64 10000,.int .i64 5000],.int .i64 70000] m (.tup [.agg [.int .i64 2100,.int .i64 1],.int .i64 0]):=by
  have h:=downbearing_ok 0 100 0 10000 5000 70000 (by unfold bearOk;omega) (by omega) m
  have e:lowF (70000 * ((100 - 0) * 5000+(100 - 0) * 10000)) (10000 * 5000)=(2100,1):=by decide +kernel
  rw [e] at h
  exact h
theorem aw4(m:Mem):Gives Try.prog 19 [.lst [[.int .i64 30,.int .i64 1],[.int .i64 75,.int .i64 1],[.int .i64 55,.int .i64 1]],.lst [[.int .i64 30,.int .i64 1],[.int .i64 75,.int .i64 1],[.int .i64 55,.int .i64 1]]] m (.bool true):=
  fracs_c [(30,1),(75,1),(55,1)] [(30,1),(75,1),(55,1)] (by decide) (by decide) m

theorem awake_c(m:Mem):Gives Try.prog 4 [] m (.bool true):=by
  refine Gives_in Try.func4 rfl Try.ntmps4 Try.results4 (by kernel_rfl) (by simp) rfl fun Q hQ=>?_
  (repeat'(first|(refine sx ?_ ?_<;>intro h<;>first|(exfalso;omega)|skip)|(refine g_op ?_;refine g_call ?_;refine g_args ?_;(first|refine s_fn (aw1 _) ?_|refine s_fn (aw3 _) ?_)<;>try first|omega|assumption)|refine ny ?_|refine WA_block ?_))
  refine g_op ?_
  refine g_call ?_
  refine g_args ?_
  refine s_fz2 (B:=lend m) 1 0 2 1 (aw2 _) ?_
  (repeat'(first|(refine sx ?_ ?_<;>intro h<;>first|(exfalso;omega)|skip)|(refine g_op ?_;refine g_call ?_;refine g_args ?_;(first|refine s_fn (aw1 _) ?_|refine s_fn (aw3 _) ?_)<;>try first|omega|assumption)|refine ny ?_|refine WA_block ?_))
  refine g_op ?_
  refine g_call ?_
  refine g_args ?_
  refine s_fz1 (B:=lend m) 4 1 (aw4 _) ?_
  (repeat'(first|(refine sx ?_ ?_<;>intro h<;>first|(exfalso;omega)|skip)|(refine g_op ?_;refine g_call ?_;refine g_args ?_;(first|refine s_fn (aw1 _) ?_|refine s_fn (aw3 _) ?_)<;>try first|omega|assumption)|refine ny ?_|refine WA_block ?_))
  (refine r_es hQ ?_;try with_reducible rfl)
end Go.Proofs.Ytppbjbfilkileaa
namespace Go.Proofs.Ytppbjbfilkileaa
end Go.Proofs.Ytppbjbfilkileaa
namespace Go.Proofs.Ytppbjbfilkileaa
open Go.RowKit
attribute [local irreducible] WA WOs WDs WAn qThen qBlock tput
set_option maxHeartbeats 1000000
set_option maxRecDepth 20000
set_option linter.unusedSimpArgs false
set_option linter.unusedVariables false
def bSt(i:Nat):TV:=match i with|0=> .v .nilsl|i+1=> .sl 3 (i+1)
def bE (a b w:Int) (ls:List (Int×Int)) (i:Nat):List TB:=
  .cells .own 23 3 [[.v (.int .i64 a),.v (.int .i64 b),.v (.int .i64 w)]]:: .cells .own 61 4 [[.v (.int .i64 0),.v (.int .i64 0),.v (.int .i64 0),.v .nilsl]]:: .cells .own 61 4 [[.v (.int .i64 a),.v (.int .i64 b),.v (.int .i64 w),bSt i]]::
    (match i with|0=>[]|i+1=>[.cells .own 89 2 ((ldsV (ls.take (i+1))).map (List.map .v))])
theorem lds_succ{ls:List (Int×Int)}{i:Nat}(h:i<ls.length):ldsV (ls.take (i+1))=ldsV (ls.take i)++[[.int .i64 ls[i].1,.int .i64 ls[i].2]]:=by
  rw [List.take_succ_eq_append_getElem h];unfold ldsV;rw [List.map_append];rfl
theorem lds_len{ls:List (Int×Int)}{i:Nat}(h:i≤ls.length):(ldsV (ls.take i)).length=i:=by simp [ldsV];omega
theorem rel_agg_last {w:World} {ρ:List Re} {B:Nat→Prop} {cs:List V} {u u':V} {x:Value} (ha:∀ y,RelV w ρ B u y→RelV w ρ B u' y) (h:RelV w ρ B (.agg (cs++[u])) x):RelV w ρ B (.agg (cs++[u'])) x:=by
  cases h with
  | agg _ xs hl hh=>
    refine .agg _ _ (by simpa using hl) fun i c x h1 h2=>?_
    rcases Nat.lt_or_ge i cs.length with q|q
    · refine hh i c x ?_ h2
      rw [List.getElem?_append_left q] at h1 ⊢
      exact h1
    · rw [List.getElem?_append_right q] at h1
      rcases hi:i - cs.length with _|k
      · rw [hi] at h1
        simp at h1
        subst h1
        refine ha _ (hh i u x ?_ h2)
        rw [List.getElem?_append_right q,hi];rfl
      · rw [hi] at h1;simp at h1
theorem fin_beam{m0 D X B:Mem}{j k:Nat}{st:Sta}{ty sz:Nat}{es:List (List V)}{a b w:Int}{R:V→Option Mem→Prop}(hB:B=lend m0++D)(hX:X[j]?=some (.cells st ty sz es))(hk:k≤es.length)(hp:plainLL (es.take k)=true)(h:R (.agg [.int .i64 a,.int .i64 b,.int .i64 w,.lst (es.take k)]) none):
    Fin m0 R (.agg [.int .i64 a,.int .i64 b,.int .i64 w,.sl (B.length+j) k]) (B++X):=by
  subst hB
  refine .inr ⟨D++X,_,by simp,?_,h⟩
  show(frzs (frz _ _ 3) _).map V.agg=_
  simp only [frzs,frz_int,frz_sl (n:=2) hX hk hp,Option.map_some]

theorem beamof_c(a b w:Int)(ls:List (Int×Int))(hl:ls.length≤1000000)(m:Mem):Gives Try.prog 21 [.agg [.int .i64 a,.int .i64 b,.int .i64 w],.lst (ldsV ls)] m (.agg [.int .i64 a,.int .i64 b,.int .i64 w,.lst (ldsV ls)]):=by
  have hlen:=ldsV_length (ls:=ls)
  have hget:=hlen
  by_cases hne:ls=[]
  · subst hne
    refine Gives_weak (v:= .agg ([.int .i64 a,.int .i64 b,.int .i64 w]++[.nilsl])) ?_ (fun _ _ _ _ hr=>rel_agg_last (u':= .lst (ldsV [])) (fun _ hy=>rel_nil hy) hr)
    refine Gives_in Try.func21 rfl Try.ntmps21 Try.results21 (by kernel_rfl) (by simp) rfl fun Q hQ=>?_
    (have FX:=And.intro hlen hget;repeat'(first|(refine sx ?_ ?_<;>intro h<;>first|(exfalso;omega)|skip)|refine ny ?_|refine WA_block ?_))
    refine WA_rounds 2 ?_
    (have FX:=And.intro hlen hget;repeat'(first|(refine sx ?_ ?_<;>intro h<;>first|(exfalso;omega)|skip)|refine ny ?_|refine WA_block ?_))
    all_goals((refine r_es hQ ?_;try with_reducible rfl);rfl)
  have hl0:0<ls.length:=List.length_pos_iff.2 hne
  refine CallA_in Try.func21 rfl Try.ntmps21 Try.results21 (by kernel_rfl) (by simp) fun Q hQ=>?_
  (have FX:=And.intro hlen hget;repeat'(first|(refine sx ?_ ?_<;>intro h<;>first|(exfalso;omega)|skip)|refine ny ?_|refine WA_block ?_))
  refine WA_whileT (σ:=Nat) (L:=lend m) [4,5,10,11,12] (fun i=>[.ptr 1 0 0,.ptr 2 0 0,.v (.lst (ldsV ls)),.v (.int .i64 ls.length),.v (.int .i64 i)]) (bE a b w ls) (fun i=>i≤ls.length) (fun i=>ls.length - i) 0 (Nat.zero_le _) ?_ ?_ (by decide) ?_ ?_ ?_
  · simp [tget,TV.inst,argT]
  · simp [bE,bSt,TB.inst,TV.inst]
  · intro i _;cases i<;>simp [TV.okT,bE]
  · intro i _;cases i<;>simp [TB.ok,TV.okT,bE,bSt]
  rintro i hi1 B ⟨D,hB⟩ K hK
  rcases Nat.lt_or_ge i ls.length with hi'|hi'
  · have hget:=ldsV_get hi'
    have hso:=lds_succ hi'
    have hol:=lds_len (ls:=ls) (i:=i) (by omega)
    rcases i with _|i
    · simp only [bE,bSt]
      simp only [List.map_cons,List.map_nil,TB.inst,TV.inst,tv_map,zipT,List.cons_append,List.nil_append,Nat.add_zero]
      clear FX
      (have FX:=And.intro hlen hget;repeat'(first|(refine sx ?_ ?_<;>intro h<;>first|(exfalso;omega)|skip)|refine ny ?_|refine WA_block ?_))
      all_goals(refine nextU_ hK (0+1) [0,1,2,5] (by omega) (by omega) ?_)
      all_goals(simp only [bE,bSt,List.map_cons,List.map_nil,TB.inst,TV.inst,tv_map,List.cons_append,List.nil_append];rw [hso];first|rfl|(simp [ldsV];done))
    · have hoa:(ldsV (ls.take (i+1))).take (i+1)=ldsV (ls.take (i+1)):=by rw [List.take_of_length_le (by omega)]
      simp only [bE,bSt]
      simp only [List.map_cons,List.map_nil,TB.inst,TV.inst,tv_map,zipT,List.cons_append,List.nil_append,Nat.add_zero]
      clear FX
      (have FX:=And.intro hlen (And.intro hget (And.intro hol hoa));repeat'(first|(refine sx ?_ ?_<;>intro h<;>first|(exfalso;omega)|skip)|refine ny ?_|refine WA_block ?_))
      all_goals(refine nextU_ hK (i+1+1) [0,1,2,6] (by omega) (by omega) ?_)
      all_goals(simp only [bE,bSt,List.map_cons,List.map_nil,TB.inst,TV.inst,tv_map,List.cons_append,List.nil_append];rw [hso];first|rfl|(simp [ldsV];done))
  · have hie:i=ls.length:=by omega
    subst hie
    have hol:=lds_len (ls:=ls) (i:=ls.length) (by omega)
    obtain⟨n,hn⟩:∃ n,ls.length=n+1:=⟨ls.length - 1,by omega⟩
    have htk:ls.take (n+1)=ls:=List.take_of_length_le (by omega)
    simp only [hn,bE,bSt]
    simp only [List.map_cons,List.map_nil,TB.inst,TV.inst,tv_map,zipT,List.cons_append,List.nil_append,Nat.add_zero]
    clear FX
    (have FX:=And.intro hlen hol;repeat'(first|(refine sx ?_ ?_<;>intro h<;>first|(exfalso;omega)|skip)|refine ny ?_|refine WA_block ?_))
    rw [hn] at hol
    all_goals(refine r_esA hQ ?_)
    all_goals(refine fin_beam (D:=D) (j:=3) hB rfl (by rw [hol];exact Nat.le_refl _) (by rw [List.take_of_length_le (by omega)];exact ldsV_plain _) ⟨?_,rfl⟩)
    all_goals(rw [List.take_of_length_le (by omega),htk])

theorem width_c(a b w:Int)(x:List (List V))(ha: -20000≤a∧a≤20000)(hb: -20000≤b∧b≤20000)(m:Mem):Gives Try.prog 24 [.agg [.int .i64 a,.int .i64 b,.int .i64 w,.lst x]] m (.int .i64 (b - a)):=by
  refine Gives_in Try.func24 rfl Try.ntmps24 Try.results24 (by kernel_rfl) (by simp) rfl fun Q hQ=>?_
  (repeat'(first|(refine sx ?_ ?_<;>intro h<;>first|(exfalso;omega)|skip)|refine ny ?_|refine WA_block ?_))
  all_goals(refine r_es hQ ?_;try with_reducible rfl)
structure BeamOk(a b:Int)(ls:List (Int×Int)):Prop where
  hl:ls.length≤100
  ha: -20000≤a∧a≤20000
  hb: -20000≤b∧b≤20000
  hab:a<b
  hok:∀ p∈ls,(a≤p.1∧p.1≤b)∧(-1000000≤p.2∧p.2≤1000000)
def fA(b:Int)(p:Int×Int):Int:=p.2 * (b - p.1)
def fZ(a:Int)(p:Int×Int):Int:=p.2 * (p.1 - a)
def shF(a b x:Int)(p:Int×Int):Int:=if p.1≤x then p.2 * (b - a) else 0
def beF(a b x:Int)(p:Int×Int):Int:=if p.1≤x then p.2 * (x - p.1) * (b - a) else 0
theorem BeamOk.ok2{a b:Int}{ls:List (Int×Int)}(h:BeamOk a b ls):∀ p∈ls,(-20000≤p.1∧p.1≤20000)∧(-1000000≤p.2∧p.2≤1000000):=fun p hp=>⟨by have:=(h.hok p hp).1;have:=h.ha;have:=h.hb;omega,(h.hok p hp).2⟩
theorem BeamOk.A{a b:Int}{ls:List (Int×Int)}(h:BeamOk a b ls):∀ k,k≤ls.length→ -(k * 40000000000)≤sumF (fA b) ls k∧sumF (fA b) ls k≤k * 40000000000:=
  sumF_bd (by omega) (fun p hp=>mulW (h.ok2 p hp).2 (by have:=(h.ok2 p hp).1;have:=h.hb;omega))
theorem BeamOk.Z{a b:Int}{ls:List (Int×Int)}(h:BeamOk a b ls):∀ k,k≤ls.length→ -(k * 40000000000)≤sumF (fZ a) ls k∧sumF (fZ a) ls k≤k * 40000000000:=
  sumF_bd (by omega) (fun p hp=>mulW (h.ok2 p hp).2 (by have:=(h.ok2 p hp).1;have:=h.ha;omega))
theorem mulQ{x y:Int}(h1: -40000000000≤x∧x≤40000000000)(h2:0≤y∧y≤40000): -1600000000000000≤x * y∧x * y≤1600000000000000:=by
  have e:(x * y).natAbs=x.natAbs * y.natAbs:=Int.natAbs_mul x y
  have:x.natAbs * y.natAbs≤40000000000 * 40000:=Nat.mul_le_mul (by omega) (by omega)
  omega
theorem mulR{x y:Int}(h1: -4000000000000≤x∧x≤4000000000000)(h2:0≤y∧y≤40000): -160000000000000000≤x * y∧x * y≤160000000000000000:=by
  have e:(x * y).natAbs=x.natAbs * y.natAbs:=Int.natAbs_mul x y
  have:x.natAbs * y.natAbs≤4000000000000 * 40000:=Nat.mul_le_mul (by omega) (by omega)
  omega
theorem BeamOk.sh{a b:Int}{ls:List (Int×Int)}(h:BeamOk a b ls)(x:Int):∀ k,k≤ls.length→ -(k * 40000000000)≤sumF (shF a b x) ls k∧sumF (shF a b x) ls k≤k * 40000000000:=
  sumF_bd (by omega) (fun p hp=>by
    have:=mulW (h.ok2 p hp).2 (d:=b - a) (by have:=h.ha;have:=h.hb;omega)
    unfold shF;split<;>omega)
theorem BeamOk.be{a b:Int}{ls:List (Int×Int)}(h:BeamOk a b ls){x:Int}(hx:a≤x∧x≤b):∀ k,k≤ls.length→ -(k * 1600000000000000)≤sumF (beF a b x) ls k∧sumF (beF a b x) ls k≤k * 1600000000000000:=
  sumF_bd (by omega) (fun p hp=>by
    have ha:=h.ha
    have hb:=h.hb
    have hab:=h.hab
    have q:=(h.ok2 p hp).1
    have m1:=mulW (h.ok2 p hp).2 (d:=x - p.1) (by omega)
    have m2:=mulQ (x:=p.2 * (x - p.1)) (y:=b - a) m1 (by omega)
    unfold beF;split<;>omega)

theorem reactions_c(a b w:Int)(ls:List (Int×Int))(h:BeamOk a b ls)(m:Mem):Gives Try.prog 50 [.agg [.int .i64 a,.int .i64 b,.int .i64 w,.lst (ldsV ls)]] m (.tup [.int .i64 (sumF (fA b) ls ls.length),.int .i64 (sumF (fZ a) ls ls.length)]):=by
  have hlen:=ldsV_length (ls:=ls)
  have hget:=hlen
  have hl:=h.hl
  have ha:=h.ha
  have hb:=h.hb
  have BA:=h.A
  have BZ:=h.Z
  have z1:sumF (fA b) ls 0=0:=by simp [sumF]
  have z2:sumF (fZ a) ls 0=0:=by simp [sumF]
  refine Gives_in Try.func50 rfl Try.ntmps50 Try.results50 (by kernel_rfl) (by simp) rfl fun Q hQ=>?_
  (have FX:=And.intro hlen hget;repeat'(first|(refine sx ?_ ?_<;>intro h<;>first|(exfalso;omega)|skip)|refine ny ?_|refine WA_block ?_))
  refine WA_whileT (σ:=Nat) (L:=lend m) [1,2,3,7,8,9] (fun i=>[.ptr 0 0 0,.v (.int .i64 (sumF (fA b) ls i)),.v (.int .i64 (sumF (fZ a) ls i)),.v (.lst (ldsV ls)),.v (.int .i64 ls.length),.v (.int .i64 i)]) (fun _=>[.cells .own 61 4 [[.v (.int .i64 a),.v (.int .i64 b),.v (.int .i64 w),.v (.lst (ldsV ls))]]]) (fun i=>i≤ls.length) (fun i=>ls.length - i) 0 (Nat.zero_le _) ?_ ?_ (by decide) ?_ ?_ ?_
  · simp [tget,TV.inst,argT,z1,z2]
  · simp [TB.inst,TV.inst]
  · intro i _;simp [TV.okT]
  · intro i _;simp [TB.ok,TV.okT]
  rintro i hi1 B ⟨D,hB⟩ K hK
  have b1:=BA i hi1
  have b2:=BZ i hi1
  simp only [List.map_cons,List.map_nil,TB.inst,TV.inst,tv_map,zipT,List.cons_append,List.nil_append,Nat.add_zero]
  rcases Nat.lt_or_ge i ls.length with hi'|hi'
  · have hget:=ldsV_get hi'
    have e1:sumF (fA b) ls (i+1)=sumF (fA b) ls i+ls[i].2 * (b - ls[i].1):=sumF_succ hi'
    have e2:sumF (fZ a) ls (i+1)=sumF (fZ a) ls i+ls[i].2 * (ls[i].1 - a):=sumF_succ hi'
    have hp:=h.ok2 _ (List.getElem_mem hi')
    have m1:=mulW hp.2 (d:=b - ls[i].1) (by omega)
    have m2:=mulW hp.2 (d:=ls[i].1 - a) (by omega)
    clear FX
    (have FX:=And.intro hlen hget;repeat'(first|(refine sx ?_ ?_<;>intro h<;>first|(exfalso;omega)|skip)|refine ny ?_|refine WA_block ?_))
    all_goals(rw [←e1,←e2];refine nextU_ hK (i+1) [0] hi' (by omega) rfl)
  · have e:i=ls.length:=by omega
    subst e
    clear FX
    (have FX:=And.intro hlen hget;repeat'(first|(refine sx ?_ ?_<;>intro h<;>first|(exfalso;omega)|skip)|refine ny ?_|refine WA_block ?_))
    all_goals(refine r_es hQ ?_;try with_reducible rfl)
theorem uG41_29_7{N:Nat}{l:List Oper}{t:List (Nat×V)}{m:Mem}{Q:Exit→List (Nat×V)→Mem→Prop}(h:RgN Try.prog N l t m Q (fun i=>if i==2 || i==5 || i==8 || i==9 then .q else .p) [.one 0,.one 1,.one 2,.one 3,.one 4,.one 5,.one 6,.one 7,.one 8,.one 9,.one 10,.one 11,.one 12]):WA Try.prog N (.region 7 l.toArray true) t m Q:=d_rgN h
theorem bending_c(a b w:Int)(ls:List (Int×Int))(h:BeamOk a b ls)(x:Int)(hx:a≤x∧x≤b)(m:Mem):Gives Try.prog 29 [.agg [.int .i64 a,.int .i64 b,.int .i64 w,.lst (ldsV ls)],.int .i64 x] m (.int .i64 (sumF (fA b) ls ls.length * (x - a) - sumF (beF a b x) ls ls.length)):=by
  have hlen:=ldsV_length (ls:=ls)
  have hget:=hlen
  have hl:=h.hl
  have ha:=h.ha
  have hb:=h.hb
  have BA:=h.A ls.length (Nat.le_refl _)
  have BM:=mulR (x:=sumF (fA b) ls ls.length) (y:=x - a) (by omega) (by omega)
  have BS:=h.be hx
  have z1:sumF (beF a b x) ls 0=0:=by simp [sumF]
  refine Gives_in Try.func29 rfl Try.ntmps29 Try.results29 (by kernel_rfl) (by simp) rfl fun Q hQ=>?_
  (have FX:=And.intro hlen hget;repeat'(first|(refine sx ?_ ?_<;>intro h<;>first|(exfalso;omega)|skip)|(refine g_op ?_;refine g_call ?_;refine g_args ?_;(first|refine s_fn (reactions_c _ _ _ _ h _) ?_|refine s_fn (width_c _ _ _ _ ha hb _) ?_)<;>try first|omega|assumption)|refine ny ?_|refine WA_block ?_|(refine uG41_29_7 ?_;refine⟨by kernel_rfl,?_⟩)|((first|refine grp_cons (fun _=>reactions_c _ _ _ _ h _) ?_|refine grp_cons (fun _=>width_c _ _ _ _ ha hb _) ?_)<;>try first|omega|assumption)|(refine g_d ?_;refine d_args ?_;(first|refine d_fn (reactions_c _ _ _ _ h _) ?_|refine d_fn (width_c _ _ _ _ ha hb _) ?_|refine d_fnQ (fun _=>reactions_c _ _ _ _ h _) ?_|refine d_fnQ (fun _=>width_c _ _ _ _ ha hb _) ?_)<;>try first|omega|assumption)|(refine g_d ?_;(first|refine d_fnY (reactions_c _ _ _ _ h _) ?_|refine d_fnY (width_c _ _ _ _ ha hb _) ?_)<;>try first|omega|assumption)))
  refine WA_whileT (σ:=Nat) (L:=lend m) [1,2,5,22,23,24] (fun i=>[.v (.int .i64 x),.ptr 0 0 0,.v (.int .i64 (sumF (fA b) ls ls.length * (x - a) - sumF (beF a b x) ls i)),.v (.lst (ldsV ls)),.v (.int .i64 ls.length),.v (.int .i64 i)]) (fun _=>[.cells .own 61 4 [[.v (.int .i64 a),.v (.int .i64 b),.v (.int .i64 w),.v (.lst (ldsV ls))]]]) (fun i=>i≤ls.length) (fun i=>ls.length - i) 0 (Nat.zero_le _) ?_ ?_ (by decide) ?_ ?_ ?_
  · simp [tget,TV.inst,argT,z1]
  · simp [TB.inst,TV.inst]
  · intro i _;simp [TV.okT]
  · intro i _;simp [TB.ok,TV.okT]
  rintro i hi1 B ⟨D,hB⟩ K hK
  have b1:=BS i hi1
  simp only [List.map_cons,List.map_nil,TB.inst,TV.inst,tv_map,zipT,List.cons_append,List.nil_append,Nat.add_zero]
  rcases Nat.lt_or_ge i ls.length with hi'|hi'
  · have hget:=ldsV_get hi'
    have e1:sumF (beF a b x) ls (i+1)=sumF (beF a b x) ls i+(if ls[i].1≤x then ls[i].2 * (x - ls[i].1) * (b - a) else 0):=sumF_succ hi'
    have hp:=h.ok2 _ (List.getElem_mem hi')
    have m1:=mulW hp.2 (d:=x - ls[i].1) (by omega)
    have m2:=mulQ (x:=ls[i].2 * (x - ls[i].1)) (y:=b - a) m1 (by omega)
    clear FX
    (have FX:=And.intro hlen hget;repeat'(first|(refine sx ?_ ?_<;>intro h<;>first|(exfalso;omega)|skip)|(refine g_op ?_;refine g_call ?_;refine g_args ?_;(first|refine s_fn (reactions_c _ _ _ _ h _) ?_|refine s_fn (width_c _ _ _ _ ha hb _) ?_)<;>try first|omega|assumption)|refine ny ?_|refine WA_block ?_|(refine uG41_29_7 ?_;refine⟨by kernel_rfl,?_⟩)|((first|refine grp_cons (fun _=>reactions_c _ _ _ _ h _) ?_|refine grp_cons (fun _=>width_c _ _ _ _ ha hb _) ?_)<;>try first|omega|assumption)|(refine g_d ?_;refine d_args ?_;(first|refine d_fn (reactions_c _ _ _ _ h _) ?_|refine d_fn (width_c _ _ _ _ ha hb _) ?_|refine d_fnQ (fun _=>reactions_c _ _ _ _ h _) ?_|refine d_fnQ (fun _=>width_c _ _ _ _ ha hb _) ?_)<;>try first|omega|assumption)|(refine g_d ?_;(first|refine d_fnY (reactions_c _ _ _ _ h _) ?_|refine d_fnY (width_c _ _ _ _ ha hb _) ?_)<;>try first|omega|assumption)))
    all_goals(simp (disch:=omega) only [if_pos,if_neg,Int.add_zero] at e1)
    all_goals(refine nextU_ hK (i+1) [0] hi' (by omega) ?_ (ht:=?_);rfl)
    all_goals(simp (disch:=omega) only [↓ev_move,↓ev_assign,↓ev_pick,↓ev_alloc,↓ev_box,↓ev_load,↓ev_store,↓ev_binOp,↓ev_unOp,↓ev_extract,↓ev_fieldAddr,↓ev_field,↓ev_indexAddr,↓ev_index,↓ev_makeFunc,↓ev_build,↓ev_makeSlice,↓ev_buildSlice,↓ev_convert,↓ev_len,↓ev_max,↓ev_min,↓ev_append,↓ev_slice,maxLen_eq,b_aeq,b_ane,planEq,leafEq,←Bool.decide_and,b_add,b_sub,b_mul,b_quo,b_rem,b_and,b_or,b_xor,b_eql,b_neq,b_lss,b_leq,b_gtr,b_geq,b_sadd,b_seql,b_sneq,u_not,u_neg,okO_some,okR_eq,↓evO_tmp,↓evO_const,↓evO_func,ofC_int,ofC_bool,ofC_nilsl,ofC_nilptr,ofC_nilfn,ofC_nilmap,ofC_nilif,ofC_str,tput_some,tput_none,i64w,u64w,Int.one_mul,Int.tdiv_eq_ediv_of_nonneg,ne_eq,not_false_eq_true,not_true_eq_false,Int.reduceEq,↓tg_c,tg_n,↓reduceIte,Nat.reduceEqDiff,true_and,and_true,evMax,evMin,reduceCtorEq,Nat.succ_ne_zero,Nat.zero_ne_one,Nat.one_ne_zero,Bool.not_true,Bool.not_false,argT,Nat.reduceAdd,pickT,List.map_cons,List.map_nil,Nat.reduceMul,Nat.reduceSub,Nat.reduceLT,Nat.reduceLeDiff,Nat.lt_irrefl,Int.reduceToNat,Int.reduceLT,Int.reduceLE,Int.reduceNeg,Int.reduceAdd,Int.reduceMul,Int.toNat_zero,Int.toNat_one,decide_true,decide_false,and_self,List.length_cons,List.length_nil,List.getElem?_cons_zero,List.getElem?_cons_succ,List.drop_zero,List.drop_succ_cons,List.take_zero,List.take_succ_cons,List.take_nil,List.drop_nil,List.cons_append,List.nil_append,List.set_cons_zero,List.set_cons_succ,List.all_cons,List.all_nil,Bool.and_true,Bool.and_self,Option.map_some,List.flatten_cons,List.flatten_nil,↓mg,↓ms,↓mg0,↓ms0,ma,ma2,ml,V.one,cellsV,partV,evLoad,evStore,ldB,wrB,evStrIdx,↓ev_nilCheck,evFA,evF,evIA,evI,evBuild,fillV,setAt,evSlice,evStrSlice,bound,chunks,evLen,evAppend,elsV,beq_self_eq_true,Nat.reduceBEq,evMake,evBuildSl,repL,List.replicate_succ,List.replicate_zero,List.range_succ,List.range_zero,Option.map_none,Int.toNat_natCast,Nat.zero_add,Nat.add_zero,Nat.zero_mul,Nat.one_mul,Int.le_refl,Nat.le_refl,TV.inst,List.getD_cons_zero,List.getD_cons_succ,e1,Int.sub_sub];first|rfl|(simp;omega))
  · have e:i=ls.length:=by omega
    subst e
    clear FX
    (have FX:=And.intro hlen hget;repeat'(first|(refine sx ?_ ?_<;>intro h<;>first|(exfalso;omega)|skip)|(refine g_op ?_;refine g_call ?_;refine g_args ?_;(first|refine s_fn (reactions_c _ _ _ _ h _) ?_|refine s_fn (width_c _ _ _ _ ha hb _) ?_)<;>try first|omega|assumption)|refine ny ?_|refine WA_block ?_|(refine uG41_29_7 ?_;refine⟨by kernel_rfl,?_⟩)|((first|refine grp_cons (fun _=>reactions_c _ _ _ _ h _) ?_|refine grp_cons (fun _=>width_c _ _ _ _ ha hb _) ?_)<;>try first|omega|assumption)|(refine g_d ?_;refine d_args ?_;(first|refine d_fn (reactions_c _ _ _ _ h _) ?_|refine d_fn (width_c _ _ _ _ ha hb _) ?_|refine d_fnQ (fun _=>reactions_c _ _ _ _ h _) ?_|refine d_fnQ (fun _=>width_c _ _ _ _ ha hb _) ?_)<;>try first|omega|assumption)|(refine g_d ?_;(first|refine d_fnY (reactions_c _ _ _ _ h _) ?_|refine d_fnY (width_c _ _ _ _ ha hb _) ?_)<;>try first|omega|assumption)))
    all_goals(refine r_es hQ ?_;try with_reducible rfl)
theorem ldsV_all(ls:List (Int×Int)):((ldsV ls).all fun e=>e.length==2)=true:=by simp [ldsV]

theorem loads_c(ls:List (Int×Int))(hl:ls.length≤1000000)(m:Mem):Gives Try.prog 8 [.lst (ldsV ls)] m (.lst (ldsV ls)):=by
  have hla:=ldsV_length (ls:=ls)
  have hall:=ldsV_all ls
  refine CallA_in Try.func8 rfl Try.ntmps8 Try.results8 (by kernel_rfl) (by simp) fun Q hQ=>?_
  (have FX:=And.intro hla hall;repeat'(first|(refine sx ?_ ?_<;>intro h<;>first|(exfalso;omega)|skip)|refine ny ?_|refine WA_block ?_))
  refine r_esA hQ ?_
  refine fin_sl (B:=lend m) (D:=[]) (j:=1) (by simp) rfl (by omega) ?_ ?_
  · rw [List.take_of_length_le (by omega)]
    exact ldsV_plain ls
  · rw [List.take_of_length_le (by omega)]
    exact⟨rfl,rfl⟩
def chkE(a b w:Int)(ls:List (Int×Int)):Int:=if girdErr a b w≠0 then girdErr a b w else loadsErr a b ls
theorem pcheck2_c(a b w:Int)(ls:List (Int×Int))(e:Int)(he:chkE a b w ls=e)(hl:ls.length≤1000000)(m:Mem):Gives Try.prog 20 [.agg [.int .i64 a,.int .i64 b,.int .i64 w],.lst (ldsV ls)] m (.int .i64 e):=he ▸ pcheck_c a b w ls hl m
theorem lcheck2_c(a b w:Int)(ls:List (Int×Int))(e:Int)(he:chkE a b w ls=e)(hl:ls.length≤1000000)(m:Mem):Gives Try.prog 10 [.agg [.int .i64 a,.int .i64 b,.int .i64 w],.lst (ldsV ls)] m (.int .i64 e):=he ▸ lawcheck_c a b w ls hl m
theorem beam_of {a b w:Int} {ls:List (Int×Int)} (h:chkE a b w ls=0):BeamOk a b ls:=by
  unfold chkE at h
  split at h
  · contradiction
  · rename_i hg
    have hg:girdErr a b w=0:=by omega
    unfold girdErr at hg
    split at hg
    · simp at hg
    · split at hg
      · simp at hg
      · rename_i h1 h2
        unfold loadsErr at h
        split at h
        · simp at h
        · split at h
          · rename_i h3 h4
            unfold loadOk at h4
            exact⟨by omega,by omega,by omega,by omega,h4⟩
          · simp at h
end Go.Proofs.Ytppbjbfilkileaa
