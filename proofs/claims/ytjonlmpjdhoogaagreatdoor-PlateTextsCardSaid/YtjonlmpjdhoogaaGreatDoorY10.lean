/- contract: the program writes forces -/
import Derived.Test.YtjonlmpjdhoogaaGreatDoorY9
import Derived.Test.YtjonlmpjdhoogaaGreatDoorX21
import Derived.Test.YtjonlmpjdhoogaaGreatDoorY7
import Derived.Test.YtjonlmpjdhoogaaGreatDoorYC
set_option linter.unusedSimpArgs false
set_option linter.unusedVariables false
namespace Go.Proofs.YtjonlmpjdhoogaaGreatDoor
open Go.RowKit
attribute [local irreducible] WA WOs WDs WAn qThen qBlock tput
set_option maxHeartbeats 1000000
set_option maxRecDepth 20000
set_option linter.unusedSimpArgs false
set_option linter.unusedVariables false
set_option maxHeartbeats 8000000
section
variable {P:Program} {N:Nat} {ops:Array Oper} {kd:Nat→Kd} {LL:Lim} {is:List El} {t:List (Nat×V)} {m:Mem} {Q:List (Nat×V)→Mem→Prop} {f:Operand} {l:List Operand} {ts:Array TypeId} {ty:TypeId} {pos:String} {af:Array Edge} {vs:List V} {i d:Nat} {g:FuncId}
/-- a call that may change all there is, the last one of a region that draws its order -/
theorem d_fnAw{R:V→Option Mem→Prop}(hc:CallA P g vs m R)(h:∀ v mo,R v mo→WDs P N ops kd LL is ((d,v)::t) (mo.getD m) Q)(hk:kd i= .w):DArgG P N ops kd LL i is t m Q d g vs:=by
  intro l ts ty pos af hd hi ha
  subst ha
  unfold WDs
  simp only [hi]
  refine⟨hd,?_⟩
  have hf:evO t (.func g)= .clo (.func g) [] []:=rfl
  simp only [hf,hk]
  have hc:CallA P g ([]++l.toArray.toList.map (evO t)++[]) m R:=by simpa using hc
  exact hc.mono fun v mo hr=>by
    show WDs P N ops kd LL is (tput t (some d) v) (mo.getD m) Q
    simpa only [tput_some] using h v mo hr
/-- .. to which a whole slice of the call's own is lent; the slice is read alone from then on -/
theorem d_fzE{B X m':Mem}{n:Nat}{st:Sta}{ty sz:Nat}{es:List (List V)}{vs':List V}{v:V}(j p:Nat)(hc:Gives P g vs' m' v)(h:WDs P N ops kd LL is ((d,v)::t) m' Q)(hn:es.length=n:=by first|assumption|fail)(hm:m=B++X:=by first|exact rfl|fail)(hX:X[j]?=some (.cells st ty sz es):=by first|exact rfl|fail)
    (hp:vs[p]?=some (.sl (B.length+j) n):=by first|exact rfl|fail) (hvs:vs.set p (.lst es)=vs':=by first|exact rfl|fail) (hm':B++X.set j (.cells .ro ty sz es)=m':=by first|exact rfl|fail) (hk:kd i= .w:=by first|exact rfl|fail):DArgG P N ops kd LL i is t m Q d g vs:=by
  subst hm;subst hvs;subst hm';subst hn
  refine d_fnAw (CallA_fz1 hX hp (Nat.le_refl _) (by rw [List.take_length];exact hc)) ?_ hk
  rintro v mo ⟨mo0,⟨rfl,rfl⟩,rfl⟩
  exact h
end
def bdV(L X:Mem)(s:Txt)(a v:V):Prop:=(a= .nilptr∨a= .ptr L.length 0 0)∧((v= .nilsl∧s=[])∨∃ j,v= .sl (L.length+(j+1)) s.length∧s≠[]∧X[j]?=some (.cells .own 5 1 (u8V s)))
theorem bdI_to{L X M:Mem}{s:Txt}(h:bdI L X s M):∃ a v,M=L++(.cells .own 60 2 [[a,v]]::X)∧bdV L X s a v:=by
  obtain⟨a,v,rfl,ha,hv⟩:=h
  exact⟨a,v,rfl,ha,hv⟩
theorem bdI_of{L X:Mem}{s:Txt}{a v:V}(h:bdV L X s a v):bdI L X s (L++(.cells .own 60 2 [[a,v]]::X)):=⟨a,v,rfl,h.1,h.2⟩
theorem bdV_ext{L X:Mem}{s:Txt}{a v:V}(h:bdV L X s a v)(Y:Mem):bdV L (X++Y) s a v:=by
  obtain⟨h1,h2|⟨j,h2,h3,h4⟩⟩:=h
  · exact⟨h1,.inl h2⟩
  · exact⟨h1,.inr ⟨j,h2,h3,by rw [List.getElem?_append_left (List.getElem?_eq_some_iff.1 h4).1];exact h4⟩⟩
def rowT(l:List Int):Txt:=l.flatMap fun n=>32::Lib.itoa n
theorem rowT_snoc(l:List Int)(n:Int):rowT (l++[n])=rowT l++32::Lib.itoa n:=by simp [rowT,List.flatMap_append]
theorem rowT_len:∀ {l:List Int},(∀ n∈l,n.natAbs≤9999999999)→(rowT l).length≤l.length * 13
  |[],_=>Nat.zero_le _
  | n::r,h=>by
    have h1:=itoa_len (h n List.mem_cons_self)
    have h2:=rowT_len (l:=r) fun x hx=>h x (List.mem_cons_of_mem _ hx)
    have e:(n::r).length * 13=r.length * 13+13:=Nat.succ_mul _ _
    have e2:rowT (n::r)=32::(Lib.itoa n++rowT r):=rfl
    rw [e2,e,List.length_cons,List.length_append]
    omega
theorem take_snI{l:List Int}{i:Nat}(h:i<l.length):l.take (i+1)=l.take i++[l.getD i 0]:=by
  rw [List.take_succ_eq_append_getElem h,List.getD_eq_getElem?_getD,List.getElem?_eq_getElem h];rfl
theorem printF_row(l:List Pl)(a b c x y z:Int):printF (l++[⟨a,b,c,x,y,z⟩])=printF l++[102,111,114,99,101]++rowT [a,b,c,x,y,z]++[10]:=by
  rw [printF_snoc,join7]
  simp [rowT]
/-- a text is written, and a force of one's own is read alone from then on -/
theorem wstrF(L X:Mem)(a v:V)(s t:Txt)(e:List V)(h:bdV L X s a v)(n:Nat)(hn:n=L.length)(ht:t≠[])(hl:t.length≤1000000)(hs:s.length≤1000000):CallA Tryz.prog 18 [.ptr n 0 0,.str t] (L++(.cells .own 60 2 [[a,v]]::(X++[.cells .own 62 6 [e]]))) (fun u mo=>u= .tup [.int .i64 t.length,.nilif]∧∃ a' v' X',mo=some (L++(.cells .own 60 2 [[a',v']]::X'))∧bdV L X' (s++t) a' v'∧X'[X.length]?=some (.cells .ro 62 6 [e])):=by
  subst hn
  have hb:(L++(Blk.cells .own 60 2 [[a,v]]::(X++[.cells .own 62 6 [e]])))[L.length+(X.length+1)]?=some (.cells .own 62 6 [e]):=by rw [idx_in];simp
  have hc:=zwstr_c L (X++[.cells .ro 62 6 [e]]) s t _ (bdI_of (bdV_ext h _)) L.length rfl ht hl hs
  refine(CallA_freezeA (R:=fun u mo=>u= .tup [.int .i64 t.length,.nilif]∧∃ M' X',mo=some M'∧bdI L X' (s++t) M'∧kpX (X++[.cells .ro 62 6 [e]]) X') hb ?_).mono ?_
  · rw [set_in,show(X++[Blk.cells .own 62 6 [e]]).set X.length (.cells .ro 62 6 [e])=X++[.cells .ro 62 6 [e]] by simp]
    exact hc
  · rintro u mo ⟨mo0,⟨rfl,M',X',rfl,h1,h2⟩,rfl⟩
    obtain⟨a',v',rfl,h3⟩:=bdI_to h1
    exact⟨rfl,a',v',X',rfl,h3,h2 X.length _ _ _ _ (by simp) (by decide)⟩
theorem uY10_6_9{N:Nat}{l:List Oper}{t:List (Nat×V)}{m:Mem}{Q:Exit→List (Nat×V)→Mem→Prop}(h:RgN Tryz.prog N l t m Q (fun i=>if i==5 then .w else if i==4 || i==6 then .a else .p) [.one 0,.one 1,.one 2,.one 3,.one 7,.one 4,.one 5,.one 6]):WA Tryz.prog N (.region 9 l.toArray true) t m Q:=d_rgN h
theorem pprint_bad(l:List Pl)(h0:frcErr l≠0)(m:Mem):Gives Tryz.prog 6 [.lst (plsV l)] m (.tup [.str [],.int .i64 (frcErr l)]):=by
  have hcb:=fun m=>pcheckf_c l m
  generalize frcErr l=c at *
  refine Gives_in Tryz.func6 rfl Tryz.ntmps6 Tryz.results6 (by kernel_rfl) (by simp) rfl fun Q hQ=>?_
  (have FX:=h0;repeat'(first|(refine sx ?_ ?_<;>intro h<;>first|(exfalso;omega)|skip)|(refine g_op ?_;refine g_call ?_;refine g_args ?_;(first|refine s_fn (hcb _) ?_)<;>try first|omega|assumption)|refine ny ?_|refine WA_block ?_|(refine uY10_6_9 ?_;refine⟨by kernel_rfl,?_⟩)|((first|refine grp_cons (fun _=>hcb _) ?_)<;>try first|omega|assumption)|(refine g_d ?_;refine d_args ?_;(first|refine d_fn (hcb _) ?_|refine d_fnQ (fun _=>hcb _) ?_)<;>try first|omega|assumption)|(refine g_d ?_;(first|refine d_fnY (hcb _) ?_)<;>try first|omega|assumption)))
  all_goals(try(exfalso;first|omega|contradiction))
  all_goals(refine r_es hQ ?_;try with_reducible rfl)
theorem pprint_ok (l:List Pl) (h0:frcErr l=0) (m:Mem):Gives Tryz.prog 6 [.lst (plsV l)] m (.tup [.str (printF l),.int .i64 0]):=by
  have hcb:=fun m=>pcheckf_c l m
  rw [h0] at hcb
  have hlm:=plsV_length (l:=l)
  obtain⟨hn,hw⟩:=ok_fwr h0
  suffices key:CallA Tryz.prog 6 [.lst (plsV l)] m (fun v mo=>mo=none∧WkV v (.tup [.str (printF l),.int .i64 0])) from Gives_ofX key fun v mo h=>h
  refine CallA_in Tryz.func6 rfl Tryz.ntmps6 Tryz.results6 (by kernel_rfl) (by simp) fun Q hQ=>?_
  (have FX:=And.intro hlm hn;repeat'(first|(refine sx ?_ ?_<;>intro h<;>first|(exfalso;omega)|skip)|(refine g_op ?_;refine g_call ?_;refine g_args ?_;(first|refine s_fn (hcb _) ?_)<;>try first|omega|assumption)|refine ny ?_|refine WA_block ?_|(refine uY10_6_9 ?_;refine⟨by kernel_rfl,?_⟩)|((first|refine grp_cons (fun _=>hcb _) ?_)<;>try first|omega|assumption)|(refine g_d ?_;refine d_args ?_;(first|refine d_fn (hcb _) ?_|refine d_fnQ (fun _=>hcb _) ?_)<;>try first|omega|assumption)|(refine g_d ?_;(first|refine d_fnY (hcb _) ?_)<;>try first|omega|assumption)))
  all_goals(try(exfalso;omega))
  clear FX
  refine WA_while (σ:=Nat×Mem) [5,15,16,17] (fun q=>[.ptr (lend m).length 0 0,.lst (plsV l),.int .i64 l.length,.int .i64 q.1]) (fun q=>q.2) (fun q=>q.1≤l.length∧∃ X a v,q.2=lend m++(.cells .own 60 2 [[a,v]]::X)∧bdV (lend m) X (printF (l.take q.1)) a v) (fun q=>l.length - q.1) (0,_) ⟨Nat.zero_le _,[],.nilptr,.nilsl,rfl,.inl rfl,.inl ⟨rfl,rfl⟩⟩ tv_ (by simp) ?_
  rintro⟨i,M'⟩ ⟨hi,X,a,v,rfl,hbd⟩ K hK
  dsimp only at hi hbd
  simp only [zipT]
  rw [show X=X++[] from(List.append_nil _).symm]
  rcases Nat.lt_or_ge i l.length with hlt|hge
  · have hga:=plsV_get hlt
    have hx:=hw l[i] (List.getElem_mem hlt)
    have hpl:=printF_take hw hn i
    have htk:=take_snG hlt
    generalize l[i]=p at *
    obtain⟨pa,pb,pc,px,py,pz⟩:=p
    have hsn:printF (l.take i)++[102,111,114,99,101]++rowT [pa,pb,pc,px,py,pz]++[10]=printF (l.take (i+1)):=by rw [htk,printF_row]
    dsimp only at hga
    have hb6:∀ n∈[pa,pb,pc,px,py,pz],n.natAbs≤9999999999:=by
      intro n hn
      simp only [List.mem_cons,List.not_mem_nil,or_false] at hn
      rcases hn with rfl|rfl|rfl|rfl|rfl|rfl
      · exact hx.a
      · exact hx.b
      · exact hx.c
      · exact hx.x
      · exact hx.y
      · exact hx.z
    clear hx htk
    generalize printF (l.take i)=s at *
    (have FX:=And.intro hlm (And.intro hn (And.intro hga hlt));repeat'(first|(refine sx ?_ ?_<;>intro h<;>first|(exfalso;omega)|skip)|refine ny ?_|refine WA_block ?_|(refine uY10_6_9 ?_;refine⟨by kernel_rfl,?_⟩)))
    refine g_op ?_;refine g_call ?_;refine g_args ?_;refine s_fnA (wstrF (lend m) X a v s [102,111,114,99,101] [.int .i64 pa,.int .i64 pb,.int .i64 pc,.int .i64 px,.int .i64 py,.int .i64 pz] hbd _ rfl (by simp) (by simp) (by omega)) ?_
    rintro u mo ⟨rfl,a1,v1,X1,rfl,hb1,hf1⟩
    simp only [Option.getD_some]
    rw [show X1=X1++[] from(List.append_nil _).symm]
    have hjl:=(List.getElem?_eq_some_iff.1 hf1).1
    have hgj:∀ Y:Mem,(X1++Y)[X.length]?=some (.cells .ro 62 6 [[.int .i64 pa,.int .i64 pb,.int .i64 pc,.int .i64 px,.int .i64 py,.int .i64 pz]]):=fun Y=>by rw [List.getElem?_append_left hjl];exact hf1
    have hsj:∀ Y:Mem,(X1++Y).set X.length (.cells .ro 62 6 [[.int .i64 pa,.int .i64 pb,.int .i64 pc,.int .i64 px,.int .i64 py,.int .i64 pz]])=X1++Y:=fun Y=>by
      rw [List.set_append_left _ _ hjl]
      congr 1
      refine List.ext_getElem? fun q=>?_
      rw [List.getElem?_set]
      split
      · rename_i hq
        subst hq
        first|rw [if_pos hjl,hf1]|exact hf1.symm|(simp [hf1])
      · rfl
    (have FX:=And.intro hlm (And.intro hn (And.intro hga (And.intro hlt (And.intro hgj hsj))));repeat'(first|(refine sx ?_ ?_<;>intro h<;>first|(exfalso;omega)|skip)|refine ny ?_|refine WA_block ?_|(refine uY10_6_9 ?_;refine⟨by kernel_rfl,?_⟩)))
    have hcx:=fun m=>sconcat_c pa pb pc px py pz m
    generalize hL:[pa,pb,pc,px,py,pz]=L at hcx hsn hb6
    have hLl:L.length=6:=by rw [←hL];rfl
    have hln:=nsV_length (l:=L)
    clear hL
    refine g_d ?_
    refine d_args ?_
    refine d_fzE (B:=lend m) (es:=[[.lst [[.int .i64 pa],[.int .i64 pb],[.int .i64 pc]]],[.lst [[.int .i64 px],[.int .i64 py],[.int .i64 pz]]]]) (n:=2) (X1.length+1) 0 (hcx _) ?_ (hn:=rfl) (st:= .own) (ty:=46) (sz:=1) (X:= .cells .own 60 2 [[a1,v1]]::(X1++[.cells .own 46 1 [[.lst [[.int .i64 pa],[.int .i64 pb],[.int .i64 pc]]],[.lst [[.int .i64 px],[.int .i64 py],[.int .i64 pz]]]]])) (m':=lend m++(.cells .own 60 2 [[a1,v1]]::(X1++[.cells .ro 46 1 [[.lst [[.int .i64 pa],[.int .i64 pb],[.int .i64 pc]]],[.lst [[.int .i64 px],[.int .i64 py],[.int .i64 pz]]]]]))) (hX:=by simp) (hm':=by simp)
    (have FX:=And.intro hlm (And.intro hn (And.intro hlt hln));repeat'(first|(refine sx ?_ ?_<;>intro h<;>first|(exfalso;omega)|skip)|refine ny ?_|refine WA_block ?_|(refine uY10_6_9 ?_;refine⟨by kernel_rfl,?_⟩)))
    clear FX hgj hsj hf1 hjl
    refine WA_while (σ:=Nat×Mem) [5,15,16,17,27,28,29] (fun q=>[.ptr (lend m).length 0 0,.lst (plsV l),.int .i64 l.length,.int .i64 i,.lst (nsV L),.int .i64 L.length,.int .i64 q.1]) (fun q=>q.2) (fun q=>q.1≤L.length∧∃ X',bdI (lend m) X' (s++[102,111,114,99,101]++rowT (L.take q.1)) q.2) (fun q=>L.length - q.1) (0,lend m++(.cells .own 60 2 [[a1,v1]]::(X1++[.cells .ro 46 1 [[.lst [[.int .i64 pa],[.int .i64 pb],[.int .i64 pc]]],[.lst [[.int .i64 px],[.int .i64 py],[.int .i64 pz]]]]]))) ⟨Nat.zero_le _,X1++[.cells .ro 46 1 [[.lst [[.int .i64 pa],[.int .i64 pb],[.int .i64 pc]]],[.lst [[.int .i64 px],[.int .i64 py],[.int .i64 pz]]]]],by rw [List.take_zero,show rowT []=[] from rfl,List.append_nil];exact bdI_of (bdV_ext hb1 _)⟩ tv_ (by simp) ?_
    rintro⟨k,M2⟩ ⟨hk,X2,hI2⟩ K2 hK2
    dsimp only at hk hI2
    simp only [zipT]
    rcases Nat.lt_or_ge k L.length with hlt2|hge2
    · have hga2:=nsV_get hlt2
      have hmem:L.getD k 0∈L:=by rw [List.getD_eq_getElem?_getD,List.getElem?_eq_getElem hlt2];exact List.getElem_mem _
      have hbx:=hb6 _ hmem
      have hsn2:=rowT_snoc (L.take k) (L.getD k 0)
      rw [←take_snI hlt2] at hsn2
      have hrl:=rowT_len (l:=L.take k) fun x hx=>hb6 x (List.mem_of_mem_take hx)
      have hrl2:(L.take k).length * 13≤6 * 13:=Nat.mul_le_mul_right _ (by rw [List.length_take];omega)
      generalize L.getD k 0=n at *
      have d1:=fun m=>xitoa_c n (by omega) (by omega) m
      have l1:=itoa_len hbx
      generalize Lib.itoa n=tx at *
      have hal:(s++[102,111,114,99,101]++rowT (L.take k)).length≤102000:=by rw [List.length_append,List.length_append];simp only [List.length_cons,List.length_nil];omega
      have k2:([32]:Txt).length=1:=rfl
      (have FX:=And.intro hlm (And.intro hn (And.intro hln (And.intro hLl (And.intro hga2 (And.intro l1 (And.intro k2 hlt2))))));repeat'(first|(refine sx ?_ ?_<;>intro h<;>first|(exfalso;omega)|skip)|(refine g_op ?_;refine g_call ?_;refine g_args ?_;(first|refine s_fn (d1 _) ?_)<;>try first|omega|assumption)|refine ny ?_|refine WA_block ?_|(refine uY10_6_9 ?_;refine⟨by kernel_rfl,?_⟩)|((first|refine grp_cons (fun _=>d1 _) ?_)<;>try first|omega|assumption)|(refine g_d ?_;refine d_args ?_;(first|refine d_fn (d1 _) ?_|refine d_fnQ (fun _=>d1 _) ?_)<;>try first|omega|assumption)|(refine g_d ?_;(first|refine d_fnY (d1 _) ?_)<;>try first|omega|assumption)))
      refine g_op ?_;refine g_call ?_;refine g_args ?_;refine s_fnA (zwstr_c (lend m) X2 (s++[102,111,114,99,101]++rowT (L.take k)) ([32]++tx) M2 hI2 _ rfl (by simp) (by simp;omega) (by omega)) ?_
      rintro u mo ⟨rfl,M3,X3,rfl,h3,hk3⟩
      simp only [Option.getD_some]
      (have FX:=And.intro hlm (And.intro hn (And.intro hln (And.intro hLl (And.intro hga2 (And.intro l1 (And.intro k2 hlt2))))));repeat'(first|(refine sx ?_ ?_<;>intro h<;>first|(exfalso;omega)|skip)|(refine g_op ?_;refine g_call ?_;refine g_args ?_;(first|refine s_fn (d1 _) ?_)<;>try first|omega|assumption)|refine ny ?_|refine WA_block ?_|(refine uY10_6_9 ?_;refine⟨by kernel_rfl,?_⟩)|((first|refine grp_cons (fun _=>d1 _) ?_)<;>try first|omega|assumption)|(refine g_d ?_;refine d_args ?_;(first|refine d_fn (d1 _) ?_|refine d_fnQ (fun _=>d1 _) ?_)<;>try first|omega|assumption)|(refine g_d ?_;(first|refine d_fnY (d1 _) ?_)<;>try first|omega|assumption)))
      refine next_ hK2 (k+1,M3) ⟨hlt2,X3,?_⟩ (by dsimp only;omega)
      dsimp only
      rw [hsn2,←List.append_assoc]
      exact h3
    · obtain rfl:k=L.length:=by omega
      rw [List.take_of_length_le (Nat.le_refl _)] at hI2
      have hrl:=rowT_len hb6
      clear hK2
      have hal:(s++[102,111,114,99,101]++rowT L).length≤102000:=by rw [List.length_append,List.length_append];simp only [List.length_cons,List.length_nil];omega
      (have FX:=And.intro hlm (And.intro hn (And.intro hln hlt));repeat'(first|(refine sx ?_ ?_<;>intro h<;>first|(exfalso;omega)|skip)|refine ny ?_|refine WA_block ?_|(refine uY10_6_9 ?_;refine⟨by kernel_rfl,?_⟩)))
      all_goals(try(exfalso;omega))
      refine g_op ?_;refine g_call ?_;refine g_args ?_;refine s_fnA (zwbyte_c (lend m) X2 (s++[102,111,114,99,101]++rowT L) 10 M2 hI2 _ rfl (by omega)) ?_
      rintro u mo ⟨rfl,M3,X3,rfl,h3,hk3⟩
      simp only [Option.getD_some]
      rw [hsn] at h3
      obtain⟨a3,v3,rfl,hb3⟩:=bdI_to h3
      (have FX:=And.intro hlm (And.intro hn (And.intro hln hlt));repeat'(first|(refine sx ?_ ?_<;>intro h<;>first|(exfalso;omega)|skip)|refine ny ?_|refine WA_block ?_|(refine uY10_6_9 ?_;refine⟨by kernel_rfl,?_⟩)))
      exact next_ hK (i+1,_) ⟨hlt,X3,a3,v3,rfl,hb3⟩ (by dsimp only;omega)
  · obtain rfl:i=l.length:=by omega
    rw [List.take_of_length_le (Nat.le_refl _)] at hbd
    clear hK
    (have FX:=And.intro hlm hn;repeat'(first|(refine sx ?_ ?_<;>intro h<;>first|(exfalso;omega)|skip)|refine ny ?_|refine WA_block ?_|(refine uY10_6_9 ?_;refine⟨by kernel_rfl,?_⟩)))
    all_goals(try(exfalso;omega))
    refine g_op ?_;refine g_call ?_;refine g_args ?_;refine s_fnA (zstring_c (lend m) (X++[]) (printF l) _ (bdI_of (bdV_ext hbd [])) _ rfl) ?_
    rintro u2 mo2 ⟨rfl,M2,rfl⟩
    simp only [Option.getD_some]
    (have FX:=And.intro hlm hn;repeat'(first|(refine sx ?_ ?_<;>intro h<;>first|(exfalso;omega)|skip)|refine ny ?_|refine WA_block ?_|(refine uY10_6_9 ?_;refine⟨by kernel_rfl,?_⟩)))
    exact r_esA hQ (v':= .tup [.str (printF l),.int .i64 0]) (.inl ⟨rfl,rfl,WkV.refl _⟩)
end Go.Proofs.YtjonlmpjdhoogaaGreatDoor
