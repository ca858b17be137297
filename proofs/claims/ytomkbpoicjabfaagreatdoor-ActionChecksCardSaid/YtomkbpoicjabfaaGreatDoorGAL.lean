import Derived.Test.YtomkbpoicjabfaaGreatDoorU3
import Derived.Lib.Join
set_option linter.unusedSimpArgs false
set_option linter.unusedVariables false
/- contracts: words, directions, the first word that is not empty, lines joined -/
namespace Go.Proofs.YtomkbpoicjabfaaGreatDoor
open Go.RowKit
attribute [local irreducible] WA WOs WDs WAn qThen qBlock tput
set_option maxHeartbeats 1000000
set_option maxRecDepth 20000
set_option linter.unusedSimpArgs false
set_option linter.unusedVariables false
set_option maxHeartbeats 4000000
def rowT(l:List Int):Txt:=l.flatMap fun n=>32::Lib.itoa n
theorem rowT_snoc(l:List Int)(n:Int):rowT (l++[n])=rowT l++32::Lib.itoa n:=by simp [rowT,List.flatMap_append]
theorem rowT_len:∀ {l:List Int},(∀ n∈l,n.natAbs≤100000)→(rowT l).length≤l.length * 13
  |[],_=>Nat.zero_le _
  | n::r,h=>by
    have h1:=itoa_len (h n List.mem_cons_self)
    have h2:=rowT_len (l:=r) fun x hx=>h x (List.mem_cons_of_mem _ hx)
    have e:(n::r).length * 13=r.length * 13+13:=Nat.succ_mul _ _
    have e2:rowT (n::r)=32::(Lib.itoa n++rowT r):=rfl
    rw [e2,e,List.length_cons,List.length_append]
    omega
theorem take_snI{l:List Int}{i:Nat}(h:i<l.length):l.take (i+1)=l.take i++[l.getD i 0]:=by
  rw [List.take_succ_eq_append_getElem h,List.getD_eq_getElem?_getD,List.getElem?_eq_getElem h];rfl

theorem awords_c(s:Txt)(l:List Int)(hs:s.length≤10000)(hl:l.length≤12)(hb:∀ n∈l,n.natAbs≤100000)(m:Mem):Gives Tryz.prog 28 [.str s,.lst (nsV l)] m (.str (s++rowT l)):=by
  have hln:=nsV_length (l:=l)
  suffices key:CallA Tryz.prog 28 [.str s,.lst (nsV l)] m (fun v mo=>mo=none∧WkV v (.str (s++rowT l))) from Gives_ofX key fun v mo h=>h
  refine CallA_in Tryz.func28 rfl Tryz.ntmps28 Tryz.results28 (by kernel_rfl) (by simp) fun Q hQ=>?_
  (have FX:=hln;repeat'(first|(refine sx ?_ ?_<;>intro h<;>first|(exfalso;omega)|skip)|refine ny ?_|refine WA_block ?_))
  refine WA_while (σ:=Nat) [0,7,8,9] (fun i=>[.str (s++rowT (l.take i)),.lst (nsV l),.int .i64 l.length,.int .i64 i]) (fun _=>lend m) (fun i=>i≤l.length) (fun i=>l.length - i) 0 (Nat.zero_le _) (by simp only [rowT,List.take_zero,List.flatMap_nil,List.append_nil];exact tv_) (by simp) ?_
  rintro i hi K hK
  simp only [zipT]
  clear FX
  rcases Nat.lt_or_ge i l.length with hlt|hge
  · have hga:=nsV_get hlt
    have hmem:l.getD i 0∈l:=gdm hlt
    have hbx:=hb _ hmem
    have hsn:=rowT_snoc (l.take i) (l.getD i 0)
    rw [←take_snI hlt] at hsn
    have hrl:=rowT_len (l:=l.take i) fun x hx=>hb x (List.mem_of_mem_take hx)
    have hrl2:(l.take i).length * 13≤12 * 13:=Nat.mul_le_mul_right _ (by rw [List.length_take];omega)
    generalize l.getD i 0=n at *
    have d1:=fun m=>xitoa_c n (by omega) (by omega) m
    have l1:=itoa_len hbx
    generalize Lib.itoa n=tx at *
    have hal:(s++rowT (l.take i)).length≤12000:=by rw [List.length_append];omega
    have hap:∀ a b:Txt,(a++b).length=a.length+b.length:=fun a b=>List.length_append
    have k2:([32]:Txt).length=1:=rfl
    have hnx:s++rowT (l.take (i+1))=s++rowT (l.take i)++([32]++tx):=by rw [hsn,←List.append_assoc];rfl
    clear hsn
    generalize s++rowT (l.take i)=u at *
    (have FX:=And.intro hln (And.intro hga (And.intro l1 (And.intro k2 (And.intro hap (And.intro hal (And.intro hlt hl))))));repeat'(first|(refine sx ?_ ?_<;>intro h<;>first|(exfalso;omega)|skip)|(refine g_op ?_;refine g_call ?_;refine g_args ?_;(first|refine s_fn (d1 _) ?_)<;>try first|omega|assumption)|refine ny ?_|refine WA_block ?_))
    all_goals(try(exfalso;omega))
    refine next_ hK (i+1) hlt (by omega) (ht:=?_)
    rw [hnx]
    exact tv_
  · obtain rfl:i=l.length:=by omega
    rw [List.take_of_length_le (Nat.le_refl _)]
    clear hK
    (have FX:=hln;repeat'(first|(refine sx ?_ ?_<;>intro h<;>first|(exfalso;omega)|skip)|refine ny ?_|refine WA_block ?_))
    all_goals(try(exfalso;omega))
    exact r_esA hQ (v':= .str (s++rowT l)) (.inl ⟨rfl,rfl,WkV.refl _⟩)

theorem corstr_c(d:Txt)(m:Mem):Gives Tryz.prog 29 [.lst [[.str d],[.str [45]]]] m (.str (drW d)):=by
  suffices key:CallA Tryz.prog 29 [.lst [[.str d],[.str [45]]]] m (fun v mo=>mo=none∧WkV v (.str (drW d))) from Gives_ofX key fun v mo h=>h
  obtain⟨es,hes⟩:∃ es:List (List V),es=[[.str d],[.str [45]]]:=⟨_,rfl⟩
  have hln:es.length=2:=by rw [hes];rfl
  have h0:es[0]?=some [.str d]:=by rw [hes];rfl
  have h1:es[1]?=some [.str [45]]:=by rw [hes];rfl
  rw [←hes]
  clear hes
  refine CallA_in Tryz.func29 rfl Tryz.ntmps29 Tryz.results29 (by kernel_rfl) (by simp) fun Q hQ=>?_
  unfold drW at hQ
  (have FX:=And.intro hln (And.intro h0 h1);repeat'(first|(refine sx ?_ ?_<;>intro h<;>first|(exfalso;omega)|skip)|refine ny ?_|refine WA_block ?_))
  refine WA_while (σ:=Nat) [3,6,7,8] (fun i=>[.str [],.lst es,.int .i64 2,.int .i64 i]) (fun _=>lend m) (fun i=>i≤1∧(i=1→d=[])) (fun i=>2 - i) 0 ⟨by decide,fun h=>by cases h⟩ tv_ (by simp) ?_
  rintro i ⟨hi,hd⟩ K hK
  simp only [zipT]
  obtain rfl|rfl:i=0∨i=1:=by omega
  · clear FX
    simp only [show((0:Nat):Int)=0 from rfl]
    (have FX:=And.intro hln (And.intro h0 h1);repeat'(first|(refine sx ?_ ?_<;>intro h<;>first|(exfalso;omega)|skip)|refine ny ?_|refine WA_block ?_))
    all_goals(try(exfalso;omega))
    all_goals first
      | (rw [if_neg (by assumption)] at hQ
         exact r_esA hQ (v':= .str d) (.inl ⟨rfl,rfl,WkV.refl _⟩))
      |exact next_ hK 1 ⟨Nat.le_refl _,fun _=>by assumption⟩ (by decide)
  · clear FX
    rw [if_pos (hd rfl)] at hQ
    simp only [show((1:Nat):Int)=1 from rfl]
    (have FX:=And.intro hln (And.intro h0 h1);repeat'(first|(refine sx ?_ ?_<;>intro h<;>first|(exfalso;omega)|skip)|refine ny ?_|refine WA_block ?_))
    all_goals(try(exfalso;first|omega|contradiction))
    all_goals exact r_esA hQ (v':= .str [45]) (.inl ⟨rfl,rfl,WkV.refl _⟩)

theorem adir_c(b:Bool)(m:Mem):Gives Tryz.prog 30 [.bool b] m (.str (dirW b)):=by
  cases b
  · refine Gives_in Tryz.func30 rfl Tryz.ntmps30 Tryz.results30 (by kernel_rfl) (by simp) rfl fun Q hQ=>?_
    (repeat'(first|(refine sx ?_ ?_<;>intro h<;>first|(exfalso;omega)|skip)|refine ny ?_|refine WA_block ?_))
    all_goals(refine r_es hQ ?_;try with_reducible rfl)
    all_goals rfl
  · refine Gives_in Tryz.func30 rfl Tryz.ntmps30 Tryz.results30 (by kernel_rfl) (by simp) rfl fun Q hQ=>?_
    (repeat'(first|(refine sx ?_ ?_<;>intro h<;>first|(exfalso;omega)|skip)|refine ny ?_|refine WA_block ?_))
    all_goals(refine r_es hQ ?_;try with_reducible rfl)
    all_goals rfl
end Go.Proofs.YtomkbpoicjabfaaGreatDoor
namespace Go.Proofs.YtomkbpoicjabfaaGreatDoor
open Go.RowKit
set_option linter.unusedSimpArgs false
set_option linter.unusedVariables false
theorem join_lines:∀ {x:Txt} {r:List Txt},Lib.join (x::r) [10]++[10]=(x::r).flatMap fun l=>l++[10]
  |x,[]=>by rw [Lib.join_one];simp
  | x,y::r=>by
    have ih:=join_lines (x:=y) (r:=r)
    rw [Lib.join_cons] at ih ⊢
    rw [List.flatMap_cons,←ih]
    simp [Lib.joinTail]
theorem join_ne{ls:List Txt}(h:ls≠[]):Lib.join ls [10]++[10]=ls.flatMap fun l=>l++[10]:=by
  rcases ls with _|⟨x,r⟩
  · exact absurd rfl h
  · exact join_lines
theorem xjoin_c (ls:List Txt) (hne:ls≠[]) (hl:ls.length≤1000) (hlen:(Lib.join ls [10]).length≤100000) (m:Mem):Gives Tryz.prog 31 [.lst (xsV ls),.str [10]] m (.str (Lib.join ls [10])):=by
  refine⟨by kernel_rfl,fun w ρ xs hM hA=>?_⟩
  have h0:xs.size=2:=by simpa using hA.1.symm
  have hx0:=hA.2 0 _ _ rfl (Array.getElem?_eq_getElem (by omega))
  have hx1:=hA.2 1 _ _ rfl (Array.getElem?_eq_getElem (by omega))
  have hxs:xs= #[xs[0],xs[1]]:=by
    apply Array.ext
    · simpa using h0
    · intro i h1 h2
      have hi:i<2:=by simpa using h2
      rcases i with _|_|i
      · rfl
      · rfl
      · omega
  rw [hxs]
  generalize xs[0]=y0 at *
  generalize xs[1]=y1 at *
  have he1:y1= .string ⟨#[10]⟩:=by
    cases hx1 with
    | str _ b hb=>
      obtain⟨⟨l⟩⟩:=b
      simp at hb
      subst hb
      rfl
  subst he1
  have hxl:=xsV_length (l:=ls)
  generalize hes:xsV ls=es at hx0
  cases hx0 with
  | lnil a c hc ha=>
    have:ls.length=0:=by rw [←hxl,hes];rfl
    exact absurd (List.length_eq_zero_iff.1 this) hne
  | lst _ b off c s Y hb hB hc hm hs hY hV hO=>
    subst hes
    have hget:∀ (j:Nat) (h:j<ls.length),(xsV ls)[j]?=some [.str ls[j]]:=fun j h=>by
      unfold xsV
      rw [List.getElem?_map,List.getElem?_eq_getElem h]
      rfl
    have hcells:∀ (j:Nat) x,(ls.map fun s=>(⟨s.toArray⟩:ByteArray))[j]?=some x→w.cell? ⟨b,off+j,none⟩=some (.string x):=by
      intro j x hj
      rw [List.getElem?_map,Option.map_eq_some_iff] at hj
      obtain⟨t,ht,rfl⟩:=hj
      have hjl:=(List.getElem?_eq_some_iff.1 ht).1
      have htj:ls[j]=t:=(List.getElem?_eq_some_iff.1 ht).2
      have g:=hget j hjl
      rw [htj] at g
      have hs1:s=1:=(hs _ (List.mem_of_getElem? g)).symm
      have e1:=hY j 0 _ _ g rfl
      have e2:=hV j 0 _ _ g rfl
      rw [hs1,Nat.mul_one,Nat.add_zero] at e1
      rw [e1]
      generalize Y j 0=y at *
      cases e2 with
      | str _ bb hbb=>
        obtain⟨⟨l⟩⟩:=bb
        simp at hbb
        subst hbb
        rfl
    have hmap:((ls.map fun s=>(⟨s.toArray⟩:ByteArray)).map (·.data.toList))=ls:=by
      rw [List.map_map]
      conv=>rhs;rw [←List.map_id ls]
      exact List.map_congr_left fun x _=>by simp
    have h:=Tryz.strings_Join b off c (ls.map fun s=>(⟨s.toArray⟩:ByteArray)) ⟨#[10]⟩ w hcells hb (by rw [List.length_map];omega) (by rw [List.length_map,←hxl];exact hc) (by rw [hmap];show(Lib.join ls [10]).length≤_;omega)
    rw [hmap,List.length_map] at h
    rw [hxl]
    refine h.mono ?_
    rintro e w' ⟨rfl,hw⟩
    exact⟨_,none,_,rfl,⟨rfl,rfl⟩,.inl ⟨rfl,hw,.str _ _ (by simp)⟩⟩
end Go.Proofs.YtomkbpoicjabfaaGreatDoor
