/- contracts: a list of corners turned round -/
import Derived.Test.YtomkbpoicjabfaaGreatDoorGAD
set_option linter.unusedSimpArgs false
set_option linter.unusedVariables false
namespace Go.Proofs.YtomkbpoicjabfaaGreatDoor
open Go.RowKit
attribute [local irreducible] WA WOs WDs WAn qThen qBlock tput
set_option maxHeartbeats 1000000
set_option maxRecDepth 20000
set_option linter.unusedSimpArgs false
set_option linter.unusedVariables false
attribute [local irreducible] smB cut sm
/-- the list behind k exchanges -/
def swp(l:List Pt)(k:Nat):List Pt:=(List.range l.length).map fun p=>if p<k∨l.length - k≤p then at' l (l.length - 1 - p) else at' l p
theorem swp_len(l:List Pt)(k:Nat):(swp l k).length=l.length:=by simp [swp]
theorem swp_at{l:List Pt}{k p:Nat}(h:p<l.length):(swp l k)[p]?=some (if p<k∨l.length - k≤p then at' l (l.length - 1 - p) else at' l p):=by
  unfold swp;rw [List.getElem?_map,List.getElem?_range h];rfl
theorem swp_zero(l:List Pt):swp l 0=l:=by
  apply List.ext_getElem?
  intro p
  rcases Nat.lt_or_ge p l.length with h|h
  · rw [swp_at h,if_neg (by omega),at_get h]
  · rw [List.getElem?_eq_none (by rw [swp_len];exact h),List.getElem?_eq_none h]
theorem swp_end{l:List Pt}{k:Nat}(h:l.length≤2 * k+1):swp l k=l.reverse:=by
  apply List.ext_getElem?
  intro p
  rcases Nat.lt_or_ge p l.length with hp|hp
  · rw [swp_at hp,List.getElem?_reverse hp,at_get (by omega:l.length - 1 - p<l.length)]
    split
    · rfl
    · have:l.length - 1 - p=p:=by omega
      rw [this]
  · rw [List.getElem?_eq_none (by rw [swp_len];exact hp),List.getElem?_eq_none (by simpa using hp)]
theorem swp_succ {l:List Pt} {k:Nat} (h:2 * k+1<l.length):swp l (k+1)=((swp l k).set k (at' l (l.length - 1 - k))).set (l.length - 1 - k) (at' l k):=by
  apply List.ext_getElem?
  intro p
  rcases Nat.lt_or_ge p l.length with hp|hp
  · rw [swp_at hp,List.getElem?_set,List.length_set,swp_len,List.getElem?_set,swp_len,swp_at hp]
    by_cases h1:l.length - 1 - k=p
    · rw [if_pos h1,if_pos (by omega),if_pos (by omega)]
      congr 2;omega
    · rw [if_neg h1]
      by_cases h2:k=p
      · rw [if_pos h2,if_pos (by omega),if_pos (by omega),h2]
      · rw [if_neg h2]
        by_cases h3:p<k∨l.length - k≤p
        · rw [if_pos h3,if_pos (by omega)]
        · rw [if_neg h3,if_neg (by omega)]
  · rw [List.getElem?_eq_none (by rw [swp_len];exact hp),List.getElem?_eq_none (by simp [swp_len];exact hp)]
theorem ptsV_set{c:List Pt}{i:Nat}{p:Pt}:(ptsV c).set i (ptV p)=ptsV (c.set i p):=by simp [ptsV,List.map_set]
theorem uC11_170_3{N:Nat}{l:List Oper}{t:List (Nat×V)}{m:Mem}{Q:Exit→List (Nat×V)→Mem→Prop}(h:RgN Tryz.prog N l t m Q (fun i=>if i==13 || i==15 then .w else if i==7 || i==11 then .q else .p) [.one 0,.one 1,.one 2,.one 3,.one 4,.one 5,.one 6,.one 7,.one 8,.one 9,.one 10,.one 11,.one 12,.one 13,.one 14,.one 15]):WA Tryz.prog N (.region 3 l.toArray true) t m Q:=d_rgN h
theorem reverse_w(b:Nat)(l:List Pt)(h0:1≤l.length)(hl:l.length≤1000000):CallW Tryz.prog 170 [.sl b l.length] b (.cells .own 80 4 (ptsV l)) (.cells .own 80 4 (ptsV l.reverse)) (.tup []):=by
  have hlen:∀ k,(ptsV (swp l k)).length=l.length:=fun k=>by rw [ptsV_length,swp_len]
  have hga:=hlen
  have hgb:=hlen
  have hti:=hlen
  have htj:=hlen
  have htk:=hlen
  have hs0:=swp_zero l
  suffices key:CallW Tryz.prog 170 [.sl b l.length] b (.cells .own 80 4 (ptsV (swp l 0))) (.cells .own 80 4 (ptsV l.reverse)) (.tup []) by rw [hs0] at key;exact key
  refine CallW_in (tvs:=[.sl 0 l.length]) (v:= .tup []) (es':=ptsV l.reverse) Tryz.func170 rfl Tryz.ntmps170 Tryz.results170 (by kernel_rfl) (by simp) (ptsV_flat _) rfl fun m Q hQ=>?_
  simp only [List.map_cons,List.map_nil,TV.inst]
  (have FX:=And.intro hlen (And.intro hga (And.intro hgb (And.intro hti (And.intro htj htk))));repeat'(first|(refine sx ?_ ?_<;>intro h<;>first|(exfalso;omega)|skip)|refine ny ?_|refine WA_block ?_|(refine uC11_170_3 ?_;refine⟨by kernel_rfl,?_⟩)))
  refine WA_whileK (σ:=Nat) [0,2,3] (fun k=>[.sl (lend m).length l.length,.int .i64 k,.int .i64 ((l.length:Int) - 1 - k)]) (fun k=>[.cells .own 80 4 (ptsV (swp l k))]) 1 (fun k=>2 * k≤l.length) (fun k=>l.length - k) 0 (by omega) ?_ rfl (fun _=>rfl) (by intro s s' _ _;simp [conS,V.keeps,V.plain]) (by intro s s' _ _;exact⟨.inl (List.all_eq_true.2 (plainLL_mem (ptsV_plain _))),trivial⟩) ?_
  · show _=[_,_,V.int .i64 ((l.length:Int) - 1 - ((0:Nat):Int))]
    have e0:(l.length:Int) - 1 - ((0:Nat):Int)=(l.length:Int) - 1:=by omega
    rw [e0];exact tv_
  rintro k hk1 K hK
  simp only [zipT]
  clear FX
  rcases Nat.lt_or_ge (2 * k+1) l.length with hlt|hge
  · have hti:((l.length:Int) - 1 - (k:Int)).toNat=l.length - 1 - k:=by omega
    have hga:(ptsV (swp l k))[k]?=some (ptV (at' l k)):=by
      unfold ptsV;rw [List.getElem?_map,swp_at (by omega),if_neg (by omega)];rfl
    have hgb:(ptsV (swp l k))[l.length - 1 - k]?=some (ptV (at' l (l.length - 1 - k))):=by
      unfold ptsV;rw [List.getElem?_map,swp_at (by omega),if_neg (by omega)];rfl
    have hsx:=swp_succ (l:=l) (k:=k) hlt
    have hset1:(ptsV (swp l k)).set k (ptV (at' l (l.length - 1 - k)))=ptsV ((swp l k).set k (at' l (l.length - 1 - k))):=ptsV_set
    have hset2:(ptsV ((swp l k).set k (at' l (l.length - 1 - k)))).set (l.length - 1 - k) (ptV (at' l k))=ptsV (swp l (k+1)):=by rw [ptsV_set,hsx]
    have hgc:(ptsV ((swp l k).set k (at' l (l.length - 1 - k))))[l.length - 1 - k]?=some (ptV (at' l (l.length - 1 - k))):=by
      unfold ptsV;rw [List.getElem?_map,List.getElem?_set,if_neg (by omega),swp_at (by omega),if_neg (by omega)];rfl
    obtain⟨p1,hp1⟩:∃ p,at' l k=p:=⟨_,rfl⟩
    obtain⟨p2,hp2⟩:∃ p,at' l (l.length - 1 - k)=p:=⟨_,rfl⟩
    rw [hp1] at hga hset2
    rw [hp2] at hgb hset1 hset2 hgc
    unfold ptV at hga hgb hset1 hset2 hgc
    have htj:=And.intro hset1 (And.intro hset2 hgc)
    have htk:(l.length:Int) - 1 - (k:Int) - 1=(l.length:Int) - 1 - ((k+1:Nat):Int):=by omega
    (have FX:=And.intro hlen (And.intro hga (And.intro hgb (And.intro hti (And.intro htj htk))));repeat'(first|(refine sx ?_ ?_<;>intro h<;>first|(exfalso;omega)|skip)|refine ny ?_|refine WA_block ?_|(refine uC11_170_3 ?_;refine⟨by kernel_rfl,?_⟩)))
    all_goals(try(exfalso;omega))
    all_goals(refine nextL_ hK (k+1) (by omega) (by omega) (ht:=?_);(show _=[_,_,V.int .i64 ((l.length:Int) - 1 - ((k+1:Nat):Int))]);rw [←htk];exact tv_)
  · have hga:=hlen
    have hgb:=hlen
    have hti:=hlen
    have htj:=hlen
    have htk:=hlen
    rw [←swp_end (l:=l) (k:=k) (by omega)] at hQ
    (have FX:=And.intro hlen (And.intro hga (And.intro hgb (And.intro hti (And.intro htj htk))));repeat'(first|(refine sx ?_ ?_<;>intro h<;>first|(exfalso;omega)|skip)|refine ny ?_|refine WA_block ?_|(refine uC11_170_3 ?_;refine⟨by kernel_rfl,?_⟩)))
    all_goals(try(exfalso;omega))
    all_goals(refine r_esW hQ ?_ ?_<;>try with_reducible rfl)
theorem reverse_nil(m:Mem):Gives Tryz.prog 170 [.nilsl] m (.tup []):=by
  refine Gives_in Tryz.func170 rfl Tryz.ntmps170 Tryz.results170 (by kernel_rfl) (by simp) rfl fun Q hQ=>?_
  (repeat'(first|(refine sx ?_ ?_<;>intro h<;>first|(exfalso;omega)|skip)|refine ny ?_|refine WA_block ?_|(refine uC11_170_3 ?_;refine⟨by kernel_rfl,?_⟩)))
  refine WA_rounds 1 ?_
  (repeat'(first|(refine sx ?_ ?_<;>intro h<;>first|(exfalso;omega)|skip)|refine ny ?_|refine WA_block ?_|(refine uC11_170_3 ?_;refine⟨by kernel_rfl,?_⟩)))
  all_goals(try(exfalso;omega))
  all_goals(refine r_es hQ ?_;try with_reducible rfl)
end Go.Proofs.YtomkbpoicjabfaaGreatDoor
