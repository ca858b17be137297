import Derived.Test.YtomkbpoicjabfaaGreatDoorGAJ
import Derived.Test.YtomkbpoicjabfaaGreatDoorGAI
set_option linter.unusedSimpArgs false
set_option linter.unusedVariables false
/- contracts: the reference's cut of a text -/
namespace Go.Proofs.YtomkbpoicjabfaaGreatDoor
open Go.RowKit
attribute [local irreducible] WA WOs WDs WAn qThen qBlock tput
set_option maxHeartbeats 1000000
set_option maxRecDepth 20000
set_option linter.unusedSimpArgs false
set_option linter.unusedVariables false
set_option maxHeartbeats 4000000
/-- from a place on there is no such byte before another place -/
theorem cutP_none{c:UInt8}:∀ {s:Txt},(∀ b∈s,b≠c)→cutP c s=[s]
  |[],_=>rfl
  | b::l,h=>by
    have ih:=cutP_none (c:=c) (s:=l) fun x hx=>h x (List.mem_cons_of_mem _ hx)
    unfold cutP
    rw [if_neg (h b List.mem_cons_self),ih]
theorem cutP_at{c:UInt8}:∀ {a r:Txt},(∀ b∈a,b≠c)→cutP c (a++c::r)=a::cutP c r
  | [],r,_=>by
    show cutP c (c::r)=_
    unfold cutP
    rw [if_pos rfl]
    cases r<;>rfl
  | b::l,r,h=>by
    have ih:=cutP_at (c:=c) (a:=l) (r:=r) fun x hx=>h x (List.mem_cons_of_mem _ hx)
    rw [List.cons_append]
    conv=>lhs;unfold cutP
    rw [if_neg (h b List.mem_cons_self),ih]
/-- what is to be cut yet, from a place on -/
def cutR(c:UInt8)(s:Txt)(k:Nat):List Txt:=if k≤s.length then cutP c (s.drop k) else []
/-- a piece of a text -/
def pcT(s:Txt)(k i:Nat):Txt:=(s.drop k).take (i - k)
def freeT(c:UInt8)(s:Txt)(k i:Nat):Prop:=∀ b∈pcT s k i,b≠c
theorem pcT_snoc{s:Txt}{k i:Nat}(hk:k≤i)(hi:i<s.length):pcT s k (i+1)=pcT s k i++[s.getD i 0]:=by
  unfold pcT
  have h1:i - k<(s.drop k).length:=by rw [List.length_drop];omega
  rw [show i+1 - k=(i - k)+1 by omega,List.take_succ_eq_append_getElem h1,List.getElem_drop]
  have e:k+(i - k)=i:=by omega
  simp only [e]
  rw [List.getD_eq_getElem?_getD,List.getElem?_eq_getElem hi];rfl
theorem cutR_at{c:UInt8}{s:Txt}{k i:Nat}(hk:k≤i)(hi:i<s.length)(hf:freeT c s k i)(hc:s.getD i 0=c):cutR c s k=pcT s k i::cutR c s (i+1):=by
  have e:s.drop k=pcT s k i++c::s.drop (i+1):=by
    unfold pcT
    rw [←hc,List.getD_eq_getElem?_getD,List.getElem?_eq_getElem hi]
    have e2:s.drop i=s[i]::s.drop (i+1):=List.drop_eq_getElem_cons hi
    have e3:(s.drop k).drop (i - k)=s.drop i:=by rw [List.drop_drop];congr 1;omega
    conv=>lhs;rw [←List.take_append_drop (i - k) (s.drop k)]
    rw [e3,e2];rfl
  unfold cutR
  rw [if_pos (by omega),if_pos (by omega),e]
  exact cutP_at hf
theorem cutR_end{c:UInt8}{s:Txt}{k:Nat}(hk:k≤s.length)(hf:freeT c s k s.length):cutR c s k=[pcT s k s.length]:=by
  have e:s.drop k=pcT s k s.length:=by
    unfold pcT;rw [List.take_of_length_le (by rw [List.length_drop];exact Nat.le_refl _)]
  unfold cutR
  rw [if_pos hk,e]
  exact cutP_none hf
theorem freeT_snoc{c:UInt8}{s:Txt}{k i:Nat}(hk:k≤i)(hi:i<s.length)(hf:freeT c s k i)(hc:s.getD i 0≠c):freeT c s k (i+1):=by
  unfold freeT
  rw [pcT_snoc hk hi]
  intro b hb
  rcases List.mem_append.1 hb with hb|hb
  · exact hf b hb
  · obtain rfl:=List.mem_singleton.1 hb
    exact hc
theorem freeT_nil{c:UInt8}{s:Txt}{k:Nat}:freeT c s k k:=fun b hb=>by
  unfold pcT at hb
  rw [Nat.sub_self] at hb
  cases hb
theorem xsV_plain(l:List Txt):plainLL (xsV l)=true:=plainLL_of fun e he=>by obtain⟨x,_,rfl⟩:=List.mem_map.1 he;rfl
theorem xsV_snocT(l:List Txt)(x:Txt):xsV (l++[x])=xsV l++[[.str x]]:=by simp [xsV]
theorem pcT_eq(s:Txt)(k i:Nat):List.take ((i:Int) - (k:Int)).toNat (List.drop k s)=pcT s k i:=by
  unfold pcT;congr 1;omega
def ctSt:List Txt→TV
  |[]=> .v .nilsl
  |_::r=> .sl 0 (r.length+1)
def ctEx:List Txt→List TB
  |[]=>[]
  |p::r=>[.cells .own 9 1 ((xsV (p::r)).map (List.map TV.v))]
def ctS(s:Txt)(c:UInt8)(q:Nat×Nat×List Txt):List TV:=[.v (.str s),.v (.int .u8 c.toNat),.v (.int .i64 q.2.1),.v (.int .i64 q.1),ctSt q.2.2]
theorem ctE_ok{l:List Txt}:(ctEx l).all (TB.ok (ctEx l).length)=true:=by
  cases l with
  |nil=>rfl
  |cons p r=>simp only [ctEx,List.all_cons,TB.ok,TV.okT,List.all_nil,Bool.and_true,Bool.and_self,tv_ok,List.length_cons,List.length_nil]
theorem ctS_ok{s:Txt}{c:UInt8}{q:Nat×Nat×List Txt}:(ctS s c q).all (TV.okT (ctEx q.2.2).length)=true:=by
  obtain⟨i,k,l⟩:=q
  cases l<;>simp [ctS,ctSt,ctEx,TV.okT]

theorem bcut_c (s:Txt) (c:UInt8) (hs:s.length≤100000) (m:Mem):Gives Tryz.prog 25 [.str s,.int .u8 c.toNat] m (.lst (xsV (cutP c s))):=by
  suffices key:CallA Tryz.prog 25 [.str s,.int .u8 c.toNat] m (fun v mo=>mo=none∧WkV v (.lst (xsV (cutP c s)))) from Gives_ofX key fun v mo h=>h
  refine CallA_in Tryz.func25 rfl Tryz.ntmps25 Tryz.results25 (by kernel_rfl) (by simp) fun Q hQ=>?_
  (repeat'(first|(refine sx ?_ ?_<;>intro h<;>first|(exfalso;omega)|skip)|refine ny ?_|refine WA_block ?_))
  refine WA_whileT (σ:=Nat×Nat×List Txt) (L:=lend m) [0,1,6,7,5] (ctS s c) (fun q=>ctEx q.2.2) (fun q=>(q.1≤s.length+1∧q.2.1≤q.1)∧q.2.2++cutR c s q.2.1=cutP c s∧(q.1≤s.length→freeT c s q.2.1 q.1)∧(q.1=s.length+1→q.2.1=s.length+1)) (fun q=>s.length+1 - q.1) (0,0,[]) ⟨⟨Nat.zero_le _,Nat.le_refl _⟩,rfl,fun _=>freeT_nil,fun h=>by dsimp only at h;omega⟩ (by simp only [ctS,ctSt,List.map_cons,List.map_nil,TV.inst];exact tv_) rfl (by decide) (fun _ _=>ctS_ok) (fun _ _=>ctE_ok) ?_
  rintro⟨i,k,l⟩ ⟨⟨hi,hk⟩,hl,hf,he⟩ B ⟨D,hB⟩ K hK
  dsimp only at hi hk hl hf he
  have hll:l.length≤100001:=by
    have h1:=cutP_len c s
    rw [←hl,List.length_append] at h1
    omega
  rcases Nat.lt_or_ge s.length i with hge|hle
  · obtain rfl:i=s.length+1:=by omega
    obtain rfl:=he rfl
    rw [show cutR c s (s.length+1)=[] from if_neg (by omega),List.append_nil] at hl
    rw [←hl] at hQ
    clear hK
    have hlx:=xsV_length (l:=l)
    cases l with
    |nil=>exact absurd hl.symm (cutP_ne c s)
    | cons p r=>
      simp only [List.length_cons] at hll hlx
      simp only [ctS,ctSt,ctEx]
      simp only [List.map_cons,List.map_nil,TB.inst,TV.inst,tv_map,zipT,List.cons_append,List.nil_append,Nat.add_zero]
      (have FX:=And.intro hlx hll;repeat'(first|(refine sx ?_ ?_<;>intro h<;>first|(exfalso;omega)|skip)|refine ny ?_|refine WA_block ?_))
      all_goals(try(exfalso;omega))
      exact r_esA hQ (v':= .sl B.length (r.length+1)) (fin_sl (j:=0) (X:=[.cells .own 9 1 (xsV (p::r))]) hB rfl (by rw [hlx];exact Nat.le_refl _) (by rw [List.take_of_length_le (by rw [hlx];exact Nat.le_refl _)];exact xsV_plain _) ⟨rfl,by rw [List.take_of_length_le (by rw [hlx];exact Nat.le_refl _)];exact WkV.refl _⟩)
  · replace hf:=hf hle
    have hpc:=pcT_eq s k i
    have hcons:∀ p r x,xsV (p::(r++[x]))=xsV (p::r)++[[V.str x]]:=fun p r x=>xsV_snocT (p::r) x
    have hone:∀ x,xsV [x]=[[V.str x]]:=fun _=>rfl
    have hnxt:cutR c s k=pcT s k i::cutR c s (i+1)→(l++[pcT s k i])++cutR c s (i+1)=cutP c s:=fun h=>by rw [List.append_assoc,←hl,h];rfl
    have hnow:i<s.length→s.getD i 0=c→cutR c s k=pcT s k i::cutR c s (i+1):=fun h1 h2=>cutR_at hk h1 hf h2
    have hend:i=s.length→cutR c s k=pcT s k i::cutR c s (i+1):=fun h=>by
      subst h
      rw [cutR_end hk hf,show cutR c s (s.length+1)=[] from if_neg (by omega)]
    have hfs:=fun(h1:i<s.length) (h2:s.getD i 0≠c)=>freeT_snoc hk h1 hf h2
    have hn1:=fun(_:Unit)=>hK (i+1,i+1,l++[pcT s k i])
    have hn2:=fun(_:Unit)=>hK (i+1,k,l)
    have hlx:=xsV_length (l:=l)
    have hg:(i<s.length∧s[i]?=some (s.getD i 0))∨(i=s.length):=by
      rcases Nat.lt_or_ge i s.length with h|h
      · exact .inl ⟨h,byt_get h⟩
      · exact .inr (by omega)
    have hby:(((s.getD i 0).toNat:Int)=(c.toNat:Int))↔s.getD i 0=c:=⟨fun h=>UInt8.toNat_inj.1 (by omega),fun h=>by rw [h]⟩
    generalize s.getD i 0=b at *
    have hlt2:(xsV l).take l.length=xsV l:=List.take_of_length_le (by rw [hlx];exact Nat.le_refl _)
    rcases hg with ⟨hlt,hgi⟩|hgi
    rotate_left
    · subst hgi
      have hgi:=hlx
      replace hend:=hend rfl
      rcases l with _|⟨p,r⟩
      all_goals(
        simp only [List.length_cons,List.length_nil] at hll hlx hlt2
        simp only [ctS,ctSt,ctEx]
        simp only [List.map_cons,List.map_nil,TB.inst,TV.inst,tv_map,zipT,List.cons_append,List.nil_append,Nat.add_zero]
        (have FX:=And.intro hlx (And.intro hll (And.intro hle (And.intro hk (And.intro hgi hlt2))));repeat'(first|(refine sx ?_ ?_<;>intro h<;>first|(exfalso;omega)|skip)|refine ny ?_|refine WA_block ?_)))
      all_goals(try(exfalso;omega))
      all_goals(rw [hpc])
      · (refine nextU_ hn1 (()) [1] (⟨⟨by dsimp only;omega,by dsimp only;omega⟩,hnxt hend,fun h=>by dsimp only at h;omega,fun _=>rfl⟩) (by dsimp only;omega) ?_ (ht:=?_);(focus (simp only [ctEx,hone,List.nil_append,List.map_cons,List.map_nil,TB.inst,TV.inst,tv_map,List.cons_append,List.nil_append];first|rfl|(simp [ptsV,ptV];done)|(simp [hpsV,hpV];done)|(simp [frsV,frV];done)|(simp [txV];done)|(simp [prtsV,prtV];done)));(simp only [ctS,ctSt,List.nil_append,List.length_nil,List.map_cons,List.map_nil,TV.inst,List.getD_cons_zero,List.getD_cons_succ];exact tv_))
      · (refine nextU_ hn1 (()) [2] (⟨⟨by dsimp only;omega,by dsimp only;omega⟩,hnxt hend,fun h=>by dsimp only at h;omega,fun _=>rfl⟩) (by dsimp only;omega) ?_ (ht:=?_);(focus (simp only [ctEx,hcons,List.cons_append,List.map_cons,List.map_nil,TB.inst,TV.inst,tv_map,List.cons_append,List.nil_append];first|rfl|(simp [ptsV,ptV];done)|(simp [hpsV,hpV];done)|(simp [frsV,frV];done)|(simp [txV];done)|(simp [prtsV,prtV];done)));(simp only [ctS,ctSt,List.cons_append,List.length_append,List.length_cons,List.length_nil,Nat.zero_add,List.map_cons,List.map_nil,TV.inst,List.getD_cons_zero,List.getD_cons_succ];exact tv_))
    · replace hnow:=hnow hlt
      replace hfs:=hfs hlt
      rcases l with _|⟨p,r⟩
      all_goals(
        simp only [List.length_cons,List.length_nil] at hll hlx hlt2
        simp only [ctS,ctSt,ctEx]
        simp only [List.map_cons,List.map_nil,TB.inst,TV.inst,tv_map,zipT,List.cons_append,List.nil_append,Nat.add_zero]
        (have FX:=And.intro hlx (And.intro hll (And.intro hle (And.intro hk (And.intro hgi hlt2))));repeat'(first|(refine sx ?_ ?_<;>intro h<;>first|(exfalso;omega)|skip)|refine ny ?_|refine WA_block ?_)))
      all_goals(try(exfalso;omega))
      · have hbc:b=c:=hby.1 (by assumption)
        rw [hpc]
        (refine nextU_ hn1 (()) [1] (⟨⟨by dsimp only;omega,by dsimp only;omega⟩,hnxt (hnow hbc),fun _=>freeT_nil,fun h=>by dsimp only at h;omega⟩) (by dsimp only;omega) ?_ (ht:=?_);(focus (simp only [ctEx,hone,List.nil_append,List.map_cons,List.map_nil,TB.inst,TV.inst,tv_map,List.cons_append,List.nil_append];first|rfl|(simp [ptsV,ptV];done)|(simp [hpsV,hpV];done)|(simp [frsV,frV];done)|(simp [txV];done)|(simp [prtsV,prtV];done)));(simp only [ctS,ctSt,List.nil_append,List.length_nil,List.map_cons,List.map_nil,TV.inst,List.getD_cons_zero,List.getD_cons_succ];exact tv_))
      · have hbc:b≠c:=fun h=>absurd (hby.2 h) (by assumption)
        exact hn2 () [] _ _ ⟨_,rfl,by simp only [ctS,ctSt,List.map_cons,List.map_nil,TV.inst];exact tv_,rfl,List.nodup_nil⟩ ⟨⟨by dsimp only;omega,by dsimp only;omega⟩,hl,fun _=>hfs hbc,fun h=>by dsimp only at h;omega⟩ (by dsimp only;omega)
      · have hbc:b=c:=hby.1 (by assumption)
        rw [hpc]
        (refine nextU_ hn1 (()) [2] (⟨⟨by dsimp only;omega,by dsimp only;omega⟩,hnxt (hnow hbc),fun _=>freeT_nil,fun h=>by dsimp only at h;omega⟩) (by dsimp only;omega) ?_ (ht:=?_);(focus (simp only [ctEx,hcons,List.cons_append,List.map_cons,List.map_nil,TB.inst,TV.inst,tv_map,List.cons_append,List.nil_append];first|rfl|(simp [ptsV,ptV];done)|(simp [hpsV,hpV];done)|(simp [frsV,frV];done)|(simp [txV];done)|(simp [prtsV,prtV];done)));(simp only [ctS,ctSt,List.cons_append,List.length_append,List.length_cons,List.length_nil,Nat.zero_add,List.map_cons,List.map_nil,TV.inst,List.getD_cons_zero,List.getD_cons_succ];exact tv_))
      · have hbc:b≠c:=fun h=>absurd (hby.2 h) (by assumption)
        (refine nextU_ hn2 (()) [0] (⟨⟨by dsimp only;omega,by dsimp only;omega⟩,hl,fun _=>hfs hbc,fun h=>by dsimp only at h;omega⟩) (by dsimp only;omega) ?_ (ht:=?_);(focus (simp only [ctEx,List.map_cons,List.map_nil,TB.inst,TV.inst,tv_map,List.cons_append,List.nil_append];first|rfl|(simp [ptsV,ptV];done)|(simp [hpsV,hpV];done)|(simp [frsV,frV];done)|(simp [txV];done)|(simp [prtsV,prtV];done)));(simp only [ctS,ctSt,List.map_cons,List.map_nil,TV.inst,List.getD_cons_zero,List.getD_cons_succ];exact tv_))
def riS(ws:List Txt)(s:Nat×List Int):List TV:=[.v (.lst (xsV ws)),nxSt s.2,.v (.int .i64 s.1)]
theorem riS_ok{ws:List Txt}{s:Nat×List Int}:(riS ws s).all (TV.okT (nuEx s.2).length)=true:=by
  obtain⟨i,l⟩:=s
  cases l<;>simp [riS,nxSt,nuEx,TV.okT]

theorem rints_c(ws:List Txt)(hl:ws.length≤100000)(hw:∀ i,i<ws.length→(ws.getD i []).length≤100000)(m:Mem):Gives Tryz.prog 61 [.lst (xsV ws)] m (nbV (numsP 7 ws)):=by
  have hlx:=xsV_length (l:=ws)
  suffices key:CallA Tryz.prog 61 [.lst (xsV ws)] m (fun v mo=>mo=none∧WkV v (nbV (numsP 7 ws))) from Gives_ofX key fun v mo h=>h
  refine CallA_in Tryz.func61 rfl Tryz.ntmps61 Tryz.results61 (by kernel_rfl) (by simp) fun Q hQ=>?_
  (have FX:=hlx;repeat'(first|(refine sx ?_ ?_<;>intro h<;>first|(exfalso;omega)|skip)|refine ny ?_|refine WA_block ?_))
  refine WA_whileT (σ:=Nat×List Int) (L:=lend m) [0,4,5] (riS ws) (fun s=>nuEx s.2) (fun s=>s.1≤ws.length∧numsP 7 (ws.take s.1)=some s.2) (fun s=>ws.length - s.1) (0,[]) ⟨Nat.zero_le _,rfl⟩ (by simp only [riS,nxSt,List.map_cons,List.map_nil,TV.inst];exact tv_) rfl (by decide) (fun _ _=>riS_ok) (fun _ _=>nxE_ok) ?_
  rintro⟨i,l⟩ ⟨hi,hnl⟩ B ⟨D,hB⟩ K hK
  dsimp only at hi hnl
  clear FX
  have hol:l.length=i:=by rw [numsP_len hnl,List.length_take];omega
  rcases Nat.lt_or_ge i ws.length with hlt|hge
  · have hga:=xsV_get hlt
    have hwl:=hw i hlt
    have hsn:=take_snocT hlt
    have hbad:=numsP_none (d:=7) hlt
    have hnx:∀ n,numP 7 (ws.getD i [])=some n→numsP 7 (ws.take (i+1))=some (l++[n]):=fun n hn=>by
      rw [hsn,numsP_app,hnl]
      simp only [Option.bind_some,numsP,hn,Option.map_some]
    have hny:=fun n (_:numP 7 (ws.getD i [])=some n)=>hK (i+1,l++[n])
    generalize ws.getD i []=w at *
    rcases l with _|⟨p,r⟩
    all_goals(
      simp only [riS,nxSt,nuEx]
      simp only [List.map_cons,List.map_nil,TB.inst,TV.inst,tv_map,zipT,List.cons_append,List.nil_append,Nat.add_zero]
      (have FX:=And.intro hlx hga;repeat'(first|(refine sx ?_ ?_<;>intro h<;>first|(exfalso;omega)|skip)|refine ny ?_|refine WA_block ?_)))
    all_goals(try(exfalso;omega))
    all_goals(
      refine g_op ?_;refine g_call ?_;refine g_args ?_;refine s_fnA (bnum_c w 7 (by decide) hwl _) ?_
      rintro v mo ⟨rfl,n,rfl,hn⟩
      simp only [Option.getD_none])
    all_goals rcases hq:numP 7 w with _|k
    all_goals(try obtain rfl:=hn _ hq)
    all_goals simp only [hq,Option.isSome_none,Option.isSome_some,decide_true,decide_false,Bool.false_eq_true]
    · (have FX:=And.intro hlx hga;repeat'(first|(refine sx ?_ ?_<;>intro h<;>first|(exfalso;omega)|skip)|refine ny ?_|refine WA_block ?_))
      rw [hbad hq] at hQ
      exact r_esA hQ (v':= .tup [.nilsl,.bool false]) (.inl ⟨rfl,rfl,show WkV _ (.tup [.lst [],.bool false]) from wk_tup ⟨wk_nil,WkV.refl _,trivial⟩⟩)
    · have hsv:nsV ([]++[n])=[[V.int .i64 n]]:=rfl
      have hnz:=fun(_:Unit)=>hny n hq
      (have FX:=And.intro hlx hga;repeat'(first|(refine sx ?_ ?_<;>intro h<;>first|(exfalso;omega)|skip)|refine ny ?_|refine WA_block ?_))
      (refine nextU_ hnz (()) [1] (⟨hlt,hnx n hq⟩) (by dsimp only;omega) ?_ (ht:=?_);(focus (simp only [nuEx,hsv,List.nil_append,List.map_cons,List.map_nil,TB.inst,TV.inst,tv_map,List.cons_append,List.nil_append];first|rfl|(simp [ptsV,ptV];done)|(simp [hpsV,hpV];done)|(simp [frsV,frV];done)|(simp [txV];done)|(simp [prtsV,prtV];done)));(simp only [riS,nxSt,List.nil_append,List.length_nil,List.map_cons,List.map_nil,TV.inst,List.getD_cons_zero,List.getD_cons_succ];exact tv_))
    · (have FX:=And.intro hlx hga;repeat'(first|(refine sx ?_ ?_<;>intro h<;>first|(exfalso;omega)|skip)|refine ny ?_|refine WA_block ?_))
      rw [hbad hq] at hQ
      exact r_esA hQ (v':= .tup [.nilsl,.bool false]) (.inl ⟨rfl,rfl,show WkV _ (.tup [.lst [],.bool false]) from wk_tup ⟨wk_nil,WkV.refl _,trivial⟩⟩)
    · have hll:(nsV (p::r)).length=r.length+1:=nsV_length
      have hlt2:(nsV (p::r)).take (r.length+1)=nsV (p::r):=by rw [List.take_of_length_le (by rw [hll];exact Nat.le_refl _)]
      have hsv:nsV (p::(r++[n]))=nsV (p::r)++[[V.int .i64 n]]:=nsV_snocT (p::r) n
      have hrl:r.length≤100000:=by simp only [List.length_cons] at hol;omega
      clear FX
      have hnz:=fun(_:Unit)=>hny n hq
      (have FX:=And.intro hlx (And.intro hga (And.intro hll (And.intro hlt2 (And.intro hi (And.intro hl hrl)))));repeat'(first|(refine sx ?_ ?_<;>intro h<;>first|(exfalso;omega)|skip)|refine ny ?_|refine WA_block ?_))
      (refine nextU_ hnz (()) [2] (⟨hlt,hnx n hq⟩) (by dsimp only;omega) ?_ (ht:=?_);(focus (simp only [nuEx,hsv,List.cons_append,List.map_cons,List.map_nil,TB.inst,TV.inst,tv_map,List.cons_append,List.nil_append];first|rfl|(simp [ptsV,ptV];done)|(simp [hpsV,hpV];done)|(simp [frsV,frV];done)|(simp [txV];done)|(simp [prtsV,prtV];done)));(simp only [riS,nxSt,List.cons_append,List.length_append,List.length_cons,List.length_nil,Nat.zero_add,List.map_cons,List.map_nil,TV.inst,List.getD_cons_zero,List.getD_cons_succ];exact tv_))
  · obtain rfl:i=ws.length:=by omega
    rw [List.take_of_length_le (Nat.le_refl _)] at hnl
    rw [hnl] at hQ
    clear hK
    cases l with
    | nil=>
      simp only [riS,nxSt,nuEx]
      simp only [List.map_cons,List.map_nil,TB.inst,TV.inst,tv_map,zipT,List.cons_append,List.nil_append,Nat.add_zero]
      (have FX:=hlx;repeat'(first|(refine sx ?_ ?_<;>intro h<;>first|(exfalso;omega)|skip)|refine ny ?_|refine WA_block ?_))
      all_goals(try(exfalso;omega))
      refine r_esA hQ (v':= .tup [.nilsl,.bool true]) (.inl ⟨rfl,rfl,show WkV _ (.tup [.lst [],.bool true]) from wk_tup ⟨wk_nil,WkV.refl _,trivial⟩⟩)
    | cons p r=>
      have hll:(nsV (p::r)).length=r.length+1:=nsV_length
      have hlt2:(nsV (p::r)).take (r.length+1)=nsV (p::r):=by rw [List.take_of_length_le (by rw [hll];exact Nat.le_refl _)]
      simp only [riS,nxSt,nuEx]
      simp only [List.map_cons,List.map_nil,TB.inst,TV.inst,tv_map,zipT,List.cons_append,List.nil_append,Nat.add_zero]
      (have FX:=hlx;repeat'(first|(refine sx ?_ ?_<;>intro h<;>first|(exfalso;omega)|skip)|refine ny ?_|refine WA_block ?_))
      all_goals(try(exfalso;omega))
      refine r_esA hQ (v':= .tup [.sl B.length (r.length+1),.bool true]) (fin_sl2 (j:=0) (X:=[.cells .own 3 1 (nsV (p::r))]) hB rfl (by rw [hll];exact Nat.le_refl _) (by rw [hlt2];exact nsV_plain _) (fun m L=>frz_bool m L 3 _) ⟨rfl,by rw [hlt2];exact WkV.refl _⟩)
theorem bneR(m:Mem):(evB Tryz.prog m .neq 4 (.bool true) (.bool false)=some (True,.bool true,m))∧(evB Tryz.prog m .neq 4 (.bool false) (.bool true)=some (True,.bool true,m))∧(evB Tryz.prog m .neq 4 (.bool true) (.bool true)=some (True,.bool false,m))∧(evB Tryz.prog m .neq 4 (.bool false) (.bool false)=some (True,.bool false,m)):=by
  have hT:kdT Tryz.prog 4=5:=by kernel_rfl
  simp [evB,evEq,eqV,hT,resEq]

theorem rgoes_c(A Z:Mem)(d v1 v2 v3:V)(rk rank:Int)(n:Nat)(hA:A.length=n)(R:V→Option Mem→Prop)(hok:rk≤rank→(rank=0↔rk=0)→R (.bool true) (some (A++(.cells .own 69 5 [[d,v1,v2,v3,.int .i64 (if rank<1 then 1 else rank)]]::Z))))(hbad:¬ (rk≤rank∧(rank=0↔rk=0))→R (.bool false) (some (A++(.cells .own 69 5 [[d,v1,v2,v3,.int .i64 rk]]::Z)))):CallA Tryz.prog 62 [.ptr n 0 0,.int .i64 rank] (A++(.cells .own 69 5 [[d,v1,v2,v3,.int .i64 rk]]::Z)) R:=by
  subst hA
  have hbn:=bneR
  refine CallA_inD Tryz.func62 rfl Tryz.ntmps62 Tryz.results62 (by kernel_rfl) (by simp) fun Q hQ=>?_
  (have FX:=hbn;repeat'(first|(refine sx ?_ ?_<;>intro h<;>first|(exfalso;omega)|skip)|refine ny ?_|refine WA_block ?_))
  all_goals first
    |exact hQ _ _ _ (by first|exact .inl rfl|exact .inr rfl) (.bool false) rfl (hbad (by omega))
    |exact hQ _ _ _ (by first|exact .inl rfl|exact .inr rfl) (.bool true) rfl (hok (by omega) (by omega))
    |trace_state
end Go.Proofs.YtomkbpoicjabfaaGreatDoor
