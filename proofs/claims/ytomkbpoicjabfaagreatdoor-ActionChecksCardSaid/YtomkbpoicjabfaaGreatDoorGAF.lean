import Derived.Test.YtomkbpoicjabfaaGreatDoorSH
import Derived.Test.YtomkbpoicjabfaaGreatDoorGAE
import Derived.Lib.AppendIntMem
import Derived.Lib.SplitLaws
import Derived.Lib.CutLaws
set_option linter.unusedSimpArgs false
set_option linter.unusedVariables false
/- contracts: the library's words on numbers and texts, off the shelf -/
namespace Go.Proofs.YtomkbpoicjabfaaGreatDoor
open Go.RowKit

/-- a contract of the kit's kind, that reads package variables -/
theorem Gives_of_callsG{P:Program}{f:FuncId}{args:List V}{v:V}{m:Mem}(hg:isGo P f=true)(ha:detL args=true)(hv:v.det=true)(h:∀ w,(∃ ρ B,GlobOk w ρ B)→Calls P f (args.map V.real).toArray w fun e w'=>e= .returned v.real∧Below w.heap.size w w'):Gives P f args m v:=by
  refine⟨hg,fun w ρ xs hM hA=>?_⟩
  have hx:xs=(args.map V.real).toArray:=by
    apply Array.ext
    · simp;exact hA.1.symm
    · intro i h1 h2
      have hi:i<args.length:=by rw [hA.1];exact h1
      have e1:args[i]?=some args[i]:=List.getElem?_eq_getElem hi
      have hd:=detL_mem ha _ (List.getElem_mem hi)
      have:=det_eq (real_rel (w:=w) (ρ:=ρ) (B:=bad m ρ) hd) hd (hA.2 i _ _ e1 (Array.getElem?_eq_getElem h1))
      rw [this];simp
  subst hx
  refine(h w ⟨ρ,_,hM.glob⟩).mono ?_
  rintro e w' ⟨rfl,hb⟩
  exact⟨v,none,_,rfl,⟨rfl,rfl⟩,.inl ⟨rfl,hb,real_rel hv⟩⟩
theorem Gives_ofX{P:Program}{f:FuncId}{vs:List V}{m:Mem}{v':V}{R:V→Option Mem→Prop}(h:CallA P f vs m R)(hR:∀ v mo,R v mo→mo=none∧WkV v v'):Gives P f vs m v':=by
  refine⟨h.1,fun w ρ xs hM hA=>(h.2 w ρ xs hM hA).mono ?_⟩
  rintro e w' ⟨v,mo,x,rfl,h1,h2⟩
  obtain⟨rfl,hw⟩:=hR v mo h1
  rcases h2 with ⟨_,hb,rv⟩|⟨m',ρ',e,_⟩
  · exact⟨v',none,x,rfl,⟨rfl,rfl⟩,.inl ⟨rfl,hb,hw _ _ _ _ rv⟩⟩
  · cases e
/-- the table of the powers of ten -/
theorem tab_ok{w:World}{ρ:List Re}{B:Nat→Prop}(h:GlobOk w ρ B):Lib.TabIs Tryz.prog w "internal/strconv.uint64pow10" .u64 Lib.pow10Tab:=by
  have h0:=h 3
  have e:gval 3= .tab (Lib.pow10Tab.map fun z=>Value.int .u64 z):=rfl
  rw [e] at h0
  cases h0 with
  | tab _ _ ty o hb hB hh=>
    unfold Lib.TabIs World.var?
    have hn:Tryz.prog.globalNamed "internal/strconv.uint64pow10" =some 3:=by kernel_rfl
    rw [hn]
    simp only [Option.bind_some,hh]
/-- the sentinels hold an interface value -/
theorem err_ok{w:World}{ρ:List Re}{B:Nat→Prop}(h:GlobOk w ρ B){g:Nat}(hg:gval g= .bp [.ifv] 0):∃ t p,w.cell? ⟨g,0,none⟩=some (.iface t p):=by
  have h0:=h g
  rw [hg] at h0
  generalize hx:(Value.pointer (some ⟨g,0,none⟩))=x at h0
  cases h0 with
  | bp cs o b off Y hb hB hY hV hO=>
    simp only [Value.pointer.injEq,Option.some.injEq,Addr.mk.injEq] at hx
    obtain⟨rfl,hoff,_⟩:=hx
    have h1:=hY 0 .ifv rfl
    have h2:=hV 0 .ifv rfl
    generalize Y 0=y at *
    cases h2 with
    |ifv t p=>exact⟨t,p,by rw [show off=0 by omega] at h1;exact h1⟩
theorem max_ok{w:World}{ρ:List Re}{B:Nat→Prop}(h:GlobOk w ρ B){g:Nat}(hg:gval g= .bp [.anyi .i64] 0):∃ n,w.cell? ⟨g,0,none⟩=some (.int .i64 n):=by
  have h0:=h g
  rw [hg] at h0
  generalize hx:(Value.pointer (some ⟨g,0,none⟩))=x at h0
  cases h0 with
  | bp cs o b off Y hb hB hY hV hO=>
    simp only [Value.pointer.injEq,Option.some.injEq,Addr.mk.injEq] at hx
    obtain⟨rfl,hoff,_⟩:=hx
    have h1:=hY 0 (.anyi .i64) rfl
    have h2:=hV 0 (.anyi .i64) rfl
    generalize Y 0=y at *
    cases h2 with
    |anyi _ n=>exact⟨n,by rw [show off=0 by omega] at h1;exact h1⟩
theorem xitoa_c(n:Int)(h0: -9223372036854775808≤n)(h1:n≤9223372036854775807)(m:Mem):Gives Tryz.prog 63 [.int .i64 n] m (.str (Lib.itoa n)):=by
  refine Gives_of_callsG (by kernel_rfl) rfl rfl fun w ⟨ρ,B,hg⟩=>?_
  refine(Tryz.strconv_Itoa n h0 h1 w (tab_ok hg)).mono ?_
  rintro e w' ⟨rfl,k,os,rfl⟩
  exact⟨rfl,Lib.below_grow _ _ (Nat.le_refl _) k os⟩
theorem xtrim_c(s p:Txt)(m:Mem):Gives Tryz.prog 99 [.str s,.str p] m (.str (Lib.trimPrefix s p)):=by
  refine Gives_of_callsG (by kernel_rfl) rfl rfl fun w _=>?_
  refine(Tryz.strings_TrimPrefix ⟨s.toArray⟩ ⟨p.toArray⟩ w).mono ?_
  rintro e w' ⟨rfl,rfl⟩
  exact⟨by simp [V.real],Below.refl _ _⟩
theorem xcut_c(s p:Txt)(hs:s.length≤1000000)(m:Mem):Gives Tryz.prog 23 [.str s,.str p] m (.tup [.str (Lib.trimSuffix s p),.bool (Lib.hasSuffix s p)]):=by
  refine Gives_of_callsG (by kernel_rfl) rfl rfl fun w _=>?_
  refine(Tryz.strings_CutSuffix ⟨s.toArray⟩ ⟨p.toArray⟩ w (by show s.toArray.size≤_;simp;omega)).mono ?_
  rintro e w' ⟨rfl,rfl⟩
  exact⟨by simp [V.real,realL],Below.refl _ _⟩
theorem xindex_c(s:Txt)(c:UInt8)(m:Mem):Gives Tryz.prog 55 [.str s,.int .u8 c.toNat] m (.int .i64 (Lib.indexByte s c)):=by
  refine Gives_of_callsG (by kernel_rfl) rfl rfl fun w _=>?_
  refine(Tryz.strings_IndexByte ⟨s.toArray⟩ c.toNat w).mono ?_
  rintro e w' ⟨rfl,rfl⟩
  exact⟨by simp [V.real],Below.refl _ _⟩
/-- what Atoi says of a text -/
theorem xatoi_ok(s:Txt)(v:Int)(hs:s.length≤1000000)(h:Lib.atoiAll s= .ok v)(m:Mem):Gives Tryz.prog 98 [.str s] m (.tup [.int .i64 v,.nilif]):=by
  refine Gives_of_callsG (by kernel_rfl) rfl rfl fun w _=>?_
  refine(Tryz.strconv_Atoi_ok ⟨s.toArray⟩ (by show s.toArray.size≤_;simp;omega) v (by simpa using h) w).mono ?_
  rintro e w' ⟨rfl,hw⟩
  refine⟨by simp [V.real,realL],?_⟩
  rcases hw with rfl|⟨t,rfl⟩
  · exact Below.refl _ _
  · exact Lib.bytesWorld_below _ _ _
theorem xatoi_bad (s:Txt) (hs:s.length≤1000000) (h:∀ v,Lib.atoiAll s≠ .ok v) (m:Mem):CallA Tryz.prog 98 [.str s] m fun v mo=>mo=none∧∃ n,v= .tup [.int .i64 n,.ifv]:=by
  refine⟨by kernel_rfl,fun w ρ xs hM hA=>?_⟩
  have hx:xs= #[.string ⟨s.toArray⟩]:=by
    apply Array.ext
    · simpa using hA.1.symm
    · intro i h1 h2
      have hi:i=0:=by simp at h2;omega
      subst hi
      have:=hA.2 0 _ _ rfl (Array.getElem?_eq_getElem h1)
      generalize xs[0]=y at *
      cases this with
      | str _ b hb=>
        obtain⟨⟨l⟩⟩:=b
        simp at hb
        subst hb
        simp
  subst hx
  have hsz:(⟨s.toArray⟩:ByteArray).size≤281474976710656:=by show s.toArray.size≤_;simp;omega
  cases ha:Lib.atoiAll s
  · rename_i v
    exact absurd ha (h v)
  · obtain⟨t,p,he⟩:=err_ok hM.glob (g:=1) rfl
    refine(Tryz.strconv_Atoi_syntax ⟨s.toArray⟩ hsz (by rw [show(⟨s.toArray⟩:ByteArray).data.toList=s by simp];exact ha) _ w he (.inr ⟨t,p,rfl⟩)).mono ?_
    rintro e w' ⟨N,rfl,_,_,hb⟩
    refine⟨.tup [.int .i64 0,.ifv],none,_,rfl,⟨rfl,_,rfl⟩,.inl ⟨rfl,hb,.tup _ _ rfl fun i c x h1 h2=>?_⟩⟩
    rcases i with _|_|i
    · simp at h1 h2;subst h1;subst h2;exact .int _ _
    · simp at h1 h2;subst h1;subst h2;exact .ifv _ _
    · simp at h1
  · obtain⟨t,p,he⟩:=err_ok hM.glob (g:=2) rfl
    refine(Tryz.strconv_Atoi_range ⟨s.toArray⟩ hsz (by simpa using ha) _ w he (.inr ⟨t,p,rfl⟩)).mono ?_
    rintro e w' ⟨N,rfl,_,_,hb⟩
    refine⟨.tup [.int .i64 (Lib.atoiSat (⟨s.toArray⟩:ByteArray).data.toList),.ifv],none,_,rfl,⟨rfl,_,rfl⟩,.inl ⟨rfl,hb,.tup _ _ rfl fun i c x h1 h2=>?_⟩⟩
    rcases i with _|_|i
    · simp at h1 h2;subst h1;subst h2;exact .int _ _
    · simp at h1 h2;subst h1;subst h2;exact .ifv _ _
    · simp at h1
/-- a text, cut at each such byte -/
def cutP (c:UInt8):Txt→List Txt
  |[]=>[[]]
  | b::l=>if b=c then []::cutP c l else match cutP c l with
    |p::r=>(b::p)::r
    |[]=>[[b]]
theorem cutP_ne(c:UInt8):∀ s,cutP c s≠[]
  |[]=>by simp [cutP]
  | b::l=>by
    unfold cutP
    split
    · simp
    · split<;>simp
theorem cutP_len (c:UInt8):∀ s,(cutP c s).length≤s.length+1
  |[]=>by simp [cutP]
  | b ::l=>by
    have ih:=cutP_len c l
    unfold cutP
    split
    · simpa using ih
    · split
      · rename_i p r h
        rw [h] at ih
        simp at ih ⊢
        omega
      · simp
theorem split_cutP (c:UInt8):∀ s,Lib.splitK [c] 0 (Lib.count s [c]) s=cutP c s
  | []=>by
    rw [Lib.count_miss (by simp [Lib.index])]
    rfl
  | b ::l=>by
    have ih:=split_cutP c l
    by_cases h:b=c
    · subst h
      have hix:Lib.index (b::l) [b]=0:=by rw [Lib.index];simp [List.isPrefixOf]
      rw [Lib.count_cons_eq,Nat.add_comm,Lib.splitK,hix,if_neg (by decide)]
      have e:(List.drop ((0:Int).toNat+[b].length) (b::l))=l:=rfl
      rw [e,ih]
      simp [cutP]
    · rw [Lib.count_cons_ne b c l h]
      have hp:([c]:List UInt8).isPrefixOf (b::l)=false:=by simp [List.isPrefixOf,Ne.symm h]
      have hix:Lib.index (b::l) [c]=if Lib.index l [c]== -1 then -1 else Lib.index l [c]+1:=by rw [Lib.index,hp];simp
      by_cases hm:Lib.index l [c]= -1
      · have hc:=Lib.count_miss hm
        rw [hc] at ih ⊢
        have e:cutP c l=[l]:=ih.symm
        simp [cutP,h,e,Lib.splitK]
      · have hge:=Lib.index_ge l [c]
        obtain⟨i,hi⟩:∃ i:Nat,Lib.index l [c]=i:=⟨(Lib.index l [c]).toNat,by omega⟩
        have hc:=Lib.count_hit (s:=l) (sub:=[c]) (by simp) hi
        rw [hc,Nat.add_comm,Lib.splitK,hi,if_neg (by simp)] at ih
        rw [hc,Nat.add_comm,Lib.splitK,hix,if_neg (show ¬ (Lib.index l [c]== -1)=true by simp [hm]),if_neg (show ¬ (Lib.index l [c]+1== -1)=true from fun q=>by have:=beq_iff_eq.1 q;omega),hi]
        have e1:((i:Int)+1).toNat=i+1:=by omega
        have e2:((i:Nat):Int).toNat=i:=by omega
        rw [e2] at ih
        rw [e1]
        simp only [cutP,if_neg h,←ih]
        simp
/-- lists of texts as cells -/
def xsV(l:List Txt):List (List V):=l.map fun s=>[V.str s]
theorem xsV_length{l:List Txt}:(xsV l).length=l.length:=by simp [xsV]
theorem xsplit_c (s:Txt) (c:UInt8) (hs:s.length≤1000000) (m:Mem):Gives Tryz.prog 57 [.str s,.str [c]] m (.lst (xsV (cutP c s))):=by
  refine⟨by kernel_rfl,fun w ρ xs hM hA=>?_⟩
  have hx :xs= #[.string ⟨s.toArray⟩,.string ⟨#[c]⟩]:=by
    have h0:xs.size=2:=by simpa using hA.1.symm
    apply Array.ext
    · simpa using h0
    · intro i h1 h2
      have hi:i<2:=by simpa using h2
      have g:∀ (t:Txt) (y:Value),RelV w ρ (bad m ρ) (.str t) y→y= .string ⟨t.toArray⟩:=by
        intro t y h
        cases h with
        | str _ b hb=>
          obtain⟨⟨l⟩⟩:=b
          simp at hb
          subst hb
          rfl
      rcases i with _|_|i
      · exact g s _ (hA.2 0 _ _ rfl (Array.getElem?_eq_getElem h1))
      · exact g [c] _ (hA.2 1 _ _ rfl (Array.getElem?_eq_getElem h1))
      · omega
  subst hx
  obtain⟨n,hn⟩:=max_ok hM.glob (g:=0) rfl
  have hsz:(⟨s.toArray⟩:ByteArray).size=s.length:=by show s.toArray.size=_;simp
  refine(Tryz.strings_Split ⟨s.toArray⟩ ⟨#[c]⟩ n w (by rw [hsz];omega) hn (Nat.le_refl 1)).mono ?_
  rintro e w' ⟨rfl,rfl⟩
  have hd:(Lib.splitB ⟨#[c]⟩ 0 (Lib.countB ⟨s.toArray⟩ ⟨#[c]⟩) ⟨s.toArray⟩).map (·.data.toList)=cutP c s:=by
    rw [Lib.splitB_data,←split_cutP]
  have hlen:(Lib.splitB ⟨#[c]⟩ 0 (Lib.countB ⟨s.toArray⟩ ⟨#[c]⟩) ⟨s.toArray⟩).length=Lib.countB ⟨s.toArray⟩ ⟨#[c]⟩+1:=Lib.splitB_all ⟨#[c]⟩ (Nat.le_refl 1) 0 _ _ rfl
  generalize Lib.splitB ⟨#[c]⟩ 0 (Lib.countB ⟨s.toArray⟩ ⟨#[c]⟩) ⟨s.toArray⟩=L at *
  generalize Lib.countB ⟨s.toArray⟩ ⟨#[c]⟩=k at *
  have hxl:(xsV (cutP c s)).length=k+1:=by rw [xsV_length,←hd,List.length_map,hlen]
  have hle:k≤s.length:=by
    have:(cutP c s).length≤s.length+1:=by
      exact cutP_len c s
    rw [xsV_length] at hxl
    omega
  have hcell:∀ i,i<k+1→(w.alloc (.cells (L.map Value.string).toArray 9)).cell? ⟨w.heap.size,0+i * 1+0,none⟩=some (.string (L.getD i ByteArray.empty)):=fun i hi=>by
    have hi2:i<L.length:=by omega
    have e:(w.alloc (.cells (L.map Value.string).toArray 9)).heap[w.heap.size]?=some (.cells (L.map Value.string).toArray 9 (0,0)):=by
      show(w.heap.push _)[w.heap.size]?=_
      simp
    unfold World.cell?
    dsimp only
    rw [e]
    simp [hi2,List.getD_eq_getElem?_getD]
  have hat:∀ (i:Nat) e,(xsV (cutP c s))[i]?=some e→i<k+1∧e=[.str (L.getD i ByteArray.empty).data.toList]:=fun i e h=>by
    have hi:=(List.getElem?_eq_some_iff.1 h).1
    have hi2:i<L.length:=by omega
    refine⟨by omega,?_⟩
    unfold xsV at h
    rw [←hd,List.map_map,List.getElem?_map,List.getElem?_eq_getElem hi2] at h
    simp [List.getD_eq_getElem?_getD,hi2] at h ⊢
    exact h.symm
  refine⟨.lst (xsV (cutP c s)),none,_,rfl,⟨rfl,rfl⟩,.inl ⟨rfl,(Below.refl _ _).alloc (Nat.le_refl _) _,?_⟩⟩
  have hfr:¬ bad m ρ w.heap.size:=fun h=>by
    obtain⟨b,blk,r,h1,h2,h3,h4⟩:=h
    cases blk with
    | cells st ty sz es=>
      obtain⟨r',cur,g1,_,_,g4,_⟩:=hM.cells b st ty sz es h1
      rw [h3] at g1
      cases g1
      have:=heap_lt g4
      omega
    | obj st vs φ=>
      obtain⟨r',g1,o,xs,g2,_⟩:=hM.objs b st vs φ h1
      rw [h3] at g1
      cases g1
      have:=heap_lt g2
      omega
    |dead=>simp [Blk.bad] at h2
  rw [←hxl]
  refine .lst _ w.heap.size 0 _ 1 (fun i _=> .string (L.getD i ByteArray.empty)) (by show w.heap.size<(w.heap.push _).size;simp) ?_ (Nat.le_refl _) (by rw [hxl];unfold maxLen;omega) ?_ ?_ ?_ ?_
  · exact hfr
  · intro e he
    obtain⟨t,_,rfl⟩:=List.mem_map.1 he
    rfl
  · intro i j e v h1 h2
    obtain⟨h3,rfl⟩:=hat i e h1
    obtain rfl:j=0:=by
      have:=(List.getElem?_eq_some_iff.1 h2).1
      simp at this;omega
    exact hcell i h3
  · intro i j e v h1 h2
    obtain⟨h3,rfl⟩:=hat i e h1
    obtain rfl:j=0:=by
      have:=(List.getElem?_eq_some_iff.1 h2).1
      simp at this;omega
    simp at h2
    subst h2
    exact .str _ _ rfl
  · intro i j e v h1 h2
    obtain⟨h3,rfl⟩:=hat i e h1
    obtain rfl:j=0:=by
      have:=(List.getElem?_eq_some_iff.1 h2).1
      simp at this;omega
    simp at h2
    subst h2
    rfl
def frzC(b:Nat)(es:List (List V)):Blk→Blk
  | .cells st ty sz xs=> .cells st ty sz (xs.map (List.map (frzV b es)))
  |x=>x
theorem frzC_bad(b:Nat)(es:List (List V))(x:Blk):(frzC b es x).bad=x.bad:=by cases x with|cells st _ _ _=>cases st<;>rfl|obj st _ _=>rfl|dead=>rfl
theorem frzC_own(b:Nat)(es:List (List V))(x:Blk):(frzC b es x).own=x.own:=by cases x with|cells st _ _ _=>cases st<;>rfl|obj st _ _=>rfl|dead=>rfl
theorem frzC_dead{b:Nat}{es:List (List V)}{x:Blk}(h:frzC b es x≠ .dead):x≠ .dead:=by rintro rfl;exact h rfl
theorem frzX_get{b:Nat}{es:List (List V)}{B Y:Mem}{c:Nat}{blk:Blk}(h:(B++Y.map (frzC b es))[c]?=some blk):∃ x,(B++Y)[c]?=some x∧(blk=x∨blk=frzC b es x):=by
  rcases Nat.lt_or_ge c B.length with q|q
  · rw [List.getElem?_append_left q] at h
    exact⟨blk,by rw [List.getElem?_append_left q];exact h,.inl rfl⟩
  · rw [List.getElem?_append_right q,List.getElem?_map,Option.map_eq_some_iff] at h
    obtain⟨x,h1,rfl⟩:=h
    exact⟨x,by rw [List.getElem?_append_right q];exact h1,.inr rfl⟩
theorem frzC_has{p:Blk→Bool}{b:Nat}{es:List (List V)}(hp:∀ x,p (frzC b es x)=p x){B Y:Mem}{ρ:List Re}{k:Nat}:has p (B++Y.map (frzC b es)) ρ k→has p (B++Y) ρ k:=by
  rintro⟨c,blk,r,h1,h2,h3,h4⟩
  obtain⟨x,h1,e⟩:=frzX_get h1
  refine⟨c,x,r,h1,?_,h3,h4⟩
  rcases e with rfl|rfl
  · exact h2
  · exact(hp x).symm.trans h2
theorem frzV_one{b:Nat}{es:List (List V)}{v:V}(h:v.one=true):(frzV b es v).one=true:=by
  unfold frzV
  split
  · split
    · rfl
    · exact h
  · exact h
theorem RelM.fzC {w:World} {ρ:List Re} {B X:Mem} (hM:RelM w ρ (B++X)) {j:Nat} {st:Sta} {ty sz:Nat} {es:List (List V)} (hX:X[j]?=some (.cells st ty sz es)):RelM w ρ (B++(X.set j (.cells .ro ty sz es)).map (frzC (B.length+j) es)):=by
  have hb:(B++X)[B.length+j]?=some (.cells st ty sz es):=by rw [List.getElem?_append_right (Nat.le_add_right _ _),Nat.add_sub_cancel_left];exact hX
  have hset:(B++X).set (B.length+j) (.cells .ro ty sz es)=B++X.set j (.cells .ro ty sz es):=by rw [List.set_append_right _ _ (Nat.le_add_right _ _),Nat.add_sub_cancel_left]
  have af:=After.of_ro hM hb
  have h1:=af.mem
  have hfr:=fun {v:V} {x:Value} (h:RelV w ρ (bad (B++X) ρ) v x)=>frzV_rel hM hb h
  have hgen:=fun {v:V} {x:Value} (h:RelV w ρ (bad (B++X) ρ) v x)=>af.rel h
  rw [hset] at h1
  simp only [hset] at hfr hgen
  have hjl:j<X.length:=(List.getElem?_eq_some_iff.1 hX).1
  have hsub:∀ k,bad (B++(X.set j (.cells .ro ty sz es)).map (frzC (B.length+j) es)) ρ k→bad (B++X.set j (.cells .ro ty sz es)) ρ k:=fun k=>frzC_has (frzC_bad _ es)
  have hrel:∀ {v:V} {x:Value},RelV w ρ (bad (B++X.set j (.cells .ro ty sz es)) ρ) v x→RelV w ρ (bad (B++(X.set j (.cells .ro ty sz es)).map (frzC (B.length+j) es)) ρ) v x:=fun hr=>hr.mono (Nat.le_refl _) (fun _ _ _=>rfl) (fun k _ h=>hsub k h) (fun _ _ h=>h)
  have old:∀ {c:Nat} {st':Sta} {ty' sz':Nat} {es0:List (List V)},(B++X.set j (.cells .ro ty sz es))[c]?=some (.cells st' ty' sz' es0)→∃ st1,(B++X)[c]?=some (.cells st1 ty' sz' es0):=by
    intro c st' ty' sz' es0 hx
    rcases Nat.lt_or_ge c B.length with q|q
    · rw [List.getElem?_append_left q] at hx
      exact⟨st',by rw [List.getElem?_append_left q];exact hx⟩
    · rw [List.getElem?_append_right q,List.getElem?_set] at hx
      split at hx
      · rename_i e
        simp only [←e,Option.some.injEq,hjl,if_true] at hx
        cases hx
        exact⟨st,by rw [List.getElem?_append_right q,←e];exact hX⟩
      · exact⟨st',by rw [List.getElem?_append_right q];exact hx⟩
  refine⟨by simpa using h1.len,fun c st' ty' sz' es' hc=>?_,fun c c' blk blk' r r' a1 a2 a3 a4 a5 a6 a7=>?_,fun c st' vs φ hc=>?_,h1.glob.mono fun v x h=>hrel h⟩
  · obtain⟨x,hx,he⟩:=frzX_get hc
    rcases he with rfl|he
    · obtain⟨st1,hm⟩:=old hx
      obtain⟨r,cur,k1,k2,k3,k4,k5,k6,k7,k8,k9⟩:=hM.cells c st1 ty' sz' es' hm
      refine⟨r,cur,k1,k2,k3,k4,k5,k6,k7,k8,fun i j e v a1 a2=>?_⟩
      obtain⟨b1,y,b2,b3⟩:=k9 i j e v a1 a2
      exact⟨b1,y,b2,hrel (hgen b3)⟩
    · cases x with
      | cells st0 ty0 sz0 es0=>
        simp only [Go.Proofs.YtomkbpoicjabfaaGreatDoor.frzC,Blk.cells.injEq] at he
        obtain⟨rfl,rfl,rfl,rfl⟩:=he
        obtain⟨st1,hm⟩:=old hx
        obtain⟨r,cur,k1,k2,k3,k4,k5,k6,k7,k8,k9⟩:=hM.cells c st1 ty' sz' es0 hm
        refine⟨r,cur,k1,k2,k3,k4,k5,by simpa using k6,k7,fun e he=>?_,fun i j e v a1 a2=>?_⟩
        · obtain⟨e0,h2,rfl⟩:=List.mem_map.1 he
          simpa using k8 e0 h2
        · rw [List.getElem?_map,Option.map_eq_some_iff] at a1
          obtain⟨e0,a1,rfl⟩:=a1
          rw [List.getElem?_map,Option.map_eq_some_iff] at a2
          obtain⟨v0,a2,rfl⟩:=a2
          obtain⟨b1,y,b2,b3⟩:=k9 i j e0 v0 a1 a2
          exact⟨frzV_one b1,y,b2,hrel (hfr b3)⟩
      |obj _ _ _=>simp [Go.Proofs.YtomkbpoicjabfaaGreatDoor.frzC] at he
      |dead=>simp [Go.Proofs.YtomkbpoicjabfaaGreatDoor.frzC] at he
  · obtain⟨x,hx,e1⟩:=frzX_get a1
    obtain⟨x',hx',e2⟩:=frzX_get a3
    refine h1.inj c c' x x' r r' hx ?_ hx' ?_ a5 a6 a7
    · rcases e1 with rfl|rfl
      · exact a2
      · exact frzC_dead a2
    · rcases e2 with rfl|rfl
      · exact a4
      · exact(frzC_bad _ es x').symm.trans a4
  · obtain⟨x,hx,he⟩:=frzX_get hc
    have hx2:(B++X.set j (.cells .ro ty sz es))[c]?=some (.obj st' vs φ):=by
      rcases he with rfl|he
      · exact hx
      · cases x with
        |cells _ _ _ _=>simp [Go.Proofs.YtomkbpoicjabfaaGreatDoor.frzC] at he
        |dead=>simp [Go.Proofs.YtomkbpoicjabfaaGreatDoor.frzC] at he
        |obj st0 vs0 φ0=>rw [he];exact hx
    obtain⟨r,k1,k2⟩:=h1.objs c st' vs φ hx2
    exact⟨r,k1,k2.mono (fun _=>rfl) fun v x h=>hrel h⟩
section
variable {P:Program} {N:Nat} {t:List (Nat×V)} {m:Mem}
theorem WA_fzM{c:Code}{Q:Exit→List (Nat×V)→Mem→Prop}{B X:Mem}{j:Nat}{st:Sta}{ty sz:Nat}{es:List (List V)}(hX:X[j]?=some (.cells st ty sz es))(h:WA P N c (t.map fun p=>(p.1,frzV (B.length+j) es p.2)) (B++(X.set j (.cells .ro ty sz es)).map (frzC (B.length+j) es)) Q):WA P N c t (B++X) Q:=by
  intro F hF z w ρ a hR
  have hb:(B++X)[B.length+j]?=some (.cells st ty sz es):=by rw [List.getElem?_append_right (Nat.le_add_right _ _),Nat.add_sub_cancel_left];exact hX
  have hset:(B++X).set (B.length+j) (.cells .ro ty sz es)=B++X.set j (.cells .ro ty sz es):=by rw [List.set_append_right _ _ (Nat.le_add_right _ _),Nat.add_sub_cancel_left]
  have af0:=After.of_ro hR.mem hb
  have hM2:=hR.mem.fzC hX
  have hfr:=fun i=>frzV_rel hR.mem hb (hR.tm i)
  rw [hset] at af0
  simp only [hset] at hfr
  have hsub:∀ k,bad (B++(X.set j (.cells .ro ty sz es)).map (frzC (B.length+j) es)) ρ k→bad (B++X.set j (.cells .ro ty sz es)) ρ k:=fun k=>frzC_has (frzC_bad _ es)
  have af:After w ρ (B++X) w ρ (B++(X.set j (.cells .ro ty sz es)).map (frzC (B.length+j) es)):=⟨af0.keep,af0.pre,hM2,fun k hk ho=>af0.own k hk (frzC_has (frzC_own _ es) ho),fun k hk ho=>af0.bd k hk (hsub k ho)⟩
  have e:∀ (t:List (Nat×V)) i,tget (t.map fun p=>(p.1,frzV (B.length+j) es p.2)) i=frzV (B.length+j) es (tget t i):=by
    intro t i
    induction t with
    |nil=>rfl
    | cons p r ih=>
      simp only [List.map_cons,tget]
      split
      · rfl
      · exact ih
  refine wpIn_mono (h F hF z w ρ a ⟨hM2,fun i=>?_,hR.size,hR.defers.after af⟩) ?_
  · rw [e];exact(hfr i).mono (Nat.le_refl _) (fun _ _ _=>rfl) (fun k _ h=>hsub k h) (fun _ _ h=>h)
  · rintro e a1 w1 ⟨t',m',ρ',hq,hR',af'⟩
    exact⟨t',m',ρ',hq,hR',af.trans af'⟩
end
end Go.Proofs.YtomkbpoicjabfaaGreatDoor
