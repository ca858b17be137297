/- rules for strings.Builder: bytes of a string appended, a pointer turned to unsafe.Pointer and back, a pointer held against itself -/
import Derived.Test.YtjonlmpjdhoogaaGreatDoorGAA
import Derived.Test.YtjonlmpjdhoogaaGreatDoorGAB
import Derived.Lib.AppendStr
import Derived.Lib.Builder
import Derived.Lib.UnsafeStr
set_option linter.unusedSimpArgs false
set_option linter.unusedVariables false
namespace Go.Proofs.YtjonlmpjdhoogaaGreatDoor
open Go.RowKit
def u8V(s:List UInt8):List (List V):=s.map fun c=>[V.int .u8 c.toNat]
theorem u8V_len(s:List UInt8):(u8V s).length=s.length:=by simp [u8V]
/-- the kit's law on such an append, and where the row lies behind it -/
theorem run_append_strB {P:Program} (w:World) (base:Nat) (t u ty e:TypeId) (i:TypeInfo) (ht:P.underlying t=some (.slice e)) (hu:P.underlying u=some .string) (hi:P.info? e=some i) (hz:i.zero=some (.int .u8 0))
    (hsize:i.size=1) (hby:i.bytes=1) (v:Value) (n:Nat) (xs:List Value) (hown:w.ownsRow base e 1 v n xs) (s:ByteArray)
    (h63:n+s.size≤maxLen) (hbytes:n+s.size≤140737488355328) (hbase:base≤w.heap.size):
    ∃ v' w',(Builtin.append_ #[t,u] ty #[v,.string s]).run P w= .ok v' w'∧w'.ownsRow base e 1 v' (n+s.size) (xs++Lib.strCells s)∧w.grownBy w' v.ownBlock∧
      (v'.ownBlock=v.ownBlock∨v'.ownBlock=some w.heap.size):=by
  have hsmall:n+s.size≤9223372036854775807:=by simp only [maxLen] at h63;omega
  have hxl:xs.length=n:=by simpa using hown.1
  have hlen:(xs++Lib.strCells s).length=(n+s.size) * 1:=by rw [List.length_append,hxl,Lib.strCells_length,Nat.mul_one]
  have grown:∀ (old:Nat),old<n+s.size→∀ (row:Option Nat),
      (w.drew.alloc (.cells (xs.toArray++(Lib.strCells s).toArray++Builtin.zeroCells (Value.int .u8 0).cells (grownCap w (n+s.size) old e - (n+s.size))) e)).ownsRow base e 1
        (.slice (some ⟨w.heap.size,0,none⟩) (n+s.size) (grownCap w (n+s.size) old e)) (n+s.size) (xs++Lib.strCells s)∧
      w.grownBy (w.drew.alloc (.cells (xs.toArray++(Lib.strCells s).toArray++Builtin.zeroCells (Value.int .u8 0).cells (grownCap w (n+s.size) old e - (n+s.size))) e)) row:=by
    intro old ho row
    have hge:=grownCap_ge w (n+s.size) old e
    have hcm:grownCap w (n+s.size) old e≤maxLen:=grownCap_le_maxLen w (n+s.size) old e h63
    refine⟨⟨hlen,.inr ⟨w.heap.size,_,_,rfl,hbase,heap_alloc_new w.drew _,hge,hcm,?_,?_⟩⟩,⟨rfl,rfl,rfl,by simp,fun k hk _=>heap_alloc_old w.drew _ hk⟩⟩
    · have hz1:(Value.int IntKind.u8 0).cells.size=1:=rfl
      simp only [Array.size_append,List.size_toArray,size_zeroCells,hz1,hxl,Lib.strCells_length]
      omega
    · simp only [Array.toList_append,List.append_assoc]
      rw [←List.append_assoc,←hlen]
      exact List.take_left
  rcases hown.2 with ⟨rfl,rfl⟩|⟨g,cap,cur,rfl,hbg,hg,hnc,hcm,hcs,htake⟩
  · have hx:xs=[]:=List.eq_nil_of_length_eq_zero hxl
    subst hx
    by_cases hm:s.size=0
    · have hn:Lib.strCells s=[]:=List.eq_nil_of_length_eq_zero (by rw [Lib.strCells_length];exact hm)
      refine⟨.slice none 0 0,w,?_,by rw [hm,hn];exact World.ownsRow_nil w base e 1,⟨rfl,rfl,rfl,Nat.le_refl _,fun _ _ _=>rfl⟩,.inl rfl⟩
      have hf:=Lib.run_firstCells_string (P:=P) w 1 s
      rw [hm] at hf
      simp [Builtin.append_,run_underlying ht,run_underlying hu,sizeOf,typeInfo,hi,hsize,Builtin.lenOf,hm,hf]
    · have hr:=run_append_nil_string (P:=P) w t u ty e i (.int .u8 0) ht hu hi hz s (by omega) (by omega) (by rw [hby];omega)
      have hgr:=grown 0 (by omega) (Value.ownBlock (.slice none 0 0))
      simp only [Nat.zero_add,List.nil_append,Array.empty_append] at hgr ⊢
      have e1:(s.data.map fun b=>Value.int .u8 b.toNat)=(Lib.strCells s).toArray:=by
        apply Array.ext'
        simp [Lib.strCells]
      rw [e1] at hr
      exact⟨_,_,hr,hgr.1,hgr.2,.inr rfl⟩
  · by_cases hroom:n+s.size≤cap
    · have hcs':cur.size=cap:=by simpa using hcs
      have hr:=Lib.run_append_room_string (P:=P) w t u ty e i ht hu hi hsize g n cap cur hg s hroom (by omega)
      refine⟨_,_,hr,⟨hlen,.inr ⟨g,cap,_,rfl,hbg,setRow_heap w g cur _ e _ hg,hroom,hcm,?_,?_⟩⟩,⟨rfl,rfl,rfl,by simp,fun k _ hk=>setRow_other w g k _ (fun e=>hk (by simp [Value.ownBlock,e]))⟩,.inl rfl⟩
      · simp only [List.size_toArray,List.length_append,List.length_take,List.length_drop,Array.length_toList,Lib.strCells_length]
        omega
      · have ht':cur.toList.take n=xs:=by simpa using htake
        rw [ht',←hlen]
        exact List.take_left
    · have holds:∀ j u,xs[j]?=some u→w.cell? ((⟨g,0,none⟩:Addr).add j)=some u:=hown.cells (g:=g) rfl
      have hr:=Lib.run_append_grow_string (P:=P) w t u ty e i (.int .u8 0) ht hu hi hz ⟨g,0,none⟩ n cap xs (by rw [hsize];simpa using hxl) holds s (by omega) (by omega) (by rw [hby];exact growslice_fits (by omega) (by omega))
      have hgr:=grown cap (by omega) (Value.ownBlock (.slice (some ⟨g,0,none⟩) n cap))
      exact⟨_,_,hr,hgr.1,hgr.2,.inr rfl⟩
section
variable {P:Program} {N:Nat} {t:List (Nat×V)} {m:Mem} {Q:List (Nat×V)→Mem→Prop} {ops:Array Oper} {rest:List Oper} {k:Option Nat} {ty:TypeId} {pos:String} {af:Array Edge}
theorem u8V_rel{w:World}{ρ:List Re}{B:Nat→Prop}{tx:List UInt8}{cur:List Value}{bts:ByteArray}{n:Nat}(hb:bts.data.toList=tx)(hc:∀ q,q<tx.length→cur[n+q]?=(Lib.strCells bts)[q]?){i j:Nat}{e:List V}{v:V}(h1:(u8V tx)[i]?=some e)(h2:e[j]?=some v):
    v.one=true∧∃ y,cur[n+i+j]?=some y∧RelV w ρ B v y:=by
  unfold u8V at h1
  rw [List.getElem?_map,Option.map_eq_some_iff] at h1
  obtain⟨c,hc1,rfl⟩:=h1
  have hi:i<tx.length:=(List.getElem?_eq_some_iff.1 hc1).1
  rcases j with _|j
  · simp at h2
    subst h2
    refine⟨rfl,.int .u8 c.toNat,?_,.int _ _⟩
    rw [Nat.add_zero,hc i hi,Lib.strCells,hb,List.getElem?_map,hc1]
    rfl
  · simp at h2
/-- the bytes of a string appended to a slice of one's own, or to nil -/
theorem x_apS {T T':TypeId} {s x:Operand} {tx:List UInt8} {E:TypeId} {i:TypeInfo} {K:V→Mem→Prop} (ht:P.underlying T=some (.slice E)) (hu:P.underlying T'=some .string) (hi:P.info? E=some i) (hz:i.zero=some (.int .u8 0)) (hsz:i.size=1) (hby:i.bytes=1) (hx:evO t x= .str tx) (h0:tx≠[]) (hl:tx.length≤1000000)
    (hs:(evO t s= .nilsl∧K (.sl m.length tx.length) (m++[.cells .own E 1 (u8V tx)]))∨∃ b n es,evO t s= .sl b n∧m[b]?=some (.cells .own E 1 es)∧n≤es.length∧n≤100000000∧K (.sl m.length (n+tx.length)) (m.set b .dead++[.cells .own E 1 (es.take n++u8V tx)])):
    XOp P t m (.call ⟨.builtin .append,⟨[s,x]⟩,⟨[T,T']⟩⟩) K:=by
  refine⟨fun c=>by simp,fun w ρ a o ho hM hTm=>?_⟩
  have hrx:=evO_rel hTm x
  rw [hx] at hrx
  have hrs:=evO_rel hTm s
  have hmm:110000000≤maxLen:=by unfold maxLen;omega
  obtain⟨bts,hxe,hbt⟩:∃ bts:ByteArray,a.eval x= .string bts∧bts.data.toList=tx:=by
    generalize a.eval x=ex at hrx
    cases hrx with
    |str _ b hb=>exact⟨b,rfl,hb⟩
  have hbs:bts.size=tx.length:=by rw [←hbt,Array.length_toList];rfl
  have hp:0<tx.length:=List.length_pos_iff.2 h0
  have hex:∀ {y:Value} {w':World},(Builtin.append_ #[T,T'] o.type #[a.eval s,.string bts]).run P w= .ok y w'→(execOp a.eval o).run P w= .ok (.value y) w':=fun h=>by
    simp only [execOp,ho,resolve,invoke,builtin,Sem.run_bind,Sem.run_pure,Result.andThen_ok,List.map_toArray,List.map_cons,List.map_nil,hxe,h]
  rcases hs with ⟨hse,hK⟩|⟨b,n,es,hse,hb,hnl,hn8,hK⟩
  · have hsv:a.eval s= .slice none 0 0:=by
      rw [hse] at hrs
      generalize a.eval s=sv at hrs
      cases hrs
      rfl
    obtain⟨v',w',hr,hown,hg,hblk⟩:=run_append_strB w 0 T T' o.type E i ht hu hi hz hsz hby (.slice none 0 0) 0 [] ⟨rfl,.inl ⟨rfl,rfl⟩⟩ bts (by omega) (by omega) (Nat.zero_le _)
    rcases hown.2 with ⟨_,q⟩|⟨g,cap,cur,rfl,_,q1,q2,q3,q4,q5⟩
    · omega
    have hgs:g=w.heap.size:=by
      rcases hblk with q|q
      · simp [Value.ownBlock] at q
      · simpa [Value.ownBlock] using q
    subst hgs
    simp only [Nat.zero_add,Nat.mul_one,List.nil_append] at q2 q4 q5 hr
    obtain⟨afr,rv⟩:=hM.move (w':=w') (m1:=m) rfl (fun _ _ h _=>h) w.heap.size hg.size (fun k hk _ _=>hg.block k hk (by simp [Value.ownBlock])) hg.os hg.tape hg.output cap E 1 (u8V tx) cur
      hM.fresh (.inr (Nat.le_refl _)) (by decide) q1 (by omega) (by rw [u8V_len];omega) q3 (fun e he=>by obtain⟨c,_,rfl⟩:=List.mem_map.1 he;rfl) (fun i' j' e u a1 a2=>by
        have:=u8V_rel (w:=w) (ρ:=ρ) (B:=bad m ρ) (cur:=cur.toList) (n:=0) hbt (fun q hq=>by
          rw [Nat.zero_add,←q5,List.getElem?_take_of_lt (by omega)]) a1 a2
        simpa using this)
    rw [u8V_len] at rv
    refine⟨_,w',_,_,_,hex (by rw [hsv];exact hr),hK,afr,.inl ⟨_,rfl,?_⟩⟩
    rw [hbs]
    exact rv
  · rw [hse] at hrs
    generalize hsv:a.eval s=sv at hrs
    cases hrs with
    | sl _ _ r hr0 hn hm=>
      obtain⟨r0,cur0,k1,k2,k3,k4,k5,k6,k7,k8,k9⟩:=hM.cells b .own E 1 es hb
      rw [hr0] at k1
      cases k1
      have hown0:w.ownsRow 0 E 1 (.slice (some ⟨r.blk,0,none⟩) n r.cap) n (cur0.toList.take (n * 1)):=by
        refine⟨?_,.inr ⟨r.blk,r.cap,cur0,rfl,Nat.zero_le _,k4,hn,hm,k5,rfl⟩⟩
        simp;omega
      obtain⟨v',w',hr,hown,hg,hblk⟩:=run_append_strB w 0 T T' o.type E i ht hu hi hz hsz hby _ n _ hown0 bts (by omega) (by omega) (Nat.zero_le _)
      rcases hown.2 with ⟨_,q⟩|⟨g,cap,cur,rfl,_,q1,q2,q3,q4,q5⟩
      · omega
      have hbl:b<m.length:=(List.getElem?_eq_some_iff.1 hb).1
      have hob:owned m ρ r.blk:=⟨b,_,r,hb,rfl,hr0,rfl⟩
      have hget:∀ (c:Nat) (blk:Blk),(m.set b .dead)[c]?=some blk→blk≠ .dead→m[c]?=some blk∧c≠b:=by
        intro c blk h1 h2
        rw [List.getElem?_set] at h1
        by_cases hne:b=c
        · rw [if_pos hne] at h1
          rw [if_pos hbl] at h1
          cases h1
          exact(h2 rfl).elim
        · rw [if_neg hne] at h1;exact⟨h1,fun e=>hne e.symm⟩
      have hgc:g=r.blk∨g=w.heap.size:=by
        rcases hblk with q|q
        · exact .inl (by simpa [Value.ownBlock] using q)
        · exact .inr (by simpa [Value.ownBlock] using q)
      have htl:(es.take n).length=n:=by simp;omega
      have hcl:(cur0.toList.take (n * 1)).length=n:=by simp;omega
      have hlenEs:(es.take n++u8V tx).length=n+tx.length:=by rw [List.length_append,u8V_len,htl]
      obtain ⟨afr,rv⟩:=hM.move (w':=w') (m1:=m.set b .dead) (by simp) (fun c blk h1 h2=>(hget c blk h1 h2).1) g hg.size (fun k hk hne hh=>hg.block k hk (fun e=>by
          have hkr:k=r.blk:=by simpa [Value.ownBlock] using e
          subst hkr
          rcases hh with q|⟨c,blk,r',q1,q2,q3,q4⟩
          · exact q hob
          · obtain⟨h1',hcb⟩:=hget c blk q1 q2
            exact hcb (hM.inj c b blk _ r' r h1' q2 hb rfl q3 hr0 q4))) hg.os hg.tape hg.output cap E 1 (es.take n++u8V tx) cur
        (by
          intro c blk r' h1 h2 h3 e
          obtain⟨h1',hcb⟩:=hget c blk h1 h2
          rcases hgc with q|q
          · exact hcb (hM.inj c b blk _ r' r h1' h2 hb rfl h3 hr0 (e.trans q))
          · exact hM.fresh c blk r' h1' h2 h3 (e.trans q))
        (by
          rcases hgc with q|q
          · subst q;exact .inl hob
          · exact .inr (by omega)) (by decide) q1 q4 (by omega) q3
        (fun e he=>by
          rcases List.mem_append.1 he with q|q
          · exact k8 e (List.mem_of_mem_take q)
          · obtain⟨c,_,rfl⟩:=List.mem_map.1 q;rfl)
        (fun i' j' e u a1 a2=>by
          have hcur:∀ q,q<n+tx.length→cur[q]?=(cur0.toList.take (n * 1)++Lib.strCells bts)[q]?:=by
            intro q hq
            rw [←q5,List.getElem?_take_of_lt (by omega)]
            simp
          rcases Nat.lt_or_ge i' n with hin|hin
          · rw [List.getElem?_append_left (by omega),List.getElem?_take_of_lt hin] at a1
            obtain⟨b1,y0,b2,b3⟩:=k9 i' j' e u a1 a2
            refine⟨b1,y0,?_,b3⟩
            have hj:j'=0:=by
              have:=(List.getElem?_eq_some_iff.1 a2).1
              rw [k8 e (List.mem_of_getElem? a1)] at this
              omega
            subst hj
            rw [hcur _ (by omega),List.getElem?_append_left (by omega),List.getElem?_take_of_lt (by omega)]
            simpa using b2
          · rw [List.getElem?_append_right (by omega),htl] at a1
            have:=u8V_rel (w:=w) (ρ:=ρ) (B:=bad m ρ) (cur:=cur.toList) (n:=n) hbt (fun q hq=>by
              have:=hcur (n+q) (by omega)
              rw [List.getElem?_append_right (by omega),hcl,Nat.add_sub_cancel_left] at this
              simpa using this) a1 a2
            rw [show n+(i' - n)+j'=i' * 1+j' by omega] at this
            simpa using this)
      rw [hlenEs] at rv
      refine⟨_,w',_,_,_,hex (by rw [hsv];exact hr),hK,afr,.inl ⟨_,rfl,?_⟩⟩
      rw [hbs]
      exact rv
def infB(P:Program)(E:TypeId):Bool:=match P.info? E with
  |some i=>(match i.zero with|some (.int .u8 z)=>z==0|_=>false) && i.size==1 && i.bytes==1
  |none=>false
theorem infB_ok{E:TypeId}(h:infB P E=true):∃ i,P.info? E=some i∧i.zero=some (.int .u8 0)∧i.size=1∧i.bytes=1:=by
  unfold infB at h
  split at h
  · rename_i i hi
    simp only [Bool.and_eq_true,beq_iff_eq] at h
    obtain⟨⟨h1,h2⟩,h3⟩:=h
    refine⟨i,hi,?_,h2,h3⟩
    split at h1
    · rename_i z hz
      rw [hz,eq_of_beq h1]
    · cases h1
  · cases h
theorem s_apN{T T':TypeId}{s x:Operand}{tx:List UInt8}{E:TypeId}(h:WOs P N ops rest (tput t k (.sl m.length tx.length)) (m++[.cells .own E 1 (u8V tx)]) Q)(hs:evO t s= .nilsl)(hx:evO t x= .str tx)(h0:tx≠[])(hl:tx.length≤1000000)(hd:dOkB N k=true)(hne:T'≠T)(ht:P.underlying T=some (.slice E))(hu:P.underlying T'=some .string)(hi:infB P E=true):WOs P N ops (⟨k,.call ⟨.builtin .append,⟨[s,x]⟩,⟨[T,T']⟩⟩,ty,pos,af,none⟩::rest) t m Q:=
  WOs_x (dOk_b hd) (by simp) (by show(if T'=T then evAppend P t m T s x else none)=none;rw [if_neg hne]) rfl (by obtain⟨i,hi,hz,hsz,hby⟩:=infB_ok hi;exact x_apS ht hu hi hz hsz hby hx h0 hl (.inl ⟨hs,h⟩))
theorem s_apS{T T':TypeId}{s x:Operand}{tx:List UInt8}{E:TypeId}{b n:Nat}{es:List (List V)}(h:WOs P N ops rest (tput t k (.sl m.length (n+tx.length))) (m.set b .dead++[.cells .own E 1 (es.take n++u8V tx)]) Q)(hs:evO t s= .sl b n)(hb:m[b]?=some (.cells .own E 1 es))(hn:n≤es.length)(hn8:n≤100000000)(hx:evO t x= .str tx)(h0:tx≠[])(hl:tx.length≤1000000)(hd:dOkB N k=true)(hne:T'≠T)(ht:P.underlying T=some (.slice E))(hu:P.underlying T'=some .string)(hi:infB P E=true):WOs P N ops (⟨k,.call ⟨.builtin .append,⟨[s,x]⟩,⟨[T,T']⟩⟩,ty,pos,af,none⟩::rest) t m Q:=
  WOs_x (dOk_b hd) (by simp) (by show(if T'=T then evAppend P t m T s x else none)=none;rw [if_neg hne]) rfl (by obtain⟨i,hi,hz,hsz,hby⟩:=infB_ok hi;exact x_apS ht hu hi hz hsz hby hx h0 hl (.inr ⟨b,n,es,hs,hb,hn,hn8,h⟩))
/-- a pointer to a block of one's own, turned to unsafe.Pointer -/
theorem x_toU{S D U:TypeId}{x:Operand}{b T sz:Nat}{st:Sta}{es:List (List V)}{j:TypeInfo}{K:V→Mem→Prop}(hx:evO t x= .ptr b 0 0)(hb:m[b]?=some (.cells st T sz es))(he:es≠[])(hS:P.underlying S=some (.pointer U))(hD:P.underlying D=some .unsafePointer)(hi:P.info? U=some j)(hj:j.size≠0)(h:K (.ptr b 0 0) m):XOp P t m (.convert S D x) K:=by
  refine⟨fun c=>by simp,fun w ρ a o ho hM hTm=>?_⟩
  have hrx:=evO_rel hTm x;rw [hx] at hrx
  obtain⟨r,cur,k1,k2,k3,k4,k5,k6, -, -, -⟩:=hM.cells b _ _ _ _ hb
  have hp:0<es.length:=List.length_pos_iff.2 he
  have hc:0<cur.size:=by rw [k5];exact Nat.mul_pos (by omega) k3
  generalize hv:a.eval x=ex at hrx
  cases hrx with
  | ptr _ _ _ r' hr'=>
    obtain rfl:r=r':=by rw [k1] at hr';injection hr'
    refine⟨.value (.pointer (some ⟨r.blk,0 * r.sz+0,none⟩)),w,.ptr b 0 0,m,ρ,?_,h,After.refl hM,.inl ⟨_,rfl,.ptr _ _ _ r k1⟩⟩
    simp only [execOp,ho,hv]
    exact run_v (Lib.run_to_unsafe (e:=T) (cells:=cur.size) w ⟨r.blk,0 * r.sz+0,none⟩ hS hD hi hj (by simp [World.shape?,k4]) (by simpa using hc))
theorem lies_ok{T c d:Nat}(hd:P.depth=d+1)(hs:P.cellsOf T≠0)(hc:1≤c):liesAt P P.depth T c 0 T 1=true:=by
  have hf:sameLayout P P.depth T T=true:=by rw [hd];unfold sameLayout;simp
  have hr:rowAt P (sameLayout P P.depth · T) P.depth T c 0 1=true:=by
    conv=>lhs;arg 3;rw [hd]
    unfold rowAt
    simp [hs,hc,hf]
  conv=>lhs;arg 2;rw [hd]
  unfold liesAt
  rw [hr]
  rfl
theorem x_frU{S D:TypeId}{x:Operand}{b T sz d:Nat}{st:Sta}{es:List (List V)}{j:TypeInfo}{K:V→Mem→Prop}(hx:evO t x= .ptr b 0 0)(hb:m[b]?=some (.cells st T sz es))(he:es≠[])(hS:P.underlying S=some .unsafePointer)(hD:P.underlying D=some (.pointer T))(hi:P.info? T=some j)(hz:P.cellsOf T=sz)(hdp:P.depth=d+1)(h:K (.ptr b 0 0) m):XOp P t m (.convert S D x) K:=by
  refine⟨fun c=>by simp,fun w ρ a o ho hM hTm=>?_⟩
  have hrx:=evO_rel hTm x;rw [hx] at hrx
  obtain⟨r,cur,k1,k2,k3,k4,k5,k6, -, -, -⟩:=hM.cells b _ _ _ _ hb
  have hp:0<es.length:=List.length_pos_iff.2 he
  generalize hv:a.eval x=ex at hrx
  cases hrx with
  | ptr _ _ _ r' hr'=>
    obtain rfl:r=r':=by rw [k1] at hr';injection hr'
    refine⟨.value (.pointer (some ⟨r.blk,0 * r.sz+0,none⟩)),w,.ptr b 0 0,m,ρ,?_,h,After.refl hM,.inl ⟨_,rfl,.ptr _ _ _ r k1⟩⟩
    simp only [execOp,ho,hv]
    refine run_v (Lib.run_from_unsafe (e:=T) (cells:=cur.size) w ⟨r.blk,0 * r.sz+0,none⟩ hS hD hi (by simp [World.shape?,k4]) ?_)
    have e0:0 * r.sz+0=0:=by omega
    rw [e0]
    refine lies_ok hdp (by omega) ?_
    rw [hz,k5,Nat.mul_div_cancel _ k3]
    omega
/-- a pointer held against itself -/
theorem x_ptE {op:BinOp} {T T' U:TypeId} {x y:Operand} {b:Nat} {j:TypeInfo} {r:Bool} {K:V→Mem→Prop} (ho:resEq op true=some (.bool r)) (hx:evO t x= .ptr b 0 0) (hy:evO t y= .ptr b 0 0) (hT:P.underlying T=some (.pointer U)) (hi:P.info? U=some j) (h:K (.bool r) m):XOp P t m (.binOp op T x y T') K:=by
  refine⟨fun c=>by simp,fun w ρ a o ho' hM hTm=>?_⟩
  have hrx:=evO_rel hTm x;rw [hx] at hrx
  have hry:=evO_rel hTm y;rw [hy] at hry
  have key:∃ z:Value,(do eqGuard op T x y (a.eval x) (a.eval y);binOp op T (a.eval x) (a.eval y):Sem Value).run P w= .ok z w∧RelV w ρ (bad m ρ) (.bool r) z:=by
    generalize a.eval x=ex at hrx
    generalize a.eval y=ey at hry
    cases hrx with
    | ptr _ _ _ r1 hr1=>
      cases hry with
      | ptr _ _ _ r2 hr2=>
        obtain rfl:r1=r2:=by rw [hr1] at hr2;injection hr2
        refine eq_fin (op:=op) ho ?_ ?_ ?_
        · exact run_equal_of fun d=>by simp [Op.equalIn,run_underlying hT,sizeOf,typeInfo,hi,run_sameAddr_same]
        · cases op<;>simp [resEq] at ho<;>simp [eqGuard,go_sem]
        · rintro op (rfl|rfl)<;>simp [binOp]
  obtain⟨z,hr,hv⟩:=key
  refine⟨.value z,w,.bool r,m,ρ,?_,h,After.refl hM,.inl ⟨_,rfl,hv⟩⟩
  simp only [execOp,ho']
  exact run_v hr
theorem s_ptN{T T' U:TypeId}{x y:Operand}{b:Nat}(h:WOs P N ops rest (tput t k (.bool false)) m Q)(hx:evO t x= .ptr b 0 0)(hy:evO t y= .ptr b 0 0)(hd:dOkB N k=true)(hT:P.underlying T=some (.pointer U))(hi:(P.info? U).isSome=true):WOs P N ops (⟨k,.binOp .neq T x y T',ty,pos,af,none⟩::rest) t m Q:=by
  obtain⟨j,hi⟩:=Option.isSome_iff_exists.1 hi
  refine WOs_x (dOk_b hd) (by simp) ?_ rfl (x_ptE (r:=false) rfl hx hy hT hi h)
  rw [ev_binOp,hx,hy]
  rfl
theorem s_pnT{T T':TypeId}{x:Operand}(h:WOs P N ops rest (tput t k (.bool true)) m Q)(hx:evO t x= .nilptr)(hd:dOkB N k=true)(hT:kdT P T=1):WOs P N ops (⟨k,.binOp .eql T x (.const (.pointer none)) T',ty,pos,af,none⟩::rest) t m Q:=
  op_of (dOk_b hd) (p:=True) (m':=m) (by rw [ev_binOp,hx,show evO t (.const (.pointer none))= .nilptr from rfl];simp [evB,evEq,eqV,hT]) trivial h
theorem s_pnF{T T':TypeId}{x:Operand}{b i o:Nat}(h:WOs P N ops rest (tput t k (.bool false)) m Q)(hx:evO t x= .ptr b i o)(hd:dOkB N k=true)(hT:kdT P T=1):WOs P N ops (⟨k,.binOp .eql T x (.const (.pointer none)) T',ty,pos,af,none⟩::rest) t m Q:=
  op_of (dOk_b hd) (p:=True) (m':=m) (by rw [ev_binOp,hx,show evO t (.const (.pointer none))= .nilptr from rfl];simp [evB,evEq,eqV,hT]) trivial h
theorem s_toU{S D U:TypeId}{x:Operand}{b T sz:Nat}{st:Sta}{es:List (List V)}(h:WOs P N ops rest (tput t k (.ptr b 0 0)) m Q)(hx:evO t x= .ptr b 0 0)(hb:m[b]?=some (.cells st T sz es))(he:es≠[])(hd:dOkB N k=true)(hS:P.underlying S=some (.pointer U))(hD:P.underlying D=some .unsafePointer)(hi:(P.info? U).any (fun j=>j.size != 0)=true):WOs P N ops (⟨k,.convert S D x,ty,pos,af,none⟩::rest) t m Q:=by
  obtain⟨j,hi,hj⟩:∃ j,P.info? U=some j∧j.size≠0:=by
    cases hq:P.info? U with
    |none=>rw [hq] at hi;cases hi
    |some j=>rw [hq] at hi;exact⟨j,rfl,by simpa using hi⟩
  refine WOs_x (dOk_b hd) (by simp) ?_ ?_ (x_toU hx hb he hS hD hi hj h)
  · simp only [evA,hx]
    split<;>first|rfl|(rename_i q;cases q)
  · simp only [cvStr,hx]
theorem s_frU{S D:TypeId}{x:Operand}{b T sz:Nat}{st:Sta}{es:List (List V)}(h:WOs P N ops rest (tput t k (.ptr b 0 0)) m Q)(hx:evO t x= .ptr b 0 0)(hb:m[b]?=some (.cells st T sz es))(he:es≠[])(hd:dOkB N k=true)(hS:P.underlying S=some .unsafePointer)(hD:P.underlying D=some (.pointer T))(hi:(P.info? T).isSome=true)(hz:P.cellsOf T=sz)(hdp:(P.depth==0)=false):WOs P N ops (⟨k,.convert S D x,ty,pos,af,none⟩::rest) t m Q:=by
  obtain⟨j,hi⟩:=Option.isSome_iff_exists.1 hi
  have hd0:P.depth≠0:=by simpa using hdp
  obtain⟨d,hdp⟩:=Nat.exists_eq_succ_of_ne_zero hd0
  refine WOs_x (dOk_b hd) (by simp) ?_ ?_ (x_frU hx hb he hS hD hi hz hdp h)
  · simp only [evA,hx]
    split<;>first|rfl|(rename_i q;cases q)
  · simp only [cvStr,hx]
end
section
variable {P:Program} {N:Nat} {ops:Array Oper} {rest:List Oper} {t:List (Nat×V)} {m:Mem} {Q:List (Nat×V)→Mem→Prop} {d:Nat} {g:FuncId} {vs:List V} {v:V}
theorem s_extJ{fs cs:List V}(hc:ExtA P g vs m fun v'=>v'=v)(h:WOs P N ops rest ((d,v)::t) m Q):ArgG P N ops rest t m Q d fs cs g vs:=fun _ _ _ _ _ _ hd hf ha=>WOs_ext hd hf ha hc h
end
end Go.Proofs.YtjonlmpjdhoogaaGreatDoor
