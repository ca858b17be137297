/- contracts: strings.Builder -/
import Derived.Test.YtjonlmpjdhoogaaGreatDoorNJ
import Derived.Test.YtjonlmpjdhoogaaGreatDoorY6
set_option linter.unusedSimpArgs false
set_option linter.unusedVariables false
namespace Go.Proofs.YtjonlmpjdhoogaaGreatDoor
open Go.RowKit
attribute [local irreducible] WA WOs WDs WAn qThen qBlock tput
set_option maxHeartbeats 1000000
set_option maxRecDepth 20000
set_option linter.unusedSimpArgs false
set_option linter.unusedVariables false
set_option maxHeartbeats 4000000
/-- the memory of one who writes into a builder -/
def bdI(A X:Mem)(s:Txt)(M:Mem):Prop:=∃ a v,M=A++(.cells .own 60 2 [[a,v]]::X)∧(a= .nilptr∨a= .ptr A.length 0 0)∧((v= .nilsl∧s=[])∨∃ j,v= .sl (A.length+(j+1)) s.length∧s≠[]∧X[j]?=some (.cells .own 5 1 (u8V s)))
/-- what is no row of bytes stays -/
def kpX(X X':Mem):Prop:=∀ (i:Nat) st T sz es,X[i]?=some (.cells st T sz es)→T≠5→X'[i]?=some (.cells st T sz es)
theorem kpX.refl(X:Mem):kpX X X:=fun _ _ _ _ _ h _=>h
theorem kpX.trans{X Y Z:Mem}(h:kpX X Y)(g:kpX Y Z):kpX X Z:=fun i st T sz es h1 h2=>g i st T sz es (h i st T sz es h1 h2) h2
theorem kpX.ext(X Y:Mem):kpX X (X++Y):=fun i st T sz es h _=>by rw [List.getElem?_append_left (List.getElem?_eq_some_iff.1 h).1];exact h
theorem kpX.set{X:Mem}{j sz:Nat}{st:Sta}{es:List (List V)}(h:X[j]?=some (.cells st 5 sz es))(x:Blk):kpX X (X.set j x):=fun i st' T' sz' es' h1 h2=>by
  rw [List.getElem?_set_ne]
  · exact h1
  · rintro rfl
    rw [h] at h1
    cases h1
    exact h2 rfl
theorem inoesc_x(b:Nat)(m:Mem):ExtA Tryz.prog 64 [.ptr b 0 0] m fun v=>v= .ptr b 0 0:=by
  intro w ρ xs hM hA
  obtain⟨x,rfl⟩:∃ x,xs= #[x]:=by
    have h1:xs.size=1:=hA.1.symm
    exact ⟨xs[0], by apply Array.ext;· simpa using h1
                     · intro i h2 h3;have:i=0:=by simp at h3;omega
                       subst this;rfl⟩
  have hr:=hA.2 0 _ _ rfl rfl
  refine⟨x,_,?_,rfl,hr⟩
  rw [run_callFunc_extern Tryz.func64 (by kernel_rfl) (by kernel_rfl) (by kernel_rfl) (e:=Extern.AbiNoEscape.same) (by kernel_rfl),Lib.run_noEscape]
  rfl
theorem app_first{A X:Mem}{x:Blk}:(A++x::X)[A.length]?=some x:=by simp

theorem zcopy_c(A X:Mem)(a v:V)(n:Nat)(hA:A.length=n)(ha:a= .nilptr∨a= .ptr A.length 0 0):CallA Tryz.prog 45 [.ptr n 0 0] (A++(.cells .own 60 2 [[a,v]]::X)) (fun u mo=>u= .tup []∧mo=some (A++(.cells .own 60 2 [[.ptr A.length 0 0,v]]::X))):=by
  subst hA
  refine CallA_inD Tryz.func45 rfl Tryz.ntmps45 Tryz.results45 (by kernel_rfl) (by simp) fun Q hQ=>?_
  have hz:A.length=A.length:=rfl
  rcases ha with rfl|rfl
  · (have FX:=hz;repeat'(first|(refine sx ?_ ?_<;>intro h<;>first|(exfalso;omega)|skip)|refine ny ?_|refine WA_block ?_))
    refine g_op ?_;refine s_pnT ?_ (by exact lk_) rfl kdT57
    (have FX:=hz;repeat'(first|(refine sx ?_ ?_<;>intro h<;>first|(exfalso;omega)|skip)|refine ny ?_|refine WA_block ?_))
    refine g_op ?_;refine s_toU (T:=60) (U:=60) ?_ (by exact lk_) app_first (by simp) rfl Tryz.underlying57 Tryz.underlying117 (by kernel_rfl)
    (have FX:=hz;repeat'(first|(refine sx ?_ ?_<;>intro h<;>first|(exfalso;omega)|skip)|refine ny ?_|refine WA_block ?_))
    refine g_op ?_;refine g_call ?_;refine g_args ?_;refine s_extJ (inoesc_x _ _) ?_
    (have FX:=hz;repeat'(first|(refine sx ?_ ?_<;>intro h<;>first|(exfalso;omega)|skip)|refine ny ?_|refine WA_block ?_))
    refine g_op ?_;refine s_frU (T:=60) ?_ (by exact lk_) app_first (by simp) rfl Tryz.underlying117 Tryz.underlying57 (by kernel_rfl) (by kernel_rfl) (by kernel_rfl)
    (have FX:=hz;repeat'(first|(refine sx ?_ ?_<;>intro h<;>first|(exfalso;omega)|skip)|refine ny ?_|refine WA_block ?_))
    exact hQ _ _ _ (by first|exact .inl rfl|exact .inr rfl) _ rfl ⟨rfl,rfl⟩
  · (have FX:=hz;repeat'(first|(refine sx ?_ ?_<;>intro h<;>first|(exfalso;omega)|skip)|refine ny ?_|refine WA_block ?_))
    refine g_op ?_;refine s_pnF ?_ (by exact lk_) rfl kdT57
    (have FX:=hz;repeat'(first|(refine sx ?_ ?_<;>intro h<;>first|(exfalso;omega)|skip)|refine ny ?_|refine WA_block ?_))
    refine g_op ?_;refine s_ptN (U:=60) ?_ (by exact lk_) (by exact lk_) rfl Tryz.underlying57 (by kernel_rfl)
    (have FX:=hz;repeat'(first|(refine sx ?_ ?_<;>intro h<;>first|(exfalso;omega)|skip)|refine ny ?_|refine WA_block ?_))
    exact hQ _ _ _ (by first|exact .inl rfl|exact .inr rfl) _ rfl ⟨rfl,rfl⟩
theorem idx_in{A X:Mem}{x:Blk}(j:Nat):(A++x::X)[A.length+(j+1)]?=X[j]?:=by rw [List.getElem?_append_right (by omega),Nat.add_sub_cancel_left];rfl
theorem set_in{A X:Mem}{x y:Blk}(j:Nat):(A++x::X).set (A.length+(j+1)) y=A++x::X.set j y:=by rw [List.set_append_right _ _ (by omega),Nat.add_sub_cancel_left];rfl
theorem len_in{A X:Mem}{x:Blk}:(A++x::X).length=A.length+(X.length+1):=by simp
theorem u8V_app(s t:Txt):u8V s++u8V t=u8V (s++t):=by simp [u8V]

theorem zwstr_c(A X:Mem)(s t:Txt)(M:Mem)(hI:bdI A X s M)(n:Nat)(hA:A.length=n)(ht:t≠[])(hl:t.length≤1000000)(hs:s.length≤1000000):CallA Tryz.prog 18 [.ptr n 0 0,.str t] M (fun u mo=>u= .tup [.int .i64 t.length,.nilif]∧∃ M' X',mo=some M'∧bdI A X' (s++t) M'∧kpX X X'):=by
  subst hA
  obtain⟨a,v,rfl,ha,hv⟩:=hI
  refine CallA_inD Tryz.func18 rfl Tryz.ntmps18 Tryz.results18 (by kernel_rfl) (by simp) fun Q hQ=>?_
  (have FX:=hl;repeat'(first|(refine sx ?_ ?_<;>intro h<;>first|(exfalso;omega)|skip)|refine ny ?_|refine WA_block ?_))
  refine g_op ?_;refine g_call ?_;refine g_args ?_;refine s_fnA (zcopy_c A X a v _ rfl ha) ?_
  rintro u mo ⟨rfl,rfl⟩
  simp only [Option.getD_some]
  rcases hv with ⟨rfl,rfl⟩|⟨j,rfl,h1,h2⟩
  · (have FX:=hl;repeat'(first|(refine sx ?_ ?_<;>intro h<;>first|(exfalso;omega)|skip)|refine ny ?_|refine WA_block ?_))
    refine g_op ?_;refine s_apN (E:=5) ?_ (by exact lk_) (by exact lk_) ht hl rfl (by decide) Tryz.underlying58 Tryz.underlying9 (by kernel_rfl)
    rw [len_in,List.append_assoc,List.cons_append]
    (have FX:=hl;repeat'(first|(refine sx ?_ ?_<;>intro h<;>first|(exfalso;omega)|skip)|refine ny ?_|refine WA_block ?_))
    refine hQ _ _ _ (by first|exact .inl rfl|exact .inr rfl) _ rfl ⟨rfl,_,X++[_],rfl,⟨_,_,rfl,.inr rfl,.inr ⟨X.length,rfl,?_,?_⟩⟩,kpX.ext _ _⟩
    · simpa using ht
    · simp
  · have hln:(u8V s).length=s.length:=u8V_len s
    (have FX:=hl;repeat'(first|(refine sx ?_ ?_<;>intro h<;>first|(exfalso;omega)|skip)|refine ny ?_|refine WA_block ?_))
    refine g_op ?_;refine s_apS (E:=5) (b:=A.length+(j+1)) (n:=s.length) (es:=u8V s) ?_ (by exact lk_) (by rw [idx_in];exact h2) (by rw [hln];exact Nat.le_refl _) (by omega) (by exact lk_) ht hl rfl (by decide) Tryz.underlying58 Tryz.underlying9 (by kernel_rfl)
    rw [len_in,set_in,List.append_assoc,List.cons_append,List.take_of_length_le (by rw [hln];exact Nat.le_refl _),u8V_app,←List.length_append]
    (have FX:=hl;repeat'(first|(refine sx ?_ ?_<;>intro h<;>first|(exfalso;omega)|skip)|refine ny ?_|refine WA_block ?_))
    refine hQ _ _ _ (by first|exact .inl rfl|exact .inr rfl) _ rfl ⟨rfl,_,X.set j .dead++[_],rfl,⟨_,_,rfl,.inr rfl,.inr ⟨X.length,rfl,?_,?_⟩⟩,(kpX.set h2 _).trans (kpX.ext _ _)⟩
    · simpa using fun h=>absurd h h1
    · simp

theorem zwbyte_c(A X:Mem)(s:Txt)(c:UInt8)(M:Mem)(hI:bdI A X s M)(n:Nat)(hA:A.length=n)(hs:s.length≤900000):CallA Tryz.prog 21 [.ptr n 0 0,.int .u8 c.toNat] M (fun u mo=>u= .nilif∧∃ M' X',mo=some M'∧bdI A X' (s++[c]) M'∧kpX X X'):=by
  subst hA
  obtain⟨a,v,rfl,ha,hv⟩:=hI
  refine CallA_inD Tryz.func21 rfl Tryz.ntmps21 Tryz.results21 (by kernel_rfl) (by simp) fun Q hQ=>?_
  (have FX:=hs;repeat'(first|(refine sx ?_ ?_<;>intro h<;>first|(exfalso;omega)|skip)|refine ny ?_|refine WA_block ?_))
  refine g_op ?_;refine g_call ?_;refine g_args ?_;refine s_fnA (zcopy_c A X a v _ rfl ha) ?_
  rintro u mo ⟨rfl,rfl⟩
  simp only [Option.getD_some]
  rcases hv with ⟨rfl,rfl⟩|⟨j,rfl,h1,h2⟩
  · rw [show X=X++[] from(List.append_nil _).symm]
    (have FX:=hs;repeat'(first|(refine sx ?_ ?_<;>intro h<;>first|(exfalso;omega)|skip)|refine ny ?_|refine WA_block ?_))
    refine hQ _ _ _ (by first|exact .inl rfl|exact .inr rfl) _ rfl ⟨rfl,_,X++[_,_],rfl,⟨_,_,rfl,.inr rfl,.inr ⟨X.length+1,rfl,?_,?_⟩⟩,?_⟩
    · simp
    · simp [u8V]
    · exact kpX.ext _ _
  · have hln:(u8V s).length=s.length:=u8V_len s
    have hjl:=(List.getElem?_eq_some_iff.1 h2).1
    have hgj:∀ Y:Mem,(X++Y)[j]?=some (.cells .own 5 1 (u8V s)):=fun Y=>by rw [List.getElem?_append_left hjl];exact h2
    have hsj:∀ (Y:Mem) (z:Blk),(X++Y).set j z=X.set j z++Y:=fun Y z=>List.set_append_left _ _ hjl
    have hlt:(u8V s).take s.length=u8V s:=List.take_of_length_le (by rw [hln];exact Nat.le_refl _)
    rw [show X=X++[] from(List.append_nil _).symm]
    (have FX:=And.intro hs (And.intro hln (And.intro hgj (And.intro hsj hlt)));repeat'(first|(refine sx ?_ ?_<;>intro h<;>first|(exfalso;omega)|skip)|refine ny ?_|refine WA_block ?_))
    refine hQ _ _ _ (by first|exact .inl rfl|exact .inr rfl) _ rfl ⟨rfl,_,X.set j .dead++[_,_],rfl,⟨_,_,rfl,.inr rfl,.inr ⟨X.length+1,?_,?_,?_⟩⟩,?_⟩
    · simp
    · simp
    · simp [u8V]
    · exact(kpX.set h2 _).trans (kpX.ext _ _)
set_option maxRecDepth 100000 in
theorem zstr_nil(b:Nat)(w:World)(c0:w.cell? ⟨b,1,none⟩=some (.slice none 0 0)):Calls Tryz.prog 22 #[.pointer (some ⟨b,0,none⟩)] w fun e w'=>e= .returned (.string ⟨#[]⟩)∧Below w.heap.size w w':=by
  have c1:w.drew.cell? ⟨b,1,none⟩=some (.slice none 0 0):=c0
  have hUS:∀ (W:World) (q:Option Addr),(Builtin.unsafeString_ #[104,3] 9 #[.pointer q,.int .i64 0]).run Tryz.prog W= .ok (.string .empty) W:=fun W q=>Lib.run_unsafeString_none W _ _ _ q
  have hSD:(Builtin.unsafeSliceData_ #[58] 104 #[.slice none 0 0]).run Tryz.prog w.drew= .ok (.pointer none) w.drew:=rfl
  go_enter Tryz.func22,Tryz.ntmps22
  go_wp2
  go_region
  go_wp2
  go_ret
  exact⟨rfl,Below.drew (Below.refl _ w)⟩
set_option maxRecDepth 100000 in
theorem zstr_row(b g cap:Nat)(l:Txt)(cur:Array Value)(w:World)(h0:l≠[])(c0:w.cell? ⟨b,1,none⟩=some (.slice (some ⟨g,0,none⟩) l.length cap))(hg:w.heap[g]?=some (.cells cur 5 (0,0)))(hl:l.length≤cap)(hc:cap≤maxLen)(hs:cur.size=cap * 1)(hcell:∀ j x,l[j]?=some x→w.cell? ((⟨g,0,none⟩:Addr).add j)=some (.int .u8 x.toNat)):Calls Tryz.prog 22 #[.pointer (some ⟨b,0,none⟩)] w fun e w'=>e= .returned (.string ⟨l.toArray⟩)∧w'=w.drew.freeze ⟨g,0,none⟩ l.length:=by
  have hp:0<l.length:=List.length_pos_iff.2 h0
  have c1:w.drew.cell? ⟨b,1,none⟩=some (.slice (some ⟨g,0,none⟩) l.length cap):=c0
  have hSD:(Builtin.unsafeSliceData_ #[58] 104 #[.slice (some ⟨g,0,none⟩) l.length cap]).run Tryz.prog w.drew= .ok (.pointer (some ⟨g,0,none⟩)) w.drew:=Lib.run_unsafeSliceData_row _ _ _ _ _ _ (by omega)
  have hUS:(Builtin.unsafeString_ #[104,3] 9 #[.pointer (some ⟨g,0,none⟩),.int .i64 l.length]).run Tryz.prog w.drew= .ok (.string ⟨l.toArray⟩) (w.drew.freeze ⟨g,0,none⟩ l.length):=by
    refine Lib.run_unsafeString_row w.drew 104 3 9 5 Tryz.underlying104 (by kernel_rfl) g cur.size (by have hg':w.drew.heap[g]?=some (.cells cur 5 (0,0)):=hg;simp [World.shape?,hg']) l h0 (by omega) (by unfold maxLen at hc;omega) hcell
  go_enter Tryz.func22,Tryz.ntmps22
  go_wp2
  go_region
  go_wp2
  go_ret
  exact⟨rfl,rfl⟩
theorem fz_keep{w:World}{g n:Nat}(hn:n≠0):Keep (fun k=>k=g) w (w.drew.freeze ⟨g,0,none⟩ n):=by
  unfold World.freeze
  rw [if_neg hn]
  refine⟨rfl,rfl,rfl,?_,fun k hk h=>?_⟩
  · show _≤(Array.modify _ _ _).size
    rw [Array.size_modify]
    exact Nat.le_refl _
  · show(Array.modify _ _ _)[k]?=_
    rw [Array.getElem?_modify,if_neg (fun q=>h q.symm)]
    rfl
/-- what a builder holds -/
theorem zstring_c (A X:Mem) (s:Txt) (M:Mem) (hI:bdI A X s M) (n:Nat) (hA:A.length=n):CallA Tryz.prog 22 [.ptr n 0 0] M (fun u mo=>u= .str s∧∃ M',mo=some M'):=by
  subst hA
  obtain⟨a,v,rfl,ha,hv⟩:=hI
  refine⟨by kernel_rfl,fun w ρ xs hM hAr=>?_⟩
  have hbc:(A++Blk.cells .own 60 2 [[a,v]]::X)[A.length]?=some (.cells .own 60 2 [[a,v]]):=app_first
  obtain⟨r,cur,k1,k2,k3,k4,k5,k6,k7,k8,k9⟩:=hM.cells _ _ _ _ _ hbc
  obtain⟨-,y,hy1,hy2⟩:=k9 0 1 _ _ rfl rfl
  have hx:xs= #[.pointer (some ⟨r.blk,0,none⟩)]:=by
    apply Array.ext
    · simpa using hAr.1.symm
    · intro i h1 h2
      have hi:i=0:=by simp at h2;omega
      subst hi
      have:=hAr.2 0 _ _ rfl (Array.getElem?_eq_getElem h1)
      generalize xs[0]=z at *
      cases this with
      | ptr _ _ _ r' hr'=>
        obtain rfl:r=r':=by rw [k1] at hr';injection hr'
        simp
  subst hx
  have hc1:w.cell? ⟨r.blk,1,none⟩=some y:=by
    simp only [World.cell?,k4]
    simpa using hy1
  rcases hv with ⟨rfl,rfl⟩|⟨j,rfl,h1,h2⟩
  · cases hy2
    refine(zstr_nil r.blk w hc1).mono ?_
    rintro e w' ⟨rfl,hb⟩
    refine⟨.str [],_,_,rfl,⟨rfl,_,rfl⟩,.inr ⟨_,ρ,rfl,After.of_same hM hb,.str _ _ rfl⟩⟩
  · have hjc:(A++Blk.cells .own 60 2 [[a,.sl (A.length+(j+1)) s.length]]::X)[A.length+(j+1)]?=some (.cells .own 5 1 (u8V s)):=by rw [idx_in];exact h2
    obtain⟨r2,cur2,q1,q2,q3,q4,q5,q6,q7,q8,q9⟩:=hM.cells _ _ _ _ _ hjc
    generalize hM0:A++Blk.cells .own 60 2 [[a,.sl (A.length+(j+1)) s.length]]::X=M0 at *
    cases hy2 with
    | sl _ _ r3 hr3 hn3 hm3=>
      obtain rfl:r2=r3:=by rw [q1] at hr3;injection hr3
      have hcell:∀ i x,s[i]?=some x→w.cell? ((⟨r2.blk,0,none⟩:Addr).add i)=some (.int .u8 x.toNat):=fun i x hi=>by
        obtain⟨-,z,hz1,hz2⟩:=q9 i 0 [V.int .u8 x.toNat] _ (by rw [u8V,List.getElem?_map,hi];rfl) rfl
        cases hz2
        have ea:((⟨r2.blk,0,none⟩:Addr).add i)=⟨r2.blk,i,none⟩:=by by_cases h:i=0<;>simp [Addr.add,h]
        rw [ea]
        simp only [World.cell?,q4]
        simpa using hz1
      refine(zstr_row r.blk r2.blk r2.cap s cur2 w h1 hc1 q4 hn3 hm3 q5 hcell).mono ?_
      rintro e w' ⟨rfl,rfl⟩
      have hhas:has (wrB (some 5)) M0 ρ r2.blk:=⟨_,_,r2,hjc,rfl,q1,rfl⟩
      have hkeep:Keep (fun k=>k=r2.blk) w (w.drew.freeze ⟨r2.blk,0,none⟩ s.length):=fz_keep (fun q=>h1 (List.length_eq_zero_iff.1 q))
      obtain⟨g1,g2⟩:=hM.kill (D:=fun k=>k=r2.blk) (fun k hk=>by subst hk;exact hhas) hkeep
      have hkb:∀ (p:Blk→Bool),(∀ x,p x=true→x≠ .dead)→∀ k,has p (killM (some 5) M0) ρ k→has p M0 ρ k:=by
        rintro p hp k ⟨b,blk,r,a1,a2,a3,a4⟩
        exact⟨b,blk,r,(kill_get a1 (hp _ a2)).1,a2,a3,a4⟩
      refine⟨.str s,_,_,rfl,⟨rfl,_,rfl⟩,.inr ⟨_,ρ,rfl,⟨⟨hkeep.os,hkeep.tape,hkeep.output,hkeep.size,fun k hk hn=>hkeep.block k hk (fun q=>hn (by
        subst q
        obtain⟨b,blk,r,a1,a2,a3,a4⟩:=hhas
        exact⟨b,blk,r,a1,wrB_own a2,a3,a4⟩))⟩,fun _ _ h=>h,g1,fun k _ h=>hkb _ (fun x hx=>Blk.live_of_bad (Blk.bad_of_own hx)) k h,fun k _ h=>hkb _ (fun x hx=>Blk.live_of_bad hx) k h⟩,.str _ _ (by simp)⟩⟩
end Go.Proofs.YtjonlmpjdhoogaaGreatDoor
