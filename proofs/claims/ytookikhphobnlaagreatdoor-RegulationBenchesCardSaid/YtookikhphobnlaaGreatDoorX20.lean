/- contract: the reference writes a bench -/
import Derived.Test.YtookikhphobnlaaGreatDoorX19
set_option linter.unusedSimpArgs false
set_option linter.unusedVariables false
namespace Go.Proofs.YtookikhphobnlaaGreatDoor
open Go.RowKit
attribute [local irreducible] WA WOs WDs WAn qThen qBlock tput
set_option maxHeartbeats 1000000
set_option maxRecDepth 20000
set_option linter.unusedSimpArgs false
set_option linter.unusedVariables false
set_option maxHeartbeats 8000000
def prM(l:List MsR):Txt:=l.flatMap fun x=>joinS (mlW x)++[10]
def prA(l:List AdR):Txt:=l.flatMap fun x=>joinS (alW x)++[10]
theorem printB_eq(b:BnR):printB b=prM b.ms++prA b.ads:=by
  simp [printB,linesB,prM,prA,List.flatMap_append,List.flatMap_map]
def effT(l:List EfR):Txt:=l.flatMap fun e=>[32,111,110,32]++e.meas++[32]++Lib.itoa e.by_
def afT(l:List Txt):Txt:=l.flatMap fun t=>[32,97,102,116,101,114,32]++t
def adH(x:AdR):Txt:=[97,100,106,117,115,116,32]++x.name++[32]++Lib.itoa x.least++[32]++Lib.itoa x.most++[32]++Lib.itoa x.pass
theorem join_app:∀ (a:List Txt) (b:List Txt),a≠[]→joinS (a++b)=joinS a++(b.flatMap fun w=>32::w)
  |[],_,h=>absurd rfl h
  |[w],[],_=>by simp [joinS]
  | [w],x::r,_=>by
    have ih:=join_app [x] r (by simp)
    show w++32::joinS (x::r)=w++_
    rw [show x::r=[x]++r from rfl,ih]
    simp [joinS]
  | w::y::a,b,_=>by
    have ih:=join_app (y::a) b (by simp)
    show w++32::joinS (y::a++b)=(w++32::joinS (y::a))++_
    rw [ih]
    simp
theorem effT_eq:∀ l:List EfR,((effW l).flatMap fun w=>32::w)=effT l
  |[]=>rfl
  | e::r=>by
    simp only [effW,effT,List.flatMap_cons,effT_eq r]
    simp [effT,onT]
theorem afT_eq:∀ l:List Txt,((afW l).flatMap fun w=>32::w)=afT l
  |[]=>rfl
  | e::r=>by
    simp only [afW,afT,List.flatMap_cons,afT_eq r]
    simp [afT,afterT]
theorem alW_eq(x:AdR):joinS (alW x)=adH x++effT x.effs++afT x.after:=by
  have e:alW x=[adjustT,x.name,Lib.itoa x.least,Lib.itoa x.most,Lib.itoa x.pass]++(effW x.effs++afW x.after):=rfl
  rw [e,join_app _ _ (by simp),List.flatMap_append,effT_eq,afT_eq]
  simp [joinS,adH,adjustT]
theorem mlW_eq(x:MsR):joinS (mlW x)=[109,101,97,115,117,114,101,32]++x.name++[32]++Lib.itoa x.val++[32]++Lib.itoa x.low++[32]++Lib.itoa x.high:=by
  simp [mlW,joinS,measureT]
theorem prM_snoc(l:List MsR)(x:MsR):prM (l++[x])=prM l++[109,101,97,115,117,114,101,32]++x.name++[32]++Lib.itoa x.val++[32]++Lib.itoa x.low++[32]++Lib.itoa x.high++[10]:=by
  simp [prM,List.flatMap_append,mlW_eq]
theorem prA_snoc(l:List AdR)(x:AdR):prA (l++[x])=prA l++adH x++effT x.effs++afT x.after++[10]:=by
  simp [prA,List.flatMap_append,alW_eq]
theorem effT_snoc(l:List EfR)(e:EfR):effT (l++[e])=effT l++[32,111,110,32]++e.meas++[32]++Lib.itoa e.by_:=by
  simp [effT,List.flatMap_append]
theorem afT_snoc(l:List Txt)(t:Txt):afT (l++[t])=afT l++[32,97,102,116,101,114,32]++t:=by
  simp [afT,List.flatMap_append]
theorem flat_len{α:Type}(f:α→Txt)(L:Nat):∀ l:List α,(∀ x∈l,(f x).length≤L)→(l.flatMap f).length≤l.length * L
  |[],_=>Nat.zero_le _
  | x::r,h=>by
    have h1:=h x List.mem_cons_self
    have h2:=flat_len f L r fun y hy=>h y (List.mem_cons_of_mem _ hy)
    have e:(x::r).length * L=r.length * L+L:=Nat.succ_mul _ _
    rw [List.flatMap_cons,List.length_append,e]
    omega
theorem take_snX{α:Type}{l:List α}{d:α}{i:Nat}(h:i<l.length):l.take (i+1)=l.take i++[l.getD i d]:=by
  rw [List.take_succ_eq_append_getElem h,List.getD_eq_getElem?_getD,List.getElem?_eq_getElem h];rfl
theorem prM_take{b:BnR}(h:BWr b)(i:Nat):(prM (b.ms.take i)).length≤12000:=by
  have:=flat_len (fun x=>joinS (mlW x)++[10]) 1000 (b.ms.take i) fun x hx=>by
    have:=mlW_len (h.m x (List.mem_of_mem_take hx))
    simp;omega
  have h2:(b.ms.take i).length * 1000≤12 * 1000:=Nat.mul_le_mul_right _ (by rw [List.length_take];have:=h.fm;omega)
  exact Nat.le_trans this h2
theorem prA_take{b:BnR}(h:BWr b)(i:Nat):(prA (b.ads.take i)).length≤12000:=by
  have:=flat_len (fun x=>joinS (alW x)++[10]) 1000 (b.ads.take i) fun x hx=>by
    have:=alW_len (h.a x (List.mem_of_mem_take hx))
    simp;omega
  have h2:(b.ads.take i).length * 1000≤12 * 1000:=Nat.mul_le_mul_right _ (by rw [List.length_take];have:=h.fa;omega)
  exact Nat.le_trans this h2
theorem eff_take{x:AdR}(h:AWr x)(k:Nat):(effT (x.effs.take k)).length≤600:=by
  have:=flat_len (fun e:EfR=>[32,111,110,32]++e.meas++[32]++Lib.itoa e.by_) 30 (x.effs.take k) fun e he=>by
    have h1:=h.e e (List.mem_of_mem_take he)
    have h2:=h1.1.2.1
    have h3:=itoa_len (n:=e.by_) (by omega)
    simp;omega
  have h2:(x.effs.take k).length * 30≤12 * 30:=Nat.mul_le_mul_right _ (by rw [List.length_take];have:=h.fe;omega)
  exact Nat.le_trans (Nat.le_trans this h2) (by decide)
theorem af_take{x:AdR}(h:AWr x)(k:Nat):(afT (x.after.take k)).length≤600:=by
  have:=flat_len (fun t:Txt=>[32,97,102,116,101,114,32]++t) 30 (x.after.take k) fun e he=>by
    have h2:=(h.a e (List.mem_of_mem_take he)).2.1
    simp;omega
  have h2:(x.after.take k).length * 30≤12 * 30:=Nat.mul_le_mul_right _ (by rw [List.length_take];have:=h.fa;omega)
  exact Nat.le_trans (Nat.le_trans this h2) (by decide)
def rqA(u:Txt)(i k:Nat):List TV:=[.ptr 0 0 0,.v (.str []),.v (.str u),.v (.int .i64 i),.ptr 1 0 0,.v (.int .i64 k)]
def rqB(b:BnR)(x:AdR):List TB:=[.cells .own 28 2 [[.v (.lst (mssV b.ms)),.v (.lst (adsV b.ads))]],.cells .own 78 6 [[.v (.str x.name),.v (.lst (efsV x.effs)),.v (.int .i64 x.least),.v (.int .i64 x.most),.v (.int .i64 x.pass),.v (.lst (tsV x.after))]]]
def rqS(j:Nat)(s:Txt)(i:Nat):List TV:=[.ptr 0 0 0,.v (.str []),.v (.str s),.v (.int .i64 i)]
def rqE(b:BnR):List TB:=[.cells .own 28 2 [[.v (.lst (mssV b.ms)),.v (.lst (adsV b.ads))]]]
theorem uX20_22_6{N:Nat}{l:List Oper}{t:List (Nat×V)}{m:Mem}{Q:Exit→List (Nat×V)→Mem→Prop}(h:RgN Tryz.prog N l t m Q (fun i=>if i==1 || i==3 || i==4 || i==5 || i==7 || i==8 || i==9 || i==10 || i==12 || i==13 || i==14 || i==15 || i==17 || i==18 || i==19 || i==20 then .q else .p) [.one 0,.one 1,.one 2,.one 3,.one 4,.one 5,.one 6,.one 7,.one 8,.one 9,.one 10,.one 11,.one 12,.one 13,.one 14,.one 15,.one 16,.one 17,.one 18,.one 19,.one 20,.one 21]):WA Tryz.prog N (.region 6 l.toArray true) t m Q:=d_rgN h
theorem uX20_22_11{N:Nat}{l:List Oper}{t:List (Nat×V)}{m:Mem}{Q:Exit→List (Nat×V)→Mem→Prop}(h:RgN Tryz.prog N l t m Q (fun i=>if i==1 || i==3 || i==4 || i==5 || i==7 || i==8 || i==9 || i==10 || i==12 || i==13 || i==14 || i==15 || i==17 || i==18 || i==19 then .q else .p) [.one 0,.one 1,.one 2,.one 3,.one 4,.one 5,.one 6,.one 7,.one 8,.one 9,.one 10,.one 11,.one 12,.one 13,.one 14,.one 15,.one 16,.one 17,.one 18,.one 19,.one 20]):WA Tryz.prog N (.region 11 l.toArray true) t m Q:=d_rgN h
theorem uX20_22_15{N:Nat}{l:List Oper}{t:List (Nat×V)}{m:Mem}{Q:Exit→List (Nat×V)→Mem→Prop}(h:RgN Tryz.prog N l t m Q (fun i=>if i==1 || i==3 || i==7 || i==8 || i==9 || i==11 || i==15 || i==16 || i==17 then .q else .p) [.one 0,.one 1,.one 2,.one 3,.one 4,.one 5,.one 6,.one 7,.one 8,.one 9,.one 10,.one 11,.one 12,.one 13,.one 14,.one 15,.one 16,.one 17,.one 18]):WA Tryz.prog N (.region 15 l.toArray true) t m Q:=d_rgN h
theorem rprint_c (b:BnR) (hb:BWr b) (m:Mem):Gives Tryz.prog 22 [.agg [.lst (mssV b.ms),.lst (adsV b.ads)]] m (.str (printB b)):=by
  have hfm:=hb.fm
  have hfa:=hb.fa
  have hlm:=mssV_length (l:=b.ms)
  have hla:=adsV_length (l:=b.ads)
  suffices key:CallA Tryz.prog 22 [.agg [.lst (mssV b.ms),.lst (adsV b.ads)]] m (fun v mo=>mo=none∧WkV v (.str (printB b))) from Gives_ofX key fun v mo h=>h
  refine CallA_in Tryz.func22 rfl Tryz.ntmps22 Tryz.results22 (by kernel_rfl) (by simp) fun Q hQ=>?_
  (repeat'(first|(refine sx ?_ ?_<;>intro h<;>first|(exfalso;omega)|skip)|refine ny ?_|refine WA_block ?_|(refine uX20_22_6 ?_;refine⟨by kernel_rfl,?_⟩)|(refine uX20_22_11 ?_;refine⟨by kernel_rfl,?_⟩)|(refine uX20_22_15 ?_;refine⟨by kernel_rfl,?_⟩)))
  refine WA_whileT (σ:=Nat) (L:=lend m) [1,2,3,4] (fun i=>rqS 0 (prM (b.ms.take i)) i) (fun _=>rqE b) (fun i=>i≤b.ms.length) (fun i=>b.ms.length - i) 0 (Nat.zero_le _) (by simp only [rqS,List.map_cons,List.map_nil,TV.inst];exact tv_) rfl (by decide) (fun _ _=>rfl) (fun _ _=>rfl) ?_
  rintro i hi B ⟨D,hB⟩ K hK
  rcases Nat.lt_or_ge i b.ms.length with hlt|hge
  · have hga:=mssV_get hlt
    have hmw:=hb.m (b.ms.getD i msz) (by rw [List.getD_eq_getElem?_getD,List.getElem?_eq_getElem hlt];exact List.getElem_mem _)
    have hsn:=prM_snoc (b.ms.take i) (b.ms.getD i msz)
    rw [←take_snX hlt] at hsn
    have hpl:=prM_take hb i
    have hpn:=prM_take hb (i+1)
    generalize b.ms.getD i msz=x at *
    obtain⟨nm,va,lo,hg⟩:=x
    have d1:=fun m=>bdec_c va (by have:=hmw.v;dsimp only at this;omega) m
    have d2:=fun m=>bdec_c lo (by have:=hmw.l;dsimp only at this;omega) m
    have d3:=fun m=>bdec_c hg (by have:=hmw.h;dsimp only at this;omega) m
    have l0:nm.length≤12:=hmw.n.2.1
    have l1:(Lib.itoa va).length≤12:=itoa_len hmw.v
    have l2:(Lib.itoa lo).length≤12:=itoa_len hmw.l
    have l3:(Lib.itoa hg).length≤12:=itoa_len hmw.h
    have hap:∀ a b:Txt,(a++b).length=a.length+b.length:=fun a b=>List.length_append
    have k1:([109,101,97,115,117,114,101,32]:Txt).length=8:=rfl
    have k2:([32]:Txt).length=1:=rfl
    have k3:([10]:Txt).length=1:=rfl
    unfold msV at hga
    dsimp only at hga hsn
    clear hmw
    generalize Lib.itoa va=t1 at *
    generalize Lib.itoa lo=t2 at *
    generalize Lib.itoa hg=t3 at *
    generalize prM (b.ms.take i)=s at *
    simp only [rqS,rqE]
    simp only [List.map_cons,List.map_nil,TB.inst,TV.inst,tv_map,zipT,List.cons_append,List.nil_append,Nat.add_zero]
    (have FX:=And.intro hfm (And.intro hlm (And.intro hga (And.intro hpl (And.intro l0 (And.intro l1 (And.intro l2 (And.intro l3 (And.intro k1 (And.intro k2 (And.intro k3 (And.intro hap (And.intro hi hlt))))))))))));repeat'(first|(refine sx ?_ ?_<;>intro h<;>first|(exfalso;omega)|skip)|(refine g_op ?_;refine g_call ?_;refine g_args ?_;(first|refine s_fn (d1 _) ?_|refine s_fn (d2 _) ?_|refine s_fn (d3 _) ?_)<;>try first|omega|assumption)|refine ny ?_|refine WA_block ?_|(refine uX20_22_6 ?_;refine⟨by kernel_rfl,?_⟩)|(refine uX20_22_11 ?_;refine⟨by kernel_rfl,?_⟩)|(refine uX20_22_15 ?_;refine⟨by kernel_rfl,?_⟩)|((first|refine grp_cons (fun _=>d1 _) ?_|refine grp_cons (fun _=>d2 _) ?_|refine grp_cons (fun _=>d3 _) ?_)<;>try first|omega|assumption)|(refine g_d ?_;refine d_args ?_;(first|refine d_fn (d1 _) ?_|refine d_fn (d2 _) ?_|refine d_fn (d3 _) ?_|refine d_fnQ (fun _=>d1 _) ?_|refine d_fnQ (fun _=>d2 _) ?_|refine d_fnQ (fun _=>d3 _) ?_)<;>try first|omega|assumption)|(refine g_d ?_;(first|refine d_fnY (d1 _) ?_|refine d_fnY (d2 _) ?_|refine d_fnY (d3 _) ?_)<;>try first|omega|assumption)))
    have hnz:=fun(_:Unit)=>hK (i+1)
    rw [←hsn]
    (refine nextU_ hnz (()) [0] (hlt) (by omega) ?_ (ht:=?_);(focus (simp only [rqE,List.map_cons,List.map_nil,TB.inst,TV.inst,tv_map,List.cons_append,List.nil_append];first|rfl|(simp [ptsV,ptV];done)|(simp [hpsV,hpV];done)|(simp [frsV,frV];done)|(simp [txV];done)|(simp [prtsV,prtV];done)));(simp only [rqS,List.map_cons,List.map_nil,TV.inst,List.getD_cons_zero,List.getD_cons_succ];exact tv_))
  · obtain rfl:i=b.ms.length:=by omega
    rw [List.take_of_length_le (Nat.le_refl _)]
    clear hK
    have hpl:(prM b.ms).length≤12000:=by have:=prM_take hb b.ms.length;rwa [List.take_of_length_le (Nat.le_refl _)] at this
    rw [printB_eq] at hQ
    generalize prM b.ms=s0 at *
    simp only [rqS,rqE]
    simp only [List.map_cons,List.map_nil,TB.inst,TV.inst,tv_map,zipT,List.cons_append,List.nil_append,Nat.add_zero]
    (have FX:=And.intro hlm hpl;repeat'(first|(refine sx ?_ ?_<;>intro h<;>first|(exfalso;omega)|skip)|refine ny ?_|refine WA_block ?_|(refine uX20_22_6 ?_;refine⟨by kernel_rfl,?_⟩)|(refine uX20_22_11 ?_;refine⟨by kernel_rfl,?_⟩)|(refine uX20_22_15 ?_;refine⟨by kernel_rfl,?_⟩)))
    all_goals(try(exfalso;omega))
    clear FX
    refine WA_whileT (σ:=Nat) (L:=B) [1,2,3,6] (fun i=>rqS 0 (s0++prA (b.ads.take i)) i) (fun _=>rqE b) (fun i=>i≤b.ads.length) (fun i=>b.ads.length - i) 0 (Nat.zero_le _) (by simp only [rqS,prA,List.take_zero,List.flatMap_nil,List.append_nil,List.map_cons,List.map_nil,TV.inst];exact tv_) rfl (by decide) (fun _ _=>rfl) (fun _ _=>rfl) ?_
    rintro i hi B2 ⟨D2,hB2⟩ K2 hK2
    rcases Nat.lt_or_ge i b.ads.length with hlt|hge2
    · have hga:=adsV_get hlt
      have haw:=hb.a (b.ads.getD i adz) (by rw [List.getD_eq_getElem?_getD,List.getElem?_eq_getElem hlt];exact List.getElem_mem _)
      have hsn:=prA_snoc (b.ads.take i) (b.ads.getD i adz)
      rw [←take_snX hlt] at hsn
      have hpa:=prA_take hb i
      generalize b.ads.getD i adz=x at *
      have hxe:=eff_take haw
      have hxa:=af_take haw
      have hxe1:=haw.e
      have hxa1:=haw.a
      have hxf:=haw.fe
      have hxg:=haw.fa
      obtain⟨nm,ef,le,mo,pa,af⟩:=x
      dsimp only at hxe hxa hxe1 hxa1 hxf hxg
      have d1:=fun m=>bdec_c le (by have:=haw.l;dsimp only at this;omega) m
      have d2:=fun m=>bdec_c mo (by have:=haw.m;dsimp only at this;omega) m
      have d3:=fun m=>bdec_c pa (by have:=haw.p;dsimp only at this;omega) m
      have l0:nm.length≤12:=haw.n.2.1
      have l1:(Lib.itoa le).length≤12:=itoa_len (by have:=haw.l;dsimp only at this;omega)
      have l2:(Lib.itoa mo).length≤12:=itoa_len (by have:=haw.m;dsimp only at this;omega)
      have l3:(Lib.itoa pa).length≤12:=itoa_len (by have:=haw.p;dsimp only at this;omega)
      have hap:∀ a b:Txt,(a++b).length=a.length+b.length:=fun a b=>List.length_append
      have k1:([97,100,106,117,115,116,32]:Txt).length=7:=rfl
      have k2:([32]:Txt).length=1:=rfl
      have k3:([10]:Txt).length=1:=rfl
      unfold adV at hga
      dsimp only at hga hsn
      have hH:∀ s:Txt,s++[97,100,106,117,115,116,32]++nm++[32]++Lib.itoa le++[32]++Lib.itoa mo++[32]++Lib.itoa pa=s++adH ⟨nm,ef,le,mo,pa,af⟩:=fun s=>by simp [adH]
      have hHl:(adH ⟨nm,ef,le,mo,pa,af⟩).length≤100:=by simp [adH];omega
      clear haw
      generalize adH ⟨nm,ef,le,mo,pa,af⟩=hd at *
      generalize Lib.itoa le=t1 at *
      generalize Lib.itoa mo=t2 at *
      generalize Lib.itoa pa=t3 at *
      have hs1:(s0++prA (b.ads.take i)).length≤24000:=by rw [List.length_append];omega
      have hsn2:s0++prA (b.ads.take (i+1))=s0++prA (b.ads.take i)++hd++effT ef++afT af++[10]:=by rw [hsn];simp
      clear hsn hpa
      generalize s0++prA (b.ads.take i)=s at *
      simp only [rqS,rqE]
      simp only [List.map_cons,List.map_nil,TB.inst,TV.inst,tv_map,zipT,List.cons_append,List.nil_append,Nat.add_zero]
      (have FX:=And.intro hfa (And.intro hla (And.intro hga (And.intro hs1 (And.intro l0 (And.intro l1 (And.intro l2 (And.intro l3 (And.intro k1 (And.intro k2 (And.intro k3 (And.intro hap (And.intro hi hlt))))))))))));repeat'(first|(refine sx ?_ ?_<;>intro h<;>first|(exfalso;omega)|skip)|(refine g_op ?_;refine g_call ?_;refine g_args ?_;(first|refine s_fn (d1 _) ?_|refine s_fn (d2 _) ?_|refine s_fn (d3 _) ?_)<;>try first|omega|assumption)|refine ny ?_|refine WA_block ?_|(refine uX20_22_6 ?_;refine⟨by kernel_rfl,?_⟩)|(refine uX20_22_11 ?_;refine⟨by kernel_rfl,?_⟩)|(refine uX20_22_15 ?_;refine⟨by kernel_rfl,?_⟩)|((first|refine grp_cons (fun _=>d1 _) ?_|refine grp_cons (fun _=>d2 _) ?_|refine grp_cons (fun _=>d3 _) ?_)<;>try first|omega|assumption)|(refine g_d ?_;refine d_args ?_;(first|refine d_fn (d1 _) ?_|refine d_fn (d2 _) ?_|refine d_fn (d3 _) ?_|refine d_fnQ (fun _=>d1 _) ?_|refine d_fnQ (fun _=>d2 _) ?_|refine d_fnQ (fun _=>d3 _) ?_)<;>try first|omega|assumption)|(refine g_d ?_;(first|refine d_fnY (d1 _) ?_|refine d_fnY (d2 _) ?_|refine d_fnY (d3 _) ?_)<;>try first|omega|assumption)))
      rw [hH]
      have hul:(s++hd).length≤25000:=by rw [List.length_append];omega
      clear FX hH hHl hs1
      generalize hug:s++hd=u at *
      have hap2:=hap
      refine WA_whileT (σ:=Nat) (L:=B2) [1,2,3,6,7,8] (fun k=>rqA (u++effT (ef.take k)) i k) (fun _=>rqB b ⟨nm,ef,le,mo,pa,af⟩) (fun k=>k≤ef.length) (fun k=>ef.length - k) 0 (Nat.zero_le _) (by simp only [rqA,effT,List.take_zero,List.flatMap_nil,List.append_nil,List.map_cons,List.map_nil,TV.inst];exact tv_) rfl (by decide) (fun _ _=>rfl) (fun _ _=>rfl) ?_
      rintro k hk B3 ⟨D3,hB3⟩ K3 hK3
      have hle:=efsV_length (l:=ef)
      rcases Nat.lt_or_ge k ef.length with hkl|hkg
      · have hgk:=efsV_get hkl
        have hew:=hxe1 (ef.getD k efz) (by rw [List.getD_eq_getElem?_getD,List.getElem?_eq_getElem hkl];exact List.getElem_mem _)
        have hsk:=effT_snoc (ef.take k) (ef.getD k efz)
        rw [←take_snX hkl] at hsk
        have hxk:=hxe k
        generalize ef.getD k efz=e at *
        obtain⟨me,by_⟩:=e
        have d4:=fun m=>bdec_c by_ (by have:=hew.2;dsimp only at this;omega) m
        have l4:me.length≤12:=hew.1.2.1
        have l5:(Lib.itoa by_).length≤12:=itoa_len (by have:=hew.2;dsimp only at this;omega)
        have k4:([32,111,110,32]:Txt).length=4:=rfl
        unfold efV at hgk
        dsimp only at hgk hsk
        have hsk2:u++effT (ef.take k)++[32,111,110,32]++me++[32]++Lib.itoa by_=u++effT (ef.take (k+1)):=by rw [hsk];simp
        clear hew hsk
        generalize Lib.itoa by_=t4 at *
        simp only [rqA,rqB]
        simp only [List.map_cons,List.map_nil,TB.inst,TV.inst,tv_map,zipT,List.cons_append,List.nil_append,Nat.add_zero]
        (have FX:=And.intro hle (And.intro hgk (And.intro hul (And.intro hxk (And.intro l4 (And.intro l5 (And.intro k2 (And.intro k4 (And.intro hap (And.intro hk (And.intro hkl hxf))))))))));repeat'(first|(refine sx ?_ ?_<;>intro h<;>first|(exfalso;omega)|skip)|(refine g_op ?_;refine g_call ?_;refine g_args ?_;(first|refine s_fn (d4 _) ?_)<;>try first|omega|assumption)|refine ny ?_|refine WA_block ?_|(refine uX20_22_6 ?_;refine⟨by kernel_rfl,?_⟩)|(refine uX20_22_11 ?_;refine⟨by kernel_rfl,?_⟩)|(refine uX20_22_15 ?_;refine⟨by kernel_rfl,?_⟩)|((first|refine grp_cons (fun _=>d4 _) ?_)<;>try first|omega|assumption)|(refine g_d ?_;refine d_args ?_;(first|refine d_fn (d4 _) ?_|refine d_fnQ (fun _=>d4 _) ?_)<;>try first|omega|assumption)|(refine g_d ?_;(first|refine d_fnY (d4 _) ?_)<;>try first|omega|assumption)))
        rw [hsk2]
        have hnz:=fun(_:Unit)=>hK3 (k+1)
        (refine nextU_ hnz (()) [0,1] (hkl) (by omega) ?_ (ht:=?_);(focus (simp only [rqB,List.map_cons,List.map_nil,TB.inst,TV.inst,tv_map,List.cons_append,List.nil_append];first|rfl|(simp [ptsV,ptV];done)|(simp [hpsV,hpV];done)|(simp [frsV,frV];done)|(simp [txV];done)|(simp [prtsV,prtV];done)));(simp only [rqA,List.map_cons,List.map_nil,TV.inst,List.getD_cons_zero,List.getD_cons_succ];exact tv_))
      · obtain rfl:k=ef.length:=by omega
        rw [List.take_of_length_le (Nat.le_refl _)]
        have hxk:=hxe ef.length
        rw [List.take_of_length_le (Nat.le_refl _)] at hxk
        clear hK3 hxe
        have hvl:(u++effT ef).length≤26000:=by rw [List.length_append];omega
        generalize u++effT ef=v at *
        simp only [rqA,rqB]
        simp only [List.map_cons,List.map_nil,TB.inst,TV.inst,tv_map,zipT,List.cons_append,List.nil_append,Nat.add_zero]
        (have FX:=And.intro hle hvl;repeat'(first|(refine sx ?_ ?_<;>intro h<;>first|(exfalso;omega)|skip)|refine ny ?_|refine WA_block ?_|(refine uX20_22_6 ?_;refine⟨by kernel_rfl,?_⟩)|(refine uX20_22_11 ?_;refine⟨by kernel_rfl,?_⟩)|(refine uX20_22_15 ?_;refine⟨by kernel_rfl,?_⟩)))
        all_goals(try(exfalso;omega))
        clear FX
        refine WA_whileT (σ:=Nat) (L:=B3) [1,2,3,6,7,9] (fun k=>rqA (v++afT (af.take k)) i k) (fun _=>rqB b ⟨nm,ef,le,mo,pa,af⟩) (fun k=>k≤af.length) (fun k=>af.length - k) 0 (Nat.zero_le _) (by simp only [rqA,afT,List.take_zero,List.flatMap_nil,List.append_nil,List.map_cons,List.map_nil,TV.inst];exact tv_) rfl (by decide) (fun _ _=>rfl) (fun _ _=>rfl) ?_
        rintro q hq B4 ⟨D4,hB4⟩ K4 hK4
        have hlf:=tsV_length (l:=af)
        rcases Nat.lt_or_ge q af.length with hql|hqg
        · have hgq:=tsV_get hql
          have hew:=(hxa1 (af.getD q []) (by rw [List.getD_eq_getElem?_getD,List.getElem?_eq_getElem hql];exact List.getElem_mem _)).2.1
          have hsk:=afT_snoc (af.take q) (af.getD q [])
          rw [←take_snX hql] at hsk
          have hxq:=hxa q
          generalize af.getD q []=tt at *
          have k5:([32,97,102,116,101,114,32]:Txt).length=7:=rfl
          have hsk2:v++afT (af.take q)++[32,97,102,116,101,114,32]++tt=v++afT (af.take (q+1)):=by rw [hsk];simp
          clear hsk
          simp only [rqA,rqB]
          simp only [List.map_cons,List.map_nil,TB.inst,TV.inst,tv_map,zipT,List.cons_append,List.nil_append,Nat.add_zero]
          (have FX:=And.intro hlf (And.intro hgq (And.intro hvl (And.intro hxq (And.intro hew (And.intro k5 (And.intro hap (And.intro hq (And.intro hql hxg))))))));repeat'(first|(refine sx ?_ ?_<;>intro h<;>first|(exfalso;omega)|skip)|refine ny ?_|refine WA_block ?_|(refine uX20_22_6 ?_;refine⟨by kernel_rfl,?_⟩)|(refine uX20_22_11 ?_;refine⟨by kernel_rfl,?_⟩)|(refine uX20_22_15 ?_;refine⟨by kernel_rfl,?_⟩)))
          rw [hsk2]
          have hnz:=fun(_:Unit)=>hK4 (q+1)
          (refine nextU_ hnz (()) [0,1] (hql) (by omega) ?_ (ht:=?_);(focus (simp only [rqB,List.map_cons,List.map_nil,TB.inst,TV.inst,tv_map,List.cons_append,List.nil_append];first|rfl|(simp [ptsV,ptV];done)|(simp [hpsV,hpV];done)|(simp [frsV,frV];done)|(simp [txV];done)|(simp [prtsV,prtV];done)));(simp only [rqA,List.map_cons,List.map_nil,TV.inst,List.getD_cons_zero,List.getD_cons_succ];exact tv_))
        · obtain rfl:q=af.length:=by omega
          rw [List.take_of_length_le (Nat.le_refl _)]
          have hxq:=hxa af.length
          rw [List.take_of_length_le (Nat.le_refl _)] at hxq
          clear hK4 hxa
          have hwl:(v++afT af).length≤27000:=by rw [List.length_append];omega
          generalize v++afT af=w at *
          have hBB:B4=B2++(D3++D4):=by rw [hB4,hB3,List.append_assoc]
          have hnz:=fun(_:Unit) js t' m' (h:RoundEndT B4 [1,2,3,6] (rqS 0 (s0++prA (b.ads.take (i+1))) (i+1)) (rqE b) js t' m')=>hK2 (i+1) (js.map ((D3++D4).length+ ·)) t' m' (RoundEndT_up (by rw [hBB] at h;exact h) rfl rfl)
          simp only [rqA,rqB]
          simp only [List.map_cons,List.map_nil,TB.inst,TV.inst,tv_map,zipT,List.cons_append,List.nil_append,Nat.add_zero]
          (have FX:=And.intro hlf (And.intro hwl (And.intro k3 (And.intro hap (And.intro hfa hlt))));repeat'(first|(refine sx ?_ ?_<;>intro h<;>first|(exfalso;omega)|skip)|refine ny ?_|refine WA_block ?_|(refine uX20_22_6 ?_;refine⟨by kernel_rfl,?_⟩)|(refine uX20_22_11 ?_;refine⟨by kernel_rfl,?_⟩)|(refine uX20_22_15 ?_;refine⟨by kernel_rfl,?_⟩)))
          all_goals(try(exfalso;omega))
          rw [←hsn2]
          (refine nextU_ hnz (()) [0] (hlt) (by omega) ?_ (ht:=?_);(focus (simp only [rqE,List.map_cons,List.map_nil,TB.inst,TV.inst,tv_map,List.cons_append,List.nil_append];first|rfl|(simp [ptsV,ptV];done)|(simp [hpsV,hpV];done)|(simp [frsV,frV];done)|(simp [txV];done)|(simp [prtsV,prtV];done)));(simp only [rqS,List.map_cons,List.map_nil,TV.inst,List.getD_cons_zero,List.getD_cons_succ];exact tv_))
    · obtain rfl:i=b.ads.length:=by omega
      rw [List.take_of_length_le (Nat.le_refl _)]
      clear hK2
      simp only [rqS,rqE]
      simp only [List.map_cons,List.map_nil,TB.inst,TV.inst,tv_map,zipT,List.cons_append,List.nil_append,Nat.add_zero]
      (have FX:=And.intro hla hfa;repeat'(first|(refine sx ?_ ?_<;>intro h<;>first|(exfalso;omega)|skip)|refine ny ?_|refine WA_block ?_|(refine uX20_22_6 ?_;refine⟨by kernel_rfl,?_⟩)|(refine uX20_22_11 ?_;refine⟨by kernel_rfl,?_⟩)|(refine uX20_22_15 ?_;refine⟨by kernel_rfl,?_⟩)))
      all_goals(try(exfalso;omega))
      have e0:prA (b.ads.take b.ads.length)=prA b.ads:=by rw [List.take_of_length_le (Nat.le_refl _)]
      exact r_esA hQ (v':= .str (s0++prA b.ads)) (.inl ⟨rfl,rfl,WkV.refl _⟩)
end Go.Proofs.YtookikhphobnlaaGreatDoor
