/- contract: the reference writes forces -/
import Derived.Test.YtjonlmpjdhoogaaGreatDoorY6
set_option linter.unusedSimpArgs false
set_option linter.unusedVariables false
namespace Go.Proofs.YtjonlmpjdhoogaaGreatDoor
open Go.RowKit
attribute [local irreducible] WA WOs WDs WAn qThen qBlock tput
set_option maxHeartbeats 1000000
set_option maxRecDepth 20000
set_option linter.unusedSimpArgs false
set_option linter.unusedVariables false
set_option maxHeartbeats 4000000
theorem join7(a b c x y z:Int):joinS (flW ⟨a,b,c,x,y,z⟩)=[102,111,114,99,101]++[32]++Lib.itoa a++[32]++Lib.itoa b++[32]++Lib.itoa c++[32]++Lib.itoa x++[32]++Lib.itoa y++[32]++Lib.itoa z:=by
  simp [flW,joinS,forceT]
theorem take_snG{l:List Pl}{i:Nat}(h:i<l.length):l.take (i+1)=l.take i++[l[i]]:=List.take_succ_eq_append_getElem h
theorem printF_take{l:List Pl}(h:∀ x∈l,FWr x)(hn:l.length≤300)(i:Nat):(printF (l.take i)).length≤30000:=by
  have h1:=printF_len (l:=l.take i) fun x hx=>h x (List.mem_of_mem_take hx)
  have h2:(l.take i).length * 100≤300 * 100:=Nat.mul_le_mul_right _ (by rw [List.length_take];omega)
  omega

theorem rprint_c (l:List Pl) (hw:∀ x∈l,FWr x) (hn:l.length≤300) (m:Mem):Gives Tryz.prog 10 [.lst (plsV l)] m (.str (printF l)):=by
  have hlm:=plsV_length (l:=l)
  suffices key:CallA Tryz.prog 10 [.lst (plsV l)] m (fun v mo=>mo=none∧WkV v (.str (printF l))) from Gives_ofX key fun v mo h=>h
  refine CallA_in Tryz.func10 rfl Tryz.ntmps10 Tryz.results10 (by kernel_rfl) (by simp) fun Q hQ=>?_
  (repeat'(first|(refine sx ?_ ?_<;>intro h<;>first|(exfalso;omega)|skip)|refine ny ?_|refine WA_block ?_))
  refine WA_while (σ:=Nat) [0,3,4] (fun i=>[.lst (plsV l),.str (printF (l.take i)),.int .i64 i]) (fun _=>lend m) (fun i=>i≤l.length) (fun i=>l.length - i) 0 (Nat.zero_le _) tv_ (by simp) ?_
  rintro i hi K hK
  simp only [zipT]
  rcases Nat.lt_or_ge i l.length with hlt|hge
  · have hga:=plsV_get hlt
    have hx:=hw l[i] (List.getElem_mem hlt)
    have hsn:=printF_snoc (l.take i) l[i]
    rw [←take_snG hlt] at hsn
    have hpl:=printF_take hw hn i
    generalize l[i]=p at *
    obtain⟨a,b,c,x,y,z⟩:=p
    rw [join7] at hsn
    have d1:=fun m=>bdec_c a (by have:=hx.a;dsimp only at this;omega) m
    have d2:=fun m=>bdec_c b (by have:=hx.b;dsimp only at this;omega) m
    have d3:=fun m=>bdec_c c (by have:=hx.c;dsimp only at this;omega) m
    have d4:=fun m=>bdec_c x (by have:=hx.x;dsimp only at this;omega) m
    have d5:=fun m=>bdec_c y (by have:=hx.y;dsimp only at this;omega) m
    have d6:=fun m=>bdec_c z (by have:=hx.z;dsimp only at this;omega) m
    have l1:(Lib.itoa a).length≤12:=itoa_len hx.a
    have l2:(Lib.itoa b).length≤12:=itoa_len hx.b
    have l3:(Lib.itoa c).length≤12:=itoa_len hx.c
    have l4:(Lib.itoa x).length≤12:=itoa_len hx.x
    have l5:(Lib.itoa y).length≤12:=itoa_len hx.y
    have l6:(Lib.itoa z).length≤12:=itoa_len hx.z
    have hap:∀ a b:Txt,(a++b).length=a.length+b.length:=fun a b=>List.length_append
    have k1:([102,111,114,99,101]:Txt).length=5:=rfl
    have k2:([32]:Txt).length=1:=rfl
    have k3:([10]:Txt).length=1:=rfl
    clear hx
    generalize Lib.itoa a=t1 at *
    generalize Lib.itoa b=t2 at *
    generalize Lib.itoa c=t3 at *
    generalize Lib.itoa x=t4 at *
    generalize Lib.itoa y=t5 at *
    generalize Lib.itoa z=t6 at *
    generalize printF (l.take i)=s at *
    dsimp only at hga
    (have FX:=And.intro hlm (And.intro hga (And.intro hpl (And.intro l1 (And.intro l2 (And.intro l3 (And.intro l4 (And.intro l5 (And.intro l6 (And.intro k1 (And.intro k2 (And.intro k3 (And.intro hap (And.intro hi (And.intro hlt hn))))))))))))));repeat'(first|(refine sx ?_ ?_<;>intro h<;>first|(exfalso;omega)|skip)|(refine g_op ?_;refine g_call ?_;refine g_args ?_;(first|refine s_fn (d1 _) ?_|refine s_fn (d2 _) ?_|refine s_fn (d3 _) ?_|refine s_fn (d4 _) ?_|refine s_fn (d5 _) ?_|refine s_fn (d6 _) ?_)<;>try first|omega|assumption)|refine ny ?_|refine WA_block ?_))
    clear FX
    refine WA_while (σ:=Nat) [0,3,4,5] (fun k=>[.lst (plsV l),.str ([s++[102,111,114,99,101],s++[102,111,114,99,101]++[32]++t1,s++[102,111,114,99,101]++[32]++t1++[32]++t2,s++[102,111,114,99,101]++[32]++t1++[32]++t2++[32]++t3].getD k []),.int .i64 i,.int .i64 k]) (fun _=>lend m) (fun k=>k≤3) (fun k=>3 - k) 0 (Nat.zero_le _) tv_ (by simp) ?_
    rintro k hk K1 hK1
    simp only [zipT]
    obtain rfl|rfl|rfl|rfl:k=0∨k=1∨k=2∨k=3:=by omega
    · simp only [List.getD_cons_zero,List.getD_cons_succ,show((0:Nat):Int)=0 from rfl]
      (have FX:=And.intro hlm (And.intro hga (And.intro hpl (And.intro l1 (And.intro l2 (And.intro l3 (And.intro l4 (And.intro l5 (And.intro l6 (And.intro k1 (And.intro k2 (And.intro k3 (And.intro hap (And.intro hi (And.intro hlt hn))))))))))))));repeat'(first|(refine sx ?_ ?_<;>intro h<;>first|(exfalso;omega)|skip)|(refine g_op ?_;refine g_call ?_;refine g_args ?_;(first|refine s_fn (d1 _) ?_|refine s_fn (d2 _) ?_|refine s_fn (d3 _) ?_|refine s_fn (d4 _) ?_|refine s_fn (d5 _) ?_|refine s_fn (d6 _) ?_)<;>try first|omega|assumption)|refine ny ?_|refine WA_block ?_))
      all_goals(try(exfalso;omega))
      exact next_ hK1 1 (by decide) (by decide)
    · simp only [List.getD_cons_zero,List.getD_cons_succ,show((1:Nat):Int)=1 from rfl]
      (have FX:=And.intro hlm (And.intro hga (And.intro hpl (And.intro l1 (And.intro l2 (And.intro l3 (And.intro l4 (And.intro l5 (And.intro l6 (And.intro k1 (And.intro k2 (And.intro k3 (And.intro hap (And.intro hi (And.intro hlt hn))))))))))))));repeat'(first|(refine sx ?_ ?_<;>intro h<;>first|(exfalso;omega)|skip)|(refine g_op ?_;refine g_call ?_;refine g_args ?_;(first|refine s_fn (d1 _) ?_|refine s_fn (d2 _) ?_|refine s_fn (d3 _) ?_|refine s_fn (d4 _) ?_|refine s_fn (d5 _) ?_|refine s_fn (d6 _) ?_)<;>try first|omega|assumption)|refine ny ?_|refine WA_block ?_))
      all_goals(try(exfalso;omega))
      exact next_ hK1 2 (by decide) (by decide)
    · simp only [List.getD_cons_zero,List.getD_cons_succ,show((2:Nat):Int)=2 from rfl]
      (have FX:=And.intro hlm (And.intro hga (And.intro hpl (And.intro l1 (And.intro l2 (And.intro l3 (And.intro l4 (And.intro l5 (And.intro l6 (And.intro k1 (And.intro k2 (And.intro k3 (And.intro hap (And.intro hi (And.intro hlt hn))))))))))))));repeat'(first|(refine sx ?_ ?_<;>intro h<;>first|(exfalso;omega)|skip)|(refine g_op ?_;refine g_call ?_;refine g_args ?_;(first|refine s_fn (d1 _) ?_|refine s_fn (d2 _) ?_|refine s_fn (d3 _) ?_|refine s_fn (d4 _) ?_|refine s_fn (d5 _) ?_|refine s_fn (d6 _) ?_)<;>try first|omega|assumption)|refine ny ?_|refine WA_block ?_))
      all_goals(try(exfalso;omega))
      exact next_ hK1 3 (by decide) (by decide)
    · simp only [List.getD_cons_zero,List.getD_cons_succ,show((3:Nat):Int)=3 from rfl]
      clear hK1
      have hul:(s++[102,111,114,99,101]++[32]++t1++[32]++t2++[32]++t3).length≤31000:=by simp only [hap,k1,k2];omega
      have hsn:printF (l.take (i+1))=s++[102,111,114,99,101]++[32]++t1++[32]++t2++[32]++t3++[32]++t4++[32]++t5++[32]++t6++[10]:=by rw [hsn];simp only [List.append_assoc]
      generalize s++[102,111,114,99,101]++[32]++t1++[32]++t2++[32]++t3=u at *
      (have FX:=And.intro hlm (And.intro hga (And.intro hpl (And.intro hul (And.intro l4 (And.intro l5 (And.intro l6 (And.intro k1 (And.intro k2 (And.intro k3 (And.intro hap (And.intro hi (And.intro hlt hn))))))))))));repeat'(first|(refine sx ?_ ?_<;>intro h<;>first|(exfalso;omega)|skip)|(refine g_op ?_;refine g_call ?_;refine g_args ?_;(first|refine s_fn (d1 _) ?_|refine s_fn (d2 _) ?_|refine s_fn (d3 _) ?_|refine s_fn (d4 _) ?_|refine s_fn (d5 _) ?_|refine s_fn (d6 _) ?_)<;>try first|omega|assumption)|refine ny ?_|refine WA_block ?_))
      all_goals(try(exfalso;omega))
      clear FX
      refine WA_while (σ:=Nat) [0,3,4,6] (fun k=>[.lst (plsV l),.str ([u,u++[32]++t4,u++[32]++t4++[32]++t5,u++[32]++t4++[32]++t5++[32]++t6].getD k []),.int .i64 i,.int .i64 k]) (fun _=>lend m) (fun k=>k≤3) (fun k=>3 - k) 0 (Nat.zero_le _) tv_ (by simp) ?_
      rintro k hk K1 hK1
      simp only [zipT]
      obtain rfl|rfl|rfl|rfl:k=0∨k=1∨k=2∨k=3:=by omega
      · simp only [List.getD_cons_zero,List.getD_cons_succ,show((0:Nat):Int)=0 from rfl]
        (have FX:=And.intro hlm (And.intro hga (And.intro hpl (And.intro hul (And.intro l4 (And.intro l5 (And.intro l6 (And.intro k1 (And.intro k2 (And.intro k3 (And.intro hap (And.intro hi (And.intro hlt hn))))))))))));repeat'(first|(refine sx ?_ ?_<;>intro h<;>first|(exfalso;omega)|skip)|(refine g_op ?_;refine g_call ?_;refine g_args ?_;(first|refine s_fn (d1 _) ?_|refine s_fn (d2 _) ?_|refine s_fn (d3 _) ?_|refine s_fn (d4 _) ?_|refine s_fn (d5 _) ?_|refine s_fn (d6 _) ?_)<;>try first|omega|assumption)|refine ny ?_|refine WA_block ?_))
        all_goals(try(exfalso;omega))
        exact next_ hK1 1 (by decide) (by decide)
      · simp only [List.getD_cons_zero,List.getD_cons_succ,show((1:Nat):Int)=1 from rfl]
        (have FX:=And.intro hlm (And.intro hga (And.intro hpl (And.intro hul (And.intro l4 (And.intro l5 (And.intro l6 (And.intro k1 (And.intro k2 (And.intro k3 (And.intro hap (And.intro hi (And.intro hlt hn))))))))))));repeat'(first|(refine sx ?_ ?_<;>intro h<;>first|(exfalso;omega)|skip)|(refine g_op ?_;refine g_call ?_;refine g_args ?_;(first|refine s_fn (d1 _) ?_|refine s_fn (d2 _) ?_|refine s_fn (d3 _) ?_|refine s_fn (d4 _) ?_|refine s_fn (d5 _) ?_|refine s_fn (d6 _) ?_)<;>try first|omega|assumption)|refine ny ?_|refine WA_block ?_))
        all_goals(try(exfalso;omega))
        exact next_ hK1 2 (by decide) (by decide)
      · simp only [List.getD_cons_zero,List.getD_cons_succ,show((2:Nat):Int)=2 from rfl]
        (have FX:=And.intro hlm (And.intro hga (And.intro hpl (And.intro hul (And.intro l4 (And.intro l5 (And.intro l6 (And.intro k1 (And.intro k2 (And.intro k3 (And.intro hap (And.intro hi (And.intro hlt hn))))))))))));repeat'(first|(refine sx ?_ ?_<;>intro h<;>first|(exfalso;omega)|skip)|(refine g_op ?_;refine g_call ?_;refine g_args ?_;(first|refine s_fn (d1 _) ?_|refine s_fn (d2 _) ?_|refine s_fn (d3 _) ?_|refine s_fn (d4 _) ?_|refine s_fn (d5 _) ?_|refine s_fn (d6 _) ?_)<;>try first|omega|assumption)|refine ny ?_|refine WA_block ?_))
        all_goals(try(exfalso;omega))
        exact next_ hK1 3 (by decide) (by decide)
      · simp only [List.getD_cons_zero,List.getD_cons_succ,show((3:Nat):Int)=3 from rfl]
        clear hK1
        (have FX:=And.intro hlm (And.intro hga (And.intro hpl (And.intro hul (And.intro l4 (And.intro l5 (And.intro l6 (And.intro k1 (And.intro k2 (And.intro k3 (And.intro hap (And.intro hi (And.intro hlt hn))))))))))));repeat'(first|(refine sx ?_ ?_<;>intro h<;>first|(exfalso;omega)|skip)|(refine g_op ?_;refine g_call ?_;refine g_args ?_;(first|refine s_fn (d1 _) ?_|refine s_fn (d2 _) ?_|refine s_fn (d3 _) ?_|refine s_fn (d4 _) ?_|refine s_fn (d5 _) ?_|refine s_fn (d6 _) ?_)<;>try first|omega|assumption)|refine ny ?_|refine WA_block ?_))
        all_goals(try(exfalso;omega))
        have hend:u++[32]++t4++[32]++t5++[32]++t6++[10]=printF (l.take (i+1)):=by rw [hsn]
        rw [hend]
        exact next_ hK (i+1) hlt (by omega)
  · obtain rfl:i=l.length:=by omega
    rw [List.take_of_length_le (Nat.le_refl _)]
    clear hK
    (have FX:=hlm;repeat'(first|(refine sx ?_ ?_<;>intro h<;>first|(exfalso;omega)|skip)|refine ny ?_|refine WA_block ?_))
    all_goals(try(exfalso;omega))
    exact r_esA hQ (v':= .str (printF l)) (.inl ⟨rfl,rfl,WkV.refl _⟩)
end Go.Proofs.YtjonlmpjdhoogaaGreatDoor
