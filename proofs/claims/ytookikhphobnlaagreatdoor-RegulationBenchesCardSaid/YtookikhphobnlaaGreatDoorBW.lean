/- an opened bench: the plain reading -/
import Derived.Test.YtookikhphobnlaaGreatDoorGAH
set_option linter.unusedSimpArgs false
set_option linter.unusedVariables false
namespace Go.Proofs.YtookikhphobnlaaGreatDoor
open Go.RowKit
def rowL(mm:List MsR)(l:List EfR):List Int:=mm.map fun x=>byL l x.name
def mainL(mm:List MsR):List EfR→Int
  |[]=> -1
  |e::_=>fdx (isM e.meas) mm
def mainK(mm:List MsR)(l:List EfR)(k:Nat):Int:=if k=0 then -1 else mainL mm l
theorem mainK_all(mm:List MsR)(l:List EfR):mainK mm l l.length=mainL mm l:=by
  unfold mainK
  cases l with
  |nil=>rfl
  |cons e r=>rw [if_neg (by simp)]
theorem byL_snoc{l:List EfR}{e:EfR}(h:fdx (isF e.meas) l<0)(s:Txt):byL (l++[e]) s=if e.meas=s then e.by_ else byL l s:=by
  unfold byL
  rw [List.find?_append]
  by_cases hs:e.meas=s
  · rw [if_pos hs]
    have hn:l.find? (isF s)=none:=by
      rw [List.find?_eq_none]
      intro x hx hf
      have h1:l.any (isF s)=true:=List.any_eq_true.2 ⟨x,hx,hf⟩
      rw [fdx_any,←hs,decide_eq_false (by omega)] at h1
      cases h1
    rw [hn]
    simp [isF,hs]
  · rw [if_neg hs]
    cases l.find? (isF s) with
    |none=>simp [isF,hs]
    |some x=>rfl
theorem rowL_length(mm:List MsR)(l:List EfR):(rowL mm l).length=mm.length:=by simp [rowL]
theorem rowL_nil(mm:List MsR):nsV (rowL mm [])=List.replicate mm.length [V.int .i64 0]:=by
  unfold nsV rowL
  rw [List.map_map]
  refine List.ext_getElem (by simp) fun i h1 h2=>?_
  simp [byL]
theorem row_set {mm:List MsR} (hu:∀ i,i<mm.length→¬ 0≤fdx (isM (mm.getD i msz).name) (mm.take i)) {l:List EfR} {e:EfR} {k:Nat} (hk:k<mm.length) (hf:fdx (isM e.meas) mm=(k:Int)) (hn:fdx (isF e.meas) l<0):(rowL mm l).set k e.by_=rowL mm (l++[e]):=by
  obtain⟨hk1,hk2⟩:isM e.meas (mm.getD k msz)=true∧∀ j,j<k→isM e.meas (mm.getD j msz)=false:=by
    rcases fdx_cases (isM e.meas) mm msz with ⟨h,_⟩|⟨i,hi,h1,h2,h3⟩
    · omega
    · obtain rfl:i=k:=by omega
      exact⟨h2,h3⟩
  refine List.ext_getElem (by simp [rowL_length]) fun j h1 h2=>?_
  rw [List.getElem_set]
  have hj:j<mm.length:=by rw [List.length_set,rowL_length] at h1;exact h1
  have hg:mm[j]=mm.getD j msz:=by rw [List.getD_eq_getElem?_getD,List.getElem?_eq_getElem hj];rfl
  simp only [rowL,List.getElem_map]
  rw [byL_snoc hn,hg]
  unfold isM at hk1 hk2
  by_cases hjk:k=j
  · subst hjk
    rw [if_pos rfl,if_pos (of_decide_eq_true hk1).symm]
  · rw [if_neg hjk,if_neg]
    intro he
    rcases Nat.lt_or_ge j k with h|h
    · exact of_decide_eq_false (hk2 j h) he.symm
    · have h3:=hu j hj
      have h4:(mm.take j).any (isM (mm.getD j msz).name)=true:=by
        refine List.any_eq_true.2 ⟨mm.getD k msz,?_,?_⟩
        · rw [List.getD_eq_getElem?_getD,List.getElem?_eq_getElem hk]
          exact List.mem_take_iff_getElem.2 ⟨k,by omega,rfl⟩
        · unfold isM
          exact decide_eq_true ((of_decide_eq_true hk1).trans he)
      rw [fdx_any,decide_eq_false h3] at h4
      cases h4
theorem nsV_set(l:List Int)(k:Nat)(n:Int):nsV (l.set k n)=(nsV l).set k [V.int .i64 n]:=by simp [nsV,List.map_set]
def rowsB(mm:List MsR)(ads:List AdR):List (List Int):=ads.map fun a=>rowL mm a.effs
def rwV(l:List (List Int)):List (List V):=l.map fun r=>[V.lst (nsV r)]
def mnsB(mm:List MsR)(ads:List AdR):List Int:=ads.map fun a=>mainL mm a.effs
theorem rwV_length{l:List (List Int)}:(rwV l).length=l.length:=by simp [rwV]
theorem rwV_get{l:List (List Int)}{i:Nat}(h:i<l.length):(rwV l)[i]?=some [V.lst (nsV (l.getD i []))]:=by
  unfold rwV;rw [List.getElem?_map,lst_get (d:=[]) h];rfl
theorem rwV_plain(l:List (List Int)):plainLL (rwV l)=true:=plainLL_of fun e he=>by
  obtain⟨x,_,rfl⟩:=List.mem_map.1 he
  simp [plainL,V.plain,nsV_plain]
theorem rwV_snoc(l:List (List Int))(r:List Int):rwV (l++[r])=rwV l++[[V.lst (nsV r)]]:=by simp [rwV]
theorem nsV_snoc(l:List Int)(n:Int):nsV (l++[n])=nsV l++[[V.int .i64 n]]:=by simp [nsV]
/-- an opened bench -/
def bxC(b:BnR):List V:=[.lst (mssV b.ms),.lst (adsV b.ads),.lst (nuV (ordB b.ads)),.lst (rwV (rowsB b.ms b.ads)),.lst (nsV (mnsB b.ms b.ads))]
/-- what is known of a right bench -/
structure Bok(b:BnR):Prop where
  fm:b.ms.length≤12
  fa:b.ads.length≤12
  me:∀ i,i<b.ms.length→msErr (b.ms.take i) (b.ms.getD i msz)=0
  ae:∀ i,i<b.ads.length→adErr b.ms b.ads i=0
  cy:b.ads.length≤(ordB b.ads).length
theorem bn_ok {b:BnR} (h:bnErr b=0):Bok b:=by
  unfold bnErr at h
  split at h
  · contradiction
  · rename_i h1
    split at h
    · simp at h
    · split at h
      · contradiction
      · split at h
        · simp at h
        · rename_i h2 h3 h4
          have h1:mssErr b.ms=0:=by omega
          have h3:fE (adErr b.ms b.ads) b.ads.length=0:=by omega
          unfold mssErr at h1
          split at h1
          · simp at h1
          · exact⟨by omega,by omega,fE_zero.1 h1,fE_zero.1 h3,by omega⟩
structure Aok(mm:List MsR)(ads:List AdR)(i:Nat):Prop where
  nm:nameP (ads.getD i adz).name
  nw:¬ 0≤fdx (isA (ads.getD i adz).name) (ads.take i)
  fe:(ads.getD i adz).effs.length≤12
  ef:∀ k,k<(ads.getD i adz).effs.length→efErrAt mm (ads.getD i adz).effs k=0
  le: -1000≤(ads.getD i adz).least∧(ads.getD i adz).least≤0
  mo:0≤(ads.getD i adz).most∧(ads.getD i adz).most≤1000
  pa:1≤(ads.getD i adz).pass∧(ads.getD i adz).pass≤1000
  af:afErr ads (ads.getD i adz).after=0
theorem ad_ok {mm:List MsR} {ads:List AdR} {i:Nat} (h:adErr mm ads i=0):Aok mm ads i:=by
  unfold adErr at h
  split at h
  · simp at h
  · split at h
    · simp at h
    · split at h
      · contradiction
      · split at h
        · simp at h
        · rename_i h1 h2 h3 h4
          have h3:efErr mm (ads.getD i adz).effs=0:=by omega
          unfold efErr at h3
          split at h3
          · simp at h3
          · exact⟨Classical.not_not.1 h1,h2,by omega,fE_zero.1 h3,by omega,by omega,by omega,h⟩
theorem ef_ok {mm:List MsR} {l:List EfR} {k:Nat} (h:efErrAt mm l k=0):0≤fdx (isM (l.getD k efz).meas) mm∧fdx (isF (l.getD k efz).meas) (l.take k)<0∧(-1000≤(l.getD k efz).by_∧(l.getD k efz).by_≤1000)∧(l.getD k efz).by_≠0:=by
  unfold efErrAt at h
  split at h
  · simp at h
  · split at h
    · simp at h
    · split at h
      · simp at h
      · split at h
        · simp at h
        · exact⟨by omega,by omega,by omega,by omega⟩
theorem ms_uniq{b:BnR}(h:Bok b):∀ i,i<b.ms.length→¬ 0≤fdx (isM (b.ms.getD i msz).name) (b.ms.take i):=fun i hi=>(msErr_zero (h.me i hi)).2.1
theorem rowL_get{mm:List MsR}{l:List EfR}{i:Nat}(h:i<mm.length):(rowL mm l).getD i 0=byL l (mm.getD i msz).name:=by
  unfold rowL
  rw [List.getD_eq_getElem?_getD,List.getElem?_map,lst_get (d:=msz) h];rfl
theorem rowsB_get{mm:List MsR}{ads:List AdR}{k:Nat}(h:k<ads.length):(rowsB mm ads).getD k []=rowL mm (ads.getD k adz).effs:=by
  unfold rowsB
  rw [List.getD_eq_getElem?_getD,List.getElem?_map,lst_get (d:=adz) h];rfl
theorem mnsB_get{mm:List MsR}{ads:List AdR}{k:Nat}(h:k<ads.length):(mnsB mm ads).getD k 0=mainL mm (ads.getD k adz).effs:=by
  unfold mnsB
  rw [List.getD_eq_getElem?_getD,List.getElem?_map,lst_get (d:=adz) h];rfl
theorem rowsB_length(mm:List MsR)(ads:List AdR):(rowsB mm ads).length=ads.length:=by simp [rowsB]
theorem mnsB_length(mm:List MsR)(ads:List AdR):(mnsB mm ads).length=ads.length:=by simp [mnsB]
theorem byL_bd{l:List EfR}{mm:List MsR}(h:∀ k,k<l.length→efErrAt mm l k=0)(s:Txt): -1000≤byL l s∧byL l s≤1000:=by
  unfold byL
  split
  · rename_i e he
    obtain⟨i,hi,rfl⟩:=List.getElem_of_mem (List.mem_of_find?_eq_some he)
    have:=(ef_ok (h i hi)).2.2.1
    rw [List.getD_eq_getElem?_getD,List.getElem?_eq_getElem hi] at this
    exact this
  · decide
theorem bnd_ok{b:BnR}(h:Bok b):Bnd b where
  fm:=h.fm
  fa:=h.fa
  va:=fun i hi=>by
    obtain⟨_,_,h1,h2,h3,h4⟩:=msErr_zero (h.me i hi)
    exact⟨h1,⟨h2.1,h4⟩,h3.2⟩
  by_ :=fun k i=>by
    unfold byN
    rcases Nat.lt_or_ge k b.ads.length with hk|hk
    · exact byL_bd (ad_ok (h.ae k hk)).ef _
    · have:b.ads.getD k adz=adz:=by rw [List.getD_eq_getElem?_getD,List.getElem?_eq_none hk];rfl
      rw [this]
      simp [adz,byL]
  le:=fun k hk=>(ad_ok (h.ae k hk)).le
  mo:=fun k hk=>(ad_ok (h.ae k hk)).mo
  pa:=fun k hk=>(ad_ok (h.ae k hk)).pa
end Go.Proofs.YtookikhphobnlaaGreatDoor
