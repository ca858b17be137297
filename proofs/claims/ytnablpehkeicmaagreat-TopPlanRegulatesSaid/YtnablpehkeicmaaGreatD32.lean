/- plain reading: the action of a bench's measures behind steps is right -/
import Derived.Test.YtnablpehkeicmaaGreatGAS
import Derived.Test.YtnablpehkeicmaaGreatGAE
import Derived.Test.YtnablpehkeicmaaGreatGAT
set_option linter.unusedSimpArgs false
set_option linter.unusedVariables false
namespace Go.Proofs.YtnablpehkeicmaaGreat
theorem ms_diff{b:BnR}(hk:Bok b):∀ i j,i<j→j<b.ms.length→(b.ms.getD i msz).name≠(b.ms.getD j msz).name:=by
  intro i j hij hj he
  refine ms_uniq hk j hj ?_
  rcases fdx_cases (isM (b.ms.getD j msz).name) (b.ms.take j) msz with h|⟨k,h1,h2,h3, -⟩
  · have:=h.2 i (by rw [List.length_take];omega)
    have e:(b.ms.take j).getD i msz=b.ms.getD i msz:=by rw [List.getD_eq_getElem?_getD,List.getElem?_take_of_lt hij,←List.getD_eq_getElem?_getD]
    rw [e] at this
    exact absurd he (of_decide_eq_false this)
  · omega
theorem lvM_names(b:BnR)(l:List Int):(lvM b l).map (·.1)=b.ms.map (·.name):=by
  refine List.ext_getElem (by simp [lvM]) fun i h1 h2=>?_
  have h:i<b.ms.length:=by simpa using h2
  simp [lvM,List.getD_eq_getElem?_getD,List.getElem?_eq_getElem h]
theorem lvM_fits{b:BnR}(hk:Bok b){l:List Int}(hb:brkP b l b.ms.length=[])(ht:∀ i,i<b.ms.length→1≤(b.ms.getD i msz).low∧(b.ms.getD i msz).high≤2000):acErr (lvA (lvM b l))=0:=by
  have hl:=lvM_len b l
  have hm:=hk.fm
  refine lv_ac (by omega) (fun i hi=>?_) (fun i j hij hj=>?_) fun i hi=>?_
  · rw [lvM_get (by omega)]
    exact(msErr_zero (hk.me i (by omega))).1
  · rw [lvM_get (by omega),lvM_get (by omega)]
    exact ms_diff hk i j hij (by omega)
  · rw [lvM_get (by omega)]
    have h1:=in_tol hb (i:=i) (by omega)
    have h2:=ht i (by omega)
    exact⟨by dsimp only;omega,by dsimp only;omega⟩
theorem lvM_lt{b:BnR}(hk:Bok b)(l:List Int):Lt (lvA (lvM b l)):=by
  have hl:=lvM_len b l
  have hm:=hk.fm
  have he:(lvA (lvM b l)).evs.length=b.ms.length:=by simp [lvA,hl]
  refine⟨by show 1≤1000;decide,by omega,by show 0≤1000;decide,fun i hi=>?_,fun i hi=>?_⟩
  · have hi:i<1:=hi
    obtain rfl:i=0:=by omega
    show 5≤1000
    decide
  · rw [he] at hi
    rw [lv_ev _ (by omega)]
    dsimp only
    rw [lvM_get hi]
    have:=(msErr_zero (hk.me i hi)).1
    exact Nat.le_trans this.2.1 (by decide)
end Go.Proofs.YtnablpehkeicmaaGreat
