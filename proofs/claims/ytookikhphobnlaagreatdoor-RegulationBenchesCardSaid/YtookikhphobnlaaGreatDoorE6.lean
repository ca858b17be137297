/- arguments that are benches, lists of numbers, plans -/
import Derived.Test.YtookikhphobnlaaGreatDoorGAA
import Derived.Test.YtookikhphobnlaaGreatDoorB3
set_option linter.unusedSimpArgs false
set_option linter.unusedVariables false
namespace Go.Proofs.YtookikhphobnlaaGreatDoor
open Go.RowKit
abbrev TyMs:Ty:= .agg [.str,.int .i64,.int .i64,.int .i64]
abbrev TyEf:Ty:= .agg [.str,.int .i64]
abbrev TyAd:Ty:= .agg [.str,.sl TyEf,.int .i64,.int .i64,.int .i64,.sl .str]
abbrev TyBn:List Ty:=[.sl TyMs,.sl TyAd]
theorem oktxs{es:List (List V)}(h:∀ x∈es,Okc .str x):∃ o:List Txt,es=tsV o:=by
  induction es with
  |nil=>exact⟨[],rfl⟩
  | cons x xs ih=>
    obtain⟨o,rfl⟩:=ih fun y hy=>h y (List.mem_cons_of_mem _ hy)
    obtain⟨s,rfl,_⟩:=h x List.mem_cons_self
    exact⟨s::o,rfl⟩
theorem oks_mss{es:List (List V)}(h:∀ x∈es,Okc TyMs x):∃ l:List MsR,es=mssV l:=by
  have key:∀ x,Okc TyMs x→∃ a:MsR,x=msV a∧True:=by
    intro x hx
    obtain⟨p1,q1,rfl,⟨s,rfl,_⟩,g1⟩:=(show OkcL _ x from hx)
    obtain⟨a,_,rfl,_,g2⟩:=okcL_int g1
    obtain⟨b,_,rfl,_,g3⟩:=okcL_int g2
    obtain⟨c,_,rfl,_,g4⟩:=okcL_int g3
    obtain rfl:=okcL_nil g4
    exact⟨⟨s,a,b,c⟩,rfl,trivial⟩
  obtain⟨l,h1,_⟩:=oks_map key h
  exact⟨l,h1⟩
theorem oks_efs{es:List (List V)}(h:∀ x∈es,Okc TyEf x):∃ l:List EfR,es=efsV l:=by
  have key:∀ x,Okc TyEf x→∃ a:EfR,x=efV a∧True:=by
    intro x hx
    obtain⟨p1,q1,rfl,⟨s,rfl,_⟩,g1⟩:=(show OkcL _ x from hx)
    obtain⟨a,_,rfl,_,g2⟩:=okcL_int g1
    obtain rfl:=okcL_nil g2
    exact⟨⟨s,a⟩,rfl,trivial⟩
  obtain⟨l,h1,_⟩:=oks_map key h
  exact⟨l,h1⟩
theorem oks_ads{es:List (List V)}(h:∀ x∈es,Okc TyAd x):∃ l:List AdR,es=adsV l:=by
  have key:∀ x,Okc TyAd x→∃ a:AdR,x=adV a∧True:=by
    intro x hx
    obtain⟨p1,q1,rfl,⟨s,rfl,_⟩,g1⟩:=(show OkcL _ x from hx)
    obtain⟨p2,q2,rfl,⟨es,rfl,_,h1⟩,g2⟩:=g1
    obtain⟨a,_,rfl,_,g3⟩:=okcL_int g2
    obtain⟨b,_,rfl,_,g4⟩:=okcL_int g3
    obtain⟨c,_,rfl,_,g5⟩:=okcL_int g4
    obtain⟨p3,q3,rfl,⟨ts,rfl,_,h2⟩,g6⟩:=g5
    obtain rfl:=okcL_nil g6
    obtain⟨l,rfl⟩:=oks_efs h1
    obtain⟨o,rfl⟩:=oktxs h2
    exact⟨⟨s,l,a,b,c,o⟩,rfl,trivial⟩
  obtain⟨l,h1,_⟩:=oks_map key h
  exact⟨l,h1⟩
theorem okbn{cs:List V}(h:OkcL TyBn cs):∃ b:BnR,cs=bnV b:=by
  obtain⟨p1,q1,rfl,⟨es,rfl,_,h1⟩,g1⟩:=h
  obtain⟨p2,q2,rfl,⟨vs,rfl,_,h2⟩,g2⟩:=g1
  obtain rfl:=okcL_nil g2
  obtain⟨l,rfl⟩:=oks_mss h1
  obtain⟨k,rfl⟩:=oks_ads h2
  exact⟨⟨l,k⟩,rfl⟩
end Go.Proofs.YtookikhphobnlaaGreatDoor
