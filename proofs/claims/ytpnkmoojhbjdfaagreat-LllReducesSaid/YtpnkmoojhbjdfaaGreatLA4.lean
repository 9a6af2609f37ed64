/-
  Theorems that the proofs of laws of this seat rest on.
  No condition.
-/
import Derived.Test.YtpnkmoojhbjdfaaGreatLA3
set_option maxHeartbeats 8000000
set_option linter.unusedVariables false
set_option linter.unusedSimpArgs false
section
namespace Tor
open Go Go.RowKit Go.Proofs
def sgT (neg:Bool) (v:Nat):VT:=bB 2 [(0, .one,one (.bool neg)),(1, .one,ci (aF v))]
def sv (neg:Bool) (v:Nat):Int:=if neg then -(v:Int) else v
theorem eE (x:Int):VT.le (aK x) (sgT (decide (x<0)) x.natAbs):=VT.le_refl _
theorem fx (x:Int):sv (decide (x<0)) x.natAbs=x:=by
 unfold sv;by_cases h:x<0
 ·rw [decide_eq_true h,if_pos Z]; omega
 ·rw [decide_eq_false h]; simp only [Bool.false_eq_true,if_false]; omega
attribute [local irreducible] J PJ aJ one slT cv bB bL exT cp eP aW aN slV VT.le Ret bK
attribute [local irreducible] aK
theorem ju (u:Nat) (hu:u<18446744073709551616):Ok Tryz.prog 116 [one (.int .u64 u)] (me u):=by
 refine Ok.enter Tryz.func116 Z Tryz.ntmps116 Z (fun w O => ?_)
 refine ae (aj (Cn Z (Cp (aa (ae (aj (Cm Z (Cl (cG Z) (Cm Z ?_)))))))))
 refine Cl (gl Z) (Cl (cG Z) (stS Z Z Z Z (PartsK.cons Z (PartsK.cons Z (PartsK.nil (Cn Z (Cp (aa (aD ?_)))))))))
 refine aO Tryz.results116 (.tmp Z (VT.le_trans (cX (m := [u % 4294967296,u / 4294967296 % 4294967296].length) (ψ:=fun i=>one (.int .u32 ([u % 4294967296,u / 4294967296 % 4294967296].getD i 0:Nat))) Z (fun q hq => ?_)) (fN (l := [u % 4294967296,u / 4294967296 % 4294967296]) ?_ ?_)))
 ·match q,hq with
  | 0, _ => rfl
  | 1, _ => rfl
 ·intro d hd;simp at hd;omega
 ·simp only [lv]; omega
theorem pn (n:Int) (h1 : -9223372036854775808≤n) (h2:n≤9223372036854775807):Ok Tryz.prog 78 [one (.int .i64 n)] (aK n):=by
 refine Ok.enter Tryz.func78 Z Tryz.ntmps78 Z (fun w O => ?_)
 by_cases hn:n<0
 ·refine ae (aj ?_)
  refine aP (T:=43) Z (ltN Z) (fun b => ?_)
  refine Cp (aa (ae (aj (Cm Z (Cl (jq (r:=((18446744073709551616 - n.natAbs:Nat):Int)) Z (by rw [dV]; omega)) (Cn Z (Cp (aa (ae ?_)))))))))
  refine ae (aj (Cm Z (Cl (a9 Z Z) (Cp (aa ?_)))))
  refine aZ Z (fun hc => ?_) (fun hc => ?_) <;> simp at hc
  ·refine aj (Cm Z (Cl (zJ (r:=(n.natAbs:Int)) Z (by rw [dV]; omega)) (Cn Z (Cp (aa (ae (aj (Cm Z (Cl (a9 Z Z) ?_)))))))))
   refine Cm Z ?_
   refine Cl (am (ju _ Y) Z ⟨H,Cq⟩) ?_
   refine Cl (am (dW _ _) Z ⟨H,H,Cq⟩) ?_
   refine aB 0 Z Z Z Z Z (leN Z) Z (Cp (aa (aD ?_)))
   exact aO Tryz.results78 (.cellB 0 Z Z Z (bZ (by rw [decide_eq_true hn,if_pos Z]; omega)))
  ·omega
 ·refine ae (aj ?_)
  refine aP (T:=43) Z (ltN Z) (fun b => ?_)
  refine Cp (aa (ae (aj (Cm Z (Cl (jq (r:=(n.natAbs:Int)) Z (by rw [dV]; omega)) (Cn Z (Cp (aa (ae ?_)))))))))
  refine ae (aj (Cm Z (Cl (a9 Z Z) (Cp (aa ?_)))))
  refine aZ Z (fun hc => ?_) (fun hc => ?_) <;> simp at hc
  ·omega
  ·refine aw (aa (ae (aj (Cm Z (Cl (a9 Z Z) (Cm Z ?_))))))
   refine Cl (am (ju _ Y) Z ⟨H,Cq⟩) ?_
   refine Cl (am (dW _ _) Z ⟨H,H,Cq⟩) ?_
   refine aB 0 Z Z Z Z Z (leN Z) Z (Cp (aa (aD ?_)))
   exact aO Tryz.results78 (.cellB 0 Z Z Z (bZ (by rw [decide_eq_false hn]; simp;omega)))
def dQ (x:Int):Int:=if x=0 then 0 else if x<0 then -1 else 1
theorem qd (neg:Bool) (v:Nat):Ok Tryz.prog 83 [sgT neg v] (one (.int .i64 (dQ (sv neg v)))):=by
 refine Ok.enter Tryz.func83 Z Tryz.ntmps83 Z (fun w O => ?_)
 refine ae (aj ?_)
 refine aQ Z Z (ltN Z) (fun b => ?_)
 refine Cn Z (Cp (aa (ae (av (ae (aj (Cl (ai Z) (Cl (ak 0 Z Z Z) ?_))))))))
 refine Cl (am (di _) Z ⟨cE _,Cq⟩) ?_
 refine Cl (aV Z) (Cl (cN Z Z) (Cn Z (Cp (aa ?_))))
 refine aZ Z (fun hc => ?_) (fun hc => ?_) <;> simp at hc
 ·have hv:v=0:=by rw [← bQ v,hc]; rfl
  refine ae (aj (Cn Z (Cp (aa (aD (be (aE ?_)))))))
  exact aO Tryz.results83 (.tmp Z (ao (by subst hv;simp [dQ,sv])))
 ·have hv:v≠0:=by intro e;subst e;exact hc Z
  refine ae (aj (Cl (ai Z) (Cl (ak 0 Z Z Z) (Cn Z (Cp (aa ?_))))))
  refine aZ Z (fun hc2 => ?_) (fun hc2 => ?_)
  ·subst hc2
   refine ae (aj (Cn Z (Cp (aa (aD (be (aE ?_)))))))
   exact aO Tryz.results83 (.tmp Z (ao (by congr 1;unfold dQ sv;simp only [if_true]; rw [if_neg Y,if_pos Y])))
  ·subst hc2
   refine aw (aA (aa (ae (aj (Cn Z (Cp (aa (aD ?_))))))))
   exact aO Tryz.results83 (.tmp Z (ao (by congr 1;unfold dQ sv;simp only [Bool.false_eq_true,if_false]; rw [if_neg Y,if_neg Y])))
theorem wA (n1 n2:Bool) (v1 v2:Nat) (h1:(aF v1).length≤1099511627776) (h2:(aF v2).length≤1099511627776):Ok Tryz.prog 88 [sgT n1 v1,sgT n2 v2] (aK (sv n1 v1+sv n2 v2)):=by
 refine Ok.enter Tryz.func88 Z Tryz.ntmps88 Z (fun w O => ?_)
 refine ae (aj ?_)
 refine aQ Z Z (ltN Z) (fun b => ?_)
 refine aQ Z Z (ltN Z) (fun b => ?_)
 refine aP (T:=43) Z (ltN Z) (fun b => ?_)
 refine Cp (aa (ae (a4 8 aU X W (Cl (ai Z) (Cl (ak 2 Z Z Z) ?_)))))
 refine Cl (am (di _) Z ⟨cE _,Cq⟩) ?_
 refine Cl (ai Z) (Cl (ak 1 Z Z Z) ?_)
 refine Cl (am (di _) Z ⟨cE _,Cq⟩) ?_
 refine Cn Z (Cn Z (Cp (Cp (aa (ae (av (ae (aj (Cl (ai Z) ?_)))))))))
 refine Cl (ak 2 Z Z Z) (Cl (ai Z) (Cl (ak 1 Z Z Z) (Cl (mA Z Z) (Cn Z (Cp (aa ?_))))))
 refine aZ Z (fun hc => ?_) (fun hc => ?_) <;> simp at hc
 ·subst hc
  refine ae (a4 6 aU X W (Cl (ai Z) (Cl (ak 2 Z Z Z) (Cm Z (Cm Z ?_)))))
  refine Cl (am (t7 _ _ h1 h2) Z ⟨H,H,Cq⟩) ?_
  refine Cl (am (dW _ _) Z ⟨H,H,Cq⟩) ?_
  refine Cp (aB 0 Z Z Z Z Z (leN Z) Z (Cp (aa (aD (be (aE ?_))))))
  exact aO Tryz.results88 (.cellB 0 Z Z Z (bZ (by unfold sv;split <;> omega)))
 ·refine ae (aj (Cm Z (Cm Z ?_)))
  refine Cl (am (ky _ _) Z ⟨H,H,Cq⟩) ?_
  refine Cl (a9 Z Z) (Cn Z (Cp (aa ?_)))
  refine aZ Z (fun hc2 => ?_) (fun hc2 => ?_) <;> simp at hc2
  ·have hlt:v1<v2:=by
    unfold mc at hc2;split at hc2
    ·assumption
    ·split at hc2 <;> omega
   refine ae (a4 6 aU X W (Cl (ai Z) (Cl (ak 1 Z Z Z) (Cm Z (Cm Z ?_)))))
   refine Cl (am (nQ _ _ Y h2) Z ⟨H,H,Cq⟩) ?_
   refine Cl (am (dW _ _) Z ⟨H,H,Cq⟩) ?_
   refine Cp (aB 0 Z Z Z Z Z (leN Z) Z (Cp (aa (aD (be (aE ?_))))))
   exact aO Tryz.results88 (.cellB 0 Z Z Z (bZ (by unfold sv;cases n1 <;> cases n2 <;> simp at hc ⊢ <;> omega)))
  ·have hge:v2≤v1:=by
    unfold mc at hc2;split at hc2 <;> omega
   refine aw (aA (aa (ae (a4 6 aU X W (Cl (ai Z) (Cl (ak 2 Z Z Z) (Cm Z (Cm Z ?_))))))))
   refine Cl (am (nQ _ _ Y h1) Z ⟨H,H,Cq⟩) ?_
   refine Cl (am (dW _ _) Z ⟨H,H,Cq⟩) ?_
   refine Cp (aB 0 Z Z Z Z Z (leN Z) Z (Cp (aa (aD ?_))))
   exact aO Tryz.results88 (.cellB 0 Z Z Z (bZ (by unfold sv;cases n1 <;> cases n2 <;> simp at hc ⊢ <;> omega)))
theorem Ar (n1 n2:Bool) (v1 v2:Nat) (h1:(aF v1).length≤1099511627776) (h2:(aF v2).length≤1099511627776):Ok Tryz.prog 82 [sgT n1 v1,sgT n2 v2] (aK (sv n1 v1 - sv n2 v2)):=by
 refine Ok.enter Tryz.func82 Z Tryz.ntmps82 Z (fun w O => ?_)
 refine ae (aj ?_)
 refine aQ Z Z (ltN Z) (fun b => ?_)
 refine aQ Z Z (ltN Z) (fun b => ?_)
 refine aP (T:=43) Z (ltN Z) (fun b => ?_)
 refine Cp (aa (ae (aj (Cl (aL 2 Z Z) (Cl (ai Z) (Cl (ak 1 Z Z Z) (Cl (bS Z) (Cl (ai Z) (Cl (ak 1 Z Z Z) ?_)))))))))
 refine stB Z Z Z (BuildK.cons Z Z Z (BuildK.cons Z Z Z (BuildK.nil ?_)))
 refine Cl (am (wA n1 (!n2) v1 v2 h1 h2) Z ⟨H,H,Cq⟩) ?_
 refine aB 0 Z Z Z Z Z (leN Z) Z (Cp (aa (aD ?_)))
 exact aO Tryz.results82 (.cellB 0 Z Z Z (bZ (by unfold sv;cases n2 <;> simp <;> omega)))
theorem As (n1 n2:Bool) (v1 v2:Nat) (h1:(aF v1).length≤1099511627776) (h2:(aF v2).length≤1099511627776):Ok Tryz.prog 80 [sgT n1 v1,sgT n2 v2] (aK (sv n1 v1*sv n2 v2)):=by
 refine Ok.enter Tryz.func80 Z Tryz.ntmps80 Z (fun w O => ?_)
 refine ae (aj ?_)
 refine aQ Z Z (ltN Z) (fun b => ?_)
 refine aQ Z Z (ltN Z) (fun b => ?_)
 refine aP (T:=43) Z (ltN Z) (fun b => ?_)
 refine Cp (aa (ae (a4 13 aU X W (Cl (ai Z) (Cl (ak 2 Z Z Z) (Cl (ai Z) (Cl (ak 1 Z Z Z) (Cl (jp Z Z) (Cl (ai Z) ?_)))))))))
 refine Cl (ak 2 Z Z Z) ?_
 refine Cl (am (di _) Z ⟨cE _,Cq⟩) ?_
 refine Cl (ai Z) (Cl (ak 1 Z Z Z) ?_)
 refine Cl (am (di _) Z ⟨cE _,Cq⟩) ?_
 skip
 refine Cl (am (wz _ _ h1 h2) Z ⟨H,H,Cq⟩) ?_
 refine Cl (am (dW _ _) Z ⟨H,H,Cq⟩) ?_
 refine Cp (aB 0 Z Z Z Z Z (leN Z) Z (Cp (aa (aD ?_))))
 exact aO Tryz.results80 (.cellB 0 Z Z Z (bZ (by unfold sv;cases n1 <;> cases n2 <;> simp [Int.neg_mul,Int.mul_neg])))
theorem yr {n1 n2:Bool} {v1 v2:Nat} (h:dQ (sv n1 v1)=dQ (sv n2 v2)):IntKind.i64.wrap (dQ (sv n1 v1)*mc v1 v2)=eU (sv n1 v1) (sv n2 v2):=by
 have key:dQ (sv n1 v1)*mc v1 v2=eU (sv n1 v1) (sv n2 v2):=by
  unfold dQ sv mc eU at *
  cases n1 <;> cases n2 <;> simp only [if_true,if_false,Bool.false_eq_true] at * <;> (repeat' split at h) <;> (try omega) <;> (repeat' split) <;> omega
 rw [key]
 unfold eU;split
 ·decide
 ·split <;> decide
theorem At (n1 n2:Bool) (v1 v2:Nat):Ok Tryz.prog 87 [sgT n1 v1,sgT n2 v2] (one (.int .i64 (eU (sv n1 v1) (sv n2 v2)))):=by
 refine Ok.enter Tryz.func87 Z Tryz.ntmps87 Z (fun w O => ?_)
 refine ae (aj ?_)
 refine aQ Z Z (ltN Z) (fun b => ?_)
 refine aQ Z Z (ltN Z) (fun b => ?_)
 refine Cn Z (Cp (aa (ae (a4 6 aU X W (Cl (aL 1 Z Z) ?_)))))
 refine Cl (am (qd n1 v1) Z ⟨H,Cq⟩) ?_
 refine Cl (aL 0 Z Z) ?_
 refine Cl (am (qd n2 v2) Z ⟨H,Cq⟩) ?_
 refine Cn Z (Cn Z (Cp (Cp (aa (ae (ae (aj (Cm Z (Cm Z ?_)))))))))
 refine Cl (c8 Z Z) (Cp (aa ?_))
 refine aZ Z (fun hc => ?_) (fun hc => ?_) <;> simp only [decide_eq_true_eq,decide_eq_false_iff_not,ne_eq,Decidable.not_not] at hc
 ·refine ae (aj (Cm Z (Cm Z ?_)))
  refine Cl (am (jt _ _) Z ⟨H,H,Cq⟩) ?_
  refine Cn Z (Cp (aa (aD (aE ?_))))
  exact aO Tryz.results87 (.tmp Z (ao (by congr 1;unfold dQ at *; unfold eU;split at hc <;> split at hc <;> (try split at hc) <;> (try split at hc) <;> simp at * <;> (repeat' split) <;> omega)))
 ·refine aw (aa (ae (a4 10 aU X W (Cm Z (Cl (ai Z) (Cl (ak 1 Z Z Z) ?_))))))
  refine Cl (am (di _) Z ⟨cE _,Cq⟩) ?_
  refine Cl (ai Z) (Cl (ak 0 Z Z Z) ?_)
  refine Cl (am (di _) Z ⟨cE _,Cq⟩) ?_
  skip
  refine Cl (am (ky _ _) Z ⟨H,H,Cq⟩) ?_
  refine Cl (mz (r:=eU (sv n1 v1) (sv n2 v2)) Z Z (yr hc)) (Cn Z (Cp (Cp (aa (aD ?_)))))
  exact aO Tryz.results87 (.tmp Z H)
end Tor
end
section
namespace Tor
open Go Go.RowKit Go.Proofs
theorem po {nb neg:Bool} {v:Nat} (h:nb=(neg && decide (v≠0))):VT.le (bB 2 [(0, .one,one (.bool nb)),(1, .one,ci (aF v))]) (aK (if neg then -(v:Int) else v)):=by
 refine e8 (fun q hq => ?_)
 simp only [List.mem_cons,List.not_mem_nil,or_false] at hq
 rcases hq with rfl | rfl
 ·have e:decide ((if neg then -(v:Int) else v)<0)=nb:=by rw [h]; cases neg <;> simp <;> (try omega) <;> (rw [Bool.eq_iff_iff]; simp;omega)
  exact ⟨_,List.mem_cons_self,mC (by rw [e])⟩
 ·refine ⟨_,List.mem_cons_of_mem _ List.mem_cons_self,lc ?_⟩
  cases neg <;> simp
theorem t8 {b:Bool} {φ ψ:VT} (h:VT.le φ ψ):VT.le (bB 2 [(0, .one,one (.bool b)),(1, .one, φ)]) (bB 2 [(0, .one,one (.bool b)),(1, .one, ψ)]):=by
 refine e8 (fun q hq => ?_)
 simp only [List.mem_cons,List.not_mem_nil,or_false] at hq
 rcases hq with rfl | rfl
 ·exact ⟨_,List.mem_cons_self,H⟩
 ·exact ⟨_,List.mem_cons_of_mem _ List.mem_cons_self,h⟩
attribute [local irreducible] J PJ aJ one slT cv bB bL exT cp eP aW aN slV VT.le Ret bK
attribute [local irreducible] aK
theorem dt (neg:Bool) (v:Nat):Ok Tryz.prog 76 [oR v,one (.bool neg)] (aK (if neg then -(v:Int) else v)):=by
 refine Ok.enter Tryz.func76 Z Tryz.ntmps76 Z (fun w O => ?_)
 refine yc (t:=0) Z (fun l=>tN (t:=0) Z (fun ⟨hL,hv,hb⟩ => ?_))
 subst hv
 refine ae (aj ?_)
 refine aP (T:=43) Z (ltN Z) (fun b => ?_)
 refine Cp (aa (ae (aj (Cm Z (Cl (aV Z) (Cn Z (Cp (aa (ae ?_)))))))))
 refine av ?_
 refine cA (σ:=Nat) (fun n => [(0,ci l),(1,one (.bool neg)),(4,one (.pointer (some ⟨b,0,none⟩))),(5,one (.int .i64 n))]) (fun _ => [aW b 43 2 [(0, .agg 2,one (.agg #[.bool false, .slice none 0 0]))]]) (fun n=>n≤l.length∧gK l n=gK l l.length) (fun n=>n) l.length ⟨Nat.le_refl _,rfl⟩ Ci (SubM.refl _) (fun n ⟨hn,ht⟩ => ?_)
 have hd:=nO hL
 refine ae (ae ?_)
 refine fE (σ:=Unit) (fun _ => [(0,ci l),(1,one (.bool neg)),(4,one (.pointer (some ⟨b,0,none⟩))),(5,one (.int .i64 n)),(17,one (.bool (decide (0<n∧l.getD (n - 1) 0=0))))]) (fun _ => [aW b 43 2 [(0, .agg 2,one (.agg #[.bool false, .slice none 0 0]))]]) (fun _=>True) ?_ (fun _ _ => ?_)
 ·by_cases h0:0<n
  ·obtain ⟨n,rfl⟩ : ∃ m,n=m+1:=⟨n - 1,by omega⟩
   refine aj (Cm Z (Cl (ek Z Z) (Cm Z ?_)))
   refine ka (t:=10) Z (fun b hb => ?_)
   rw [hb]
   have:b=true:=by rw [← hb]; simp
   subst this
   refine Co (ab Z) (Co (ab Z) ?_)
   (refine Co (eG Z Z (aM ?_ ?_)) ?_;omega;omega)
   (refine Co (ev Z Z ?_ ?_) ?_;omega;omega)
   refine Co (aG Z) (Co (cN Z Z) (Cl (a6 Z Z) (Cp ?_)))
   exact cW () trivial (.cons Z H (.cons Z H (.cons Z H (.cons Z H (.cons Z (ao (by simp)) .nil))))) (SubM.refl _)
  ·refine aj (Cm Z (Cl (ek Z Z) (Cm Z ?_)))
   refine ka (t:=10) Z (fun b hb => ?_)
   rw [hb]
   have:b=false:=by rw [← hb]; simp;omega
   subst this
   refine sg0 Z Z Z Z (sg0 Z Z Z Z (sg0 Z Z Z Z (sg0 Z Z Z Z (sg0 Z Z Z Z (sg0 Z Z Z Z (Cl (bj Z Z) (Cp ?_)))))))
   exact cW () trivial (.cons Z H (.cons Z H (.cons Z H (.cons Z H (.cons Z (ao (by simp;omega)) .nil))))) (SubM.refl _)
 ·refine aa ?_
  refine aZ Z (fun hc => ?_) (fun hc => ?_) <;> simp only [decide_eq_true_eq,decide_eq_false_iff_not] at hc
  ·obtain ⟨n,rfl⟩ : ∃ m,n=m+1:=⟨n - 1,by omega⟩
   refine aw (aa (av (aj (Cm Z ?_))))
   (refine Cl (eG Z Z (aM ?_ ?_)) ?_;omega;omega)
   refine Cn Z (Cp (aA ?_))
   refine bG (s:=n+1) n ⟨by omega,by have h2:l.getD n 0=0:=hc.2;rw [← ht,gK,if_pos h2]⟩ Y Ci (SubM.refl _)
  ·have hz:gK l n=n:=by
    cases n with
    | zero => rfl
    | succ n =>
     have h2 : ¬ l.getD n 0=0:=fun h=>hc ⟨by omega,h⟩
     rw [gK,if_neg h2]
   rw [ht] at hz
   rw [hz] at hd
   have hlen:(aF (lv l)).length=n:=by rw [← hd,List.length_take_of_le hn]
   have hnz:(0<n)↔lv l≠0:=by
    constructor
    ·intro h e;rw [e] at hlen;simp [iE] at hlen;omega
    ·intro h;rw [← hlen]; exact Nat.pos_of_ne_zero (fun e=>h (by rw [← bQ (lv l),List.eq_nil_of_length_eq_zero e]; rfl))
   have hmag:VT.le (slT .one (0+((n:Int) - 0).toNat) fun q=>if q<0 then [].reverse.getD q bK else one (.int .u32 (l.getD (Int.toNat 0+(q - 0)) 0:Nat))) (ci (aF (lv l))) :=
    VT.le_trans (cX (m:=(l.take n).length) (ψ:=fun q=>one (.int .u32 ((l.take n).getD q 0:Nat))) (by rw [List.length_take_of_le hn]; omega) (fun q hq=>by
     simp only [Nat.not_lt_zero,if_false]
     rw [show Int.toNat 0+(q - 0)=q from by simp]
     simp [List.getElem?_take_of_lt (show q<n by omega)])) (lc hd)
   cases neg
   ·refine aX (au (au (aC (aa (ae (aj (Cm Z (Cm Z (sg0 Z Z Z Z ?_)))))))))
    refine sg0 Z Z Z Z (Cl (bj Z Z) (kb (n:=0) Z Z Z Z Z ?_))
    refine PartsK.nil (fun b => ?_)
    refine Cm Z (Cm Z ?_)
    (refine Cl (kM Z Z Z Z (fun _=>rfl) ?_ ?_ ?_ ?_) ?_;omega;omega;omega;omega)
    (refine cV 0 Z Z Z (leN Z) ?_ ?_ Z (ltN Z) (fun sv cap => ?_);omega;omega)
    refine iT (t:=29) (j:=0) Z Z (stB Z Z Z (BuildK.cons Z Z Z (BuildK.cons Z Z Z (BuildK.nil (aB 0 Z Z Z Z Z (leN Z) Z (Cp (aa (aD ?_))))))))
    exact aO Tryz.results76 (.cellB 0 Z Z Z (VT.le_trans (t8 hmag) (po (by simp))))
   ·refine aX (au (au (aC (aa (ae (aj (Cm Z (Cm Z (Co (ab Z) ?_)))))))))
    refine Co (ek Z Z) (Cl (a6 Z Z) (kb (n:=0) Z Z Z Z Z ?_))
    refine PartsK.nil (fun b => ?_)
    refine Cm Z (Cm Z ?_)
    (refine Cl (kM Z Z Z Z (fun _=>rfl) ?_ ?_ ?_ ?_) ?_;omega;omega;omega;omega)
    (refine cV 0 Z Z Z (leN Z) ?_ ?_ Z (ltN Z) (fun sv cap => ?_);omega;omega)
    refine iT (t:=29) (j:=0) Z Z (stB Z Z Z (BuildK.cons Z Z Z (BuildK.cons Z Z Z (BuildK.nil (aB 0 Z Z Z Z Z (leN Z) Z (Cp (aa (aD ?_))))))))
    exact aO Tryz.results76 (.cellB 0 Z Z Z (VT.le_trans (t8 hmag) (po (by rw [Bool.true_and]; exact decide_eq_decide.2 (by rw [← hnz]; omega)))))
end Tor
end
section
namespace Tor
open Go Go.RowKit Go.Proofs
attribute [local irreducible] J PJ aJ one slT cv bB bL exT cp eP aW aN slV VT.le Ret bK
theorem ld (a b:Nat):Ok Tryz.prog 96 [ci (aF a),ci (aF b)] (one (.bool (decide (a<b)))):=by
 refine Ok.enter Tryz.func96 Z Tryz.ntmps96 Z (fun w O => ?_)
 refine iS (t:=0) Z (fun _ _=>ff) (fun hb => ?_)
 refine ae (aj (Cn Z (Cp (aa (ae (ae (aj (Cm Z (Cl (aV Z) ?_)))))))))
 refine Cm Z (Cl (aV Z) (Cl (c8 Z Z) (Cp (aa ?_))))
 refine aZ Z (fun hc => ?_) (fun hc => ?_) <;> simp only [decide_eq_true_eq,decide_eq_false_iff_not,ne_eq,Decidable.not_not] at hc
 ·refine ae (aj (Cm Z (Cl (aV Z) (Cm Z (Cl (aV Z) (Cl (a9 Z Z) (Cn Z (Cp (aa ?_)))))))))
  refine aD (aE ?_)
  refine aO Tryz.results96 (.tmp Z (ao ?_))
  congr 1
  rw [decide_eq_decide]
  constructor
  ·intro h;exact ir Y
  ·intro h;have:=bT (Nat.le_of_lt h);omega
 ·have hlen:(aF a).length=(aF b).length:=by omega
  refine aw (aa (ae (ae (aj (Cm Z (Cl (aV Z) ?_))))))
  (refine Cl (eG Z Z (aM ?_ ?_)) ?_;omega;omega)
  refine Cn Z (Cp (aa (av ?_)))
  refine cA (σ:=Nat) (fun n => [(0,ci (aF a)),(1,ci (aF b)),(5,one (.int .i64 ((n:Int) - 1)))]) (fun _ => []) (fun n=>n≤(aF a).length∧(aF a).drop n=(aF b).drop n) (fun n=>n) (aF a).length
   ⟨Nat.le_refl _,by rw [List.drop_length,hlen,List.drop_length]⟩ Ci (SubM.refl _) (fun n ⟨hn,hd⟩ => ?_)
  refine ae (ae (aj (Cm Z (Cl (jo Z Z) (Cp (aa ?_))))))
  refine aZ Z (fun hc2 => ?_) (fun hc2 => ?_) <;> simp only [decide_eq_true_eq,decide_eq_false_iff_not] at hc2
  ·obtain ⟨n,rfl⟩ : ∃ m,n=m+1:=⟨n - 1,by omega⟩
   have e:((n+1:Nat):Int) - 1=n:=by omega
   rw [e]
   refine aw (aa (ae (av (ae (a4 9 aU X W (Cm Z (Cm Z ?_)))))))
   (refine Cl (ax Z Z ?_) ?_;omega)
   refine Cl (aG Z) (Cm Z (Cm Z ?_))
   (refine Cl (ax Z Z ?_) ?_;omega)
   refine Cl (aG Z) (Cl (c8 Z Z) (Cp (Cp (aa ?_))))
   refine aZ Z (fun hc3 => ?_) (fun hc3 => ?_) <;> simp only [decide_eq_true_eq,decide_eq_false_iff_not,ne_eq,Decidable.not_not] at hc3
   ·refine ae (a4 10 aU X W (Cm Z (Cm Z ?_)))
    (refine Cl (ax Z Z ?_) ?_;omega)
    refine Cl (aG Z) (Cm Z (Cm Z ?_))
    (refine Cl (ax Z Z ?_) ?_;omega)
    refine Cl (aG Z) (Cl (a9 Z Z) (Cn Z (Cp (Cp (aa (aD (be (aE (aE ?_)))))))))
    refine be (aE ?_)
    refine aO Tryz.results96 (.tmp Z (ao ?_))
    congr 1
    rw [decide_eq_decide]
    by_cases h1:(aF a).getD n 0<(aF b).getD n 0
    ·have:=qc (a7 a) (a7 b) hlen (i:=n) Y hd h1
     rw [bQ,bQ] at this
     exact ⟨fun _=>this,fun _=>by omega⟩
    ·have:=qc (a7 b) (a7 a) hlen.symm (i:=n) Y hd.symm Y
     rw [bQ,bQ] at this
     exact ⟨fun h=>by omega,fun h=>by omega⟩
   ·refine aw (aA (aa (aj (Cm Z ?_))))
    (refine Cl (eG Z Z (aM ?_ ?_)) ?_;omega;omega)
    refine Cn Z (Cp ?_)
    refine bG (s:=n+1) n ⟨by omega,?_⟩ Y Ci (SubM.refl _)
    have h3:(aF a).getD n 0=(aF b).getD n 0:=by omega
    have e1:=fH (l:=aF a) (k:=n) Y
    have e2:=fH (l:=aF b) (k:=n) Y
    rw [e1,e2,h3,hd]
  ·refine aX (au (au (aC (aa (ae (aj (Cn Z (Cp (aa ?_)))))))))
   refine aD ?_
   have h0:n=0:=by omega
   subst h0
   have h4:a=b:=rv (by simpa using hd)
   exact aO Tryz.results96 (.tmp Z (ao (by subst h4;simp)))
theorem wB (neg:Bool) (v:Nat):Ok Tryz.prog 56 [sgT neg v] (one (.int .i64 (dQ (sv neg v)))):=by
 refine Ok.enter Tryz.func56 Z Tryz.ntmps56 Z (fun w O => ?_)
 refine ae (aj ?_)
 refine aQ Z Z (ltN Z) (fun b => ?_)
 refine Cn Z (Cp (aa (ae (ae (aj (Cl (ai Z) (Cl (ak 0 Z Z Z) (Cl (aV Z) (Cl (cN Z Z) ?_)))))))))
 refine Cp (aa ?_)
 refine aZ Z (fun hc => ?_) (fun hc => ?_) <;> simp at hc
 ·have hv:v=0:=by rw [← bQ v,hc]; rfl
  refine ae (aj (Cn Z (Cp (aa (aD (aE ?_))))))
  exact aO Tryz.results56 (.tmp Z (ao (by subst hv;simp [dQ,sv])))
 ·have hv:v≠0:=by intro e;subst e;exact hc Z
  refine aw (aa (ae (ae (aj (Cl (ai Z) (Cl (ak 0 Z Z Z) (Cp (aa ?_))))))))
  refine aZ Z (fun hc2 => ?_) (fun hc2 => ?_)
  ·subst hc2
   refine ae (aj (Cn Z (Cp (aa (aD (aE ?_))))))
   exact aO Tryz.results56 (.tmp Z (ao (by congr 1;unfold dQ sv;simp only [if_true]; rw [if_neg Y,if_pos Y])))
  ·subst hc2
   refine aw (aa (ae (aj (Cn Z (Cp (aa (aD ?_)))))))
   exact aO Tryz.results56 (.tmp Z (ao (by congr 1;unfold dQ sv;simp only [Bool.false_eq_true,if_false]; rw [if_neg Y,if_neg Y])))
theorem nR (x y:Int):Ok Tryz.prog 60 [aK x,aK y] (one (.bool (decide (x=y)))):=by
 refine Ok.enter Tryz.func60 Z Tryz.ntmps60 Z (fun w O => ?_)
 refine ae (aj ?_)
 refine aQ Z Z (ltN Z) (fun b => ?_)
 refine aQ Z Z (ltN Z) (fun b => ?_)
 refine Cn Z (Cp (aa (ae (aj (Cl (ai Z) (Cl (ak 1 Z Z Z) (Cl (ai Z) (Cl (ak 0 Z Z Z) (Cl (mA Z Z) ?_)))))))))
 refine Cm Z ?_
 refine ka (t:=10) Z (fun b hb => ?_)
 rw [hb]
 cases b
 ·refine sg0 Z Z Z Z (sg0 Z Z Z Z (sg0 Z Z Z Z (sg0 Z Z Z Z (sg0 Z Z Z Z (sg0 Z Z Z Z (Cl (bj Z Z) (Cm Z (sg0 Z Z Z Z (sg0 Z Z Z Z ?_)))))))))
  refine sg0 Z Z Z Z (sg0 Z Z Z Z (sg0 Z Z Z Z (sg0 Z Z Z Z (Cl (bj Z Z) (Cn Z (Cp (aa (aD ?_))))))))
  refine aO Tryz.results60 (.tmp Z (ao ?_))
  congr 1
  have : ¬ (x=y):=by intro e;subst e;simp at hb
  simp [this]
 ·have hs:(x<0)↔(y<0):=by simpa using hb
  refine Co (ai Z) (Co (ak 1 Z Z Z) (Co (ai Z) (Co (ak 0 Z Z Z) ?_)))
  refine Co (am (ld _ _) Z ⟨H,H,Cq⟩) ?_
  refine Co (bS Z) (Cl (a6 Z Z) (Cm Z ?_))
  refine ka (t:=18) Z (fun b hb2 => ?_)
  rw [hb2]
  cases b
  ·refine sg0 Z Z Z Z (sg0 Z Z Z Z (sg0 Z Z Z Z (sg0 Z Z Z Z (sg0 Z Z Z Z (sg0 Z Z Z Z (Cl (bj Z Z) (Cn Z (Cp (aa ?_)))))))))
   refine aD ?_
   refine aO Tryz.results60 (.tmp Z (ao ?_))
   congr 1
   simp at hb2
   have : ¬ (x=y):=by intro e;subst e;omega
   simp [this]
  ·simp at hb2
   refine Co (ai Z) (Co (ak 0 Z Z Z) (Co (ai Z) (Co (ak 1 Z Z Z) ?_)))
   refine Co (am (ld _ _) Z ⟨H,H,Cq⟩) ?_
   refine Co (bS Z) (Cl (a6 Z Z) (Cn Z (Cp (aa (aD ?_)))))
   refine aO Tryz.results60 (.tmp Z (ao ?_))
   congr 1
   rw [← decide_not,decide_eq_decide]
   omega
end Tor
end
section
namespace Tor
open Go Go.RowKit Go.Proofs
theorem gL (l:List Nat) (k:Nat):lv (l.take (k+1))=lv (l.take k)+4294967296^k*l.getD k 0:=by
 by_cases hk:k<l.length
 ·exact bF hk
 ·rw [List.take_of_length_le Y,List.take_of_length_le Y]; simp [List.getElem?_eq_none (Nat.le_of_not_lt hk)]
structure RPlus (lx ly zl:List Nat) (c:Nat):Prop where
 lim:bA zl
 c1:c≤1
 val:lv zl+4294967296^zl.length*c=lv (lx.take zl.length)+lv (ly.take zl.length)
 len:zl.length≤max lx.length ly.length+1
 big:max lx.length ly.length<zl.length→c=0
theorem RPlus.step {lx ly zl:List Nat} {c:Nat} (h:RPlus lx ly zl c) (hx:bA lx) (hy:bA ly) (hgo:zl.length<lx.length∨zl.length<ly.length∨0<c) :
  RPlus lx ly (zl ++ [(c+lx.getD zl.length 0+ly.getD zl.length 0) % 4294967296]) ((c+lx.getD zl.length 0+ly.getD zl.length 0) / 4294967296):=by
 have h1:=bg hx zl.length
 have h2:=bg hy zl.length
 have h3:=h.c1
 refine ⟨fun d hd => ?_,by omega,?_,?_,?_⟩
 ·rcases List.mem_append.1 hd with hd | hd
  ·exact h.lim d hd
  ·simp at hd;omega
 ·simp only [List.length_append,List.length_cons,List.length_nil,Nat.zero_add]
  rw [fG,gL,gL,Nat.pow_succ]
  have hv:=h.val
  generalize lx.getD zl.length 0=x at *
  generalize ly.getD zl.length 0=y at *
  generalize 4294967296^zl.length=B at *
  have e:(c+x+y)=4294967296*((c+x+y) / 4294967296)+(c+x+y) % 4294967296:=by omega
  generalize (c+x+y) / 4294967296=q at *
  generalize (c+x+y) % 4294967296=r at *
  simp only [lv,Nat.mul_zero,Nat.add_zero]
  have e2:B*(c+x+y)=B*(4294967296*q+r):=by rw [e]
  simp only [Nat.mul_add,Nat.mul_assoc] at e2 ⊢
  omega
 ·simp only [List.length_append,List.length_cons,List.length_nil,Nat.zero_add]
  have:=h.big;omega
 ·simp only [List.length_append,List.length_cons,List.length_nil,Nat.zero_add]
  intro hb
  have e1:lx.getD zl.length 0=0:=by simp [List.getElem?_eq_none (show lx.length≤zl.length by omega)]
  have e2:ly.getD zl.length 0=0:=by simp [List.getElem?_eq_none (show ly.length≤zl.length by omega)]
  rw [e1,e2]; omega
theorem ry (zl:List Nat) (v:Nat) : ∀ q,q<zl.length+1→(if q<zl.length then one (.int .u32 (zl.getD q 0:Nat)) else one (.int .u32 (v:Nat)))=one (.int .u32 ((zl ++ [v]).getD q 0:Nat)):=by
 intro q hq
 rw [jT]
 by_cases h:q<zl.length
 ·rw [if_pos h,if_neg Y]
 ·have:q=zl.length:=by omega
  subst this
  rw [if_neg h,if_pos Z]
theorem fU {sv:Option Nat} {T:TypeId} {L:Lay} {cap n m:Nat} {φ ψ:Nat→VT} (h:n=m) (Cf : ∀ q,q<n→φ q=ψ q):Own.le (aN sv T L cap n φ) (aN sv T L cap m ψ):=by
 subst h;exact bJ Cf
theorem iZ {sv:Option Nat} {n m cap:Nat} (h:n=m):VT.le (one (slV sv n cap)) (one (slV sv m cap)):=h▸VT.le_refl _
attribute [local irreducible] J PJ aJ one slT cv bB bL exT cp eP aW aN slV VT.le Ret bK
theorem wC (a b:Nat) (ha:(aF a).length≤1099511627776) (hb:(aF b).length≤1099511627776):Ok Tryz.prog 95 [ci (aF a),ci (aF b)] (oR (a+b)):=by
 refine Ok.enter Tryz.func95 Z Tryz.ntmps95 Z (fun w O => ?_)
 have hx:=a7 a
 have hy:=a7 b
 have hva:=bQ a
 have hvb:=bQ b
 generalize aF a=lx at *
 generalize aF b=ly at *
 refine ae (aj (Cn Z (Cp (aa (ae (aj (kb (n:=0) Z Z Z Z Z ?_)))))))
 refine PartsK.nil (fun b => ?_)
 refine Cn Z (Cn Z (Cp (aa (ae (ae (aj (Cn Z (Cp (aa ?_)))))))))
 refine av ?_
 refine cA (σ:=List Nat × Nat × Option Nat × Nat) (fun s => [(0,ci lx),(1,ci ly),(5,one (slV s.2.2.1 s.1.length s.2.2.2)),(6,one (.int .u64 (s.2.1:Nat))),(7,one (.int .i64 s.1.length))])
   (fun s => [aN s.2.2.1 116 .one s.2.2.2 s.1.length (fun q=>one (.int .u32 (s.1.getD q 0:Nat)))]) (fun s=>RPlus lx ly s.1 s.2.1) (fun s=>2*(max lx.length ly.length - s.1.length)+s.2.1) ([],0,some b,0)
   ⟨(fun d hd=>by cases hd),Nat.zero_le _,by simp [lv],by simp,by simp⟩ Ci (.keep (bJ (fun q hq=>by omega)) .nil) (fun s hR => ?_)
 obtain ⟨zl,c,sv0,cap0⟩:=s
 simp only at hR ⊢
 have h3:=hR.c1
 have hlen:=hR.len
 refine ae (ae ?_)
 refine fE (σ:=Unit) (fun _ => [(0,ci lx),(1,ci ly),(5,one (slV sv0 zl.length cap0)),(6,one (.int .u64 (c:Nat))),(7,one (.int .i64 zl.length)),(22,one (.bool (decide (zl.length<lx.length∨zl.length<ly.length∨0<c))))])
  (fun _ => [aN sv0 116 .one cap0 zl.length (fun q=>one (.int .u32 (zl.getD q 0:Nat)))]) (fun _=>True) ?_ (fun _ _ => ?_)
 ·refine aj (Cm Z (Cm Z (Cl (aV Z) (Cl (a9 Z Z) (Cm Z ?_)))))
  refine ka (t:=13) Z (fun b h1 => ?_)
  rw [h1]
  cases b
  ·simp at h1
   refine Co (ab Z) (Co (ab Z) (Co (aV Z) (Co (a9 Z Z) (Cl (bj Z Z) (Cm Z ?_)))))
   refine ka (t:=19) Z (fun b h2 => ?_)
   rw [h2]
   cases b
   ·simp at h2
    refine Co (ab Z) (Co (ek Z Z) (Cl (bj Z Z) (Cp ?_)))
    exact cW () trivial (.cons Z H (.cons Z H (.cons Z H (.cons Z H (.cons Z H (.cons Z (ao (by congr 1;rw [decide_eq_decide]; omega)) .nil)))))) (SubM.refl _)
   ·simp at h2
    refine sg0 Z Z Z Z (sg0 Z Z Z Z (Cl (a6 Z Z) (Cp ?_)))
    exact cW () trivial (.cons Z H (.cons Z H (.cons Z H (.cons Z H (.cons Z H (.cons Z (ao (by simp;omega)) .nil)))))) (SubM.refl _)
  ·simp at h1
   refine sg0 Z Z Z Z (sg0 Z Z Z Z (sg0 Z Z Z Z (sg0 Z Z Z Z (Cl (a6 Z Z) (Cm Z (sg0 Z Z Z Z (sg0 Z Z Z Z (Cl (a6 Z Z) (Cp ?_)))))))))
   exact cW () trivial (.cons Z H (.cons Z H (.cons Z H (.cons Z H (.cons Z H (.cons Z (ao (by simp;omega)) .nil)))))) (SubM.refl _)
 ·refine aa ?_
  refine aZ Z (fun hc => ?_) (fun hc => ?_) <;> simp only [decide_eq_true_eq,decide_eq_false_iff_not] at hc
  ·have hstep:=hR.step hx hy hc
   have g1:=bg hx zl.length
   have g2:=bg hy zl.length
   refine aw (aa (ae (av (ae (ae (aj (Cm Z (Cm Z (Cl (aV Z) ?_)))))))))
   refine Cl (a9 Z Z) (Cp (aa ?_))
   refine fE (σ:=Unit) (fun _ => [(0,ci lx),(1,ci ly),(5,one (slV sv0 zl.length cap0)),(6,one (.int .u64 (c+lx.getD zl.length 0:Nat))),(7,one (.int .i64 zl.length))])
    (fun _ => [aN sv0 116 .one cap0 zl.length (fun q=>one (.int .u32 (zl.getD q 0:Nat)))]) (fun _=>True) ?_ (fun _ _ => ?_)
   ·refine aZ Z (fun hc2 => ?_) (fun hc2 => ?_) <;> simp only [decide_eq_true_eq,decide_eq_false_iff_not] at hc2
    ·refine aj (Cm Z (Cm Z (Cm Z ?_)))
     (refine Cl (ax Z Z ?_) ?_;omega)
     refine Cl (aG Z) ?_
     (refine Cl (bM Z ?_) ?_;omega)
     (refine Cl (ep Z Z ?_) ?_;omega)
     refine Cn Z (Cp ?_)
     exact cW () trivial Ci (SubM.refl _)
    ·have e0:lx.getD zl.length 0=0:=by simp [List.getElem?_eq_none (show lx.length≤zl.length by omega)]
     refine aw ?_
     exact cW () trivial Ci (SubM.refl _)
   ·refine aa (ae (ae (aj (Cm Z (Cm Z (Cl (aV Z) (Cl (a9 Z Z) (Cp (aa ?_)))))))))
    refine fE (σ:=Unit) (fun _ => [(0,ci lx),(1,ci ly),(5,one (slV sv0 zl.length cap0)),(6,one (.int .u64 (c+lx.getD zl.length 0+ly.getD zl.length 0:Nat))),(7,one (.int .i64 zl.length))])
     (fun _ => [aN sv0 116 .one cap0 zl.length (fun q=>one (.int .u32 (zl.getD q 0:Nat)))]) (fun _=>True) ?_ (fun _ _ => ?_)
    ·refine aZ Z (fun hc2 => ?_) (fun hc2 => ?_) <;> simp only [decide_eq_true_eq,decide_eq_false_iff_not] at hc2
     ·refine aj (Cm Z (Cm Z (Cm Z ?_)))
      (refine Cl (ax Z Z ?_) ?_;omega)
      refine Cl (aG Z) ?_
      (refine Cl (bM Z ?_) ?_;omega)
      (refine Cl (ep Z Z ?_) ?_;omega)
      refine Cn Z (Cp ?_)
      exact cW () trivial Ci (SubM.refl _)
     ·have e0:ly.getD zl.length 0=0:=by simp [List.getElem?_eq_none (show ly.length≤zl.length by omega)]
      refine aw ?_
      exact cW () trivial Ci (SubM.refl _)
    ·refine aa (ae (aj (Cm Z (Cm Z (Cl (cG Z) (iX Z Z Z Z ?_))))))
     (refine cV 0 Z Z Z (leN Z) ?_ ?_ Z (ltN Z) (fun sv cap => ?_);omega;omega)
     refine Cn Z (Cp (aa (aj (Cm Z ?_))))
     (refine Cl (tO Z ?_) ?_;omega)
     refine Cn Z (Cp (aA (aa (aj (Cm Z ?_)))))
     (refine Cl (cj Z Z (aM ?_ ?_)) ?_;omega;omega)
     refine Cn Z (Cp ?_)
     refine bG (s:=(zl,c,sv0,cap0)) (zl ++ [(c+lx.getD zl.length 0+ly.getD zl.length 0) % 4294967296],(c+lx.getD zl.length 0+ly.getD zl.length 0) / 4294967296,sv,cap) hstep ?_ (.cons Z H (.cons Z H (.cons Z (iZ (by simp)) (.cons Z H (.cons Z (ao (by simp)) .nil))))) (.keep (fU (by simp) (fun q hq=>ry zl _ q (by simpa using hq))) .nil)
     have h8:=hstep.c1
     have h9:=hstep.big
     have h10:=hR.big
     simp only [List.length_append,List.length_cons,List.length_nil,Nat.zero_add] at *
     omega
  ·refine aX (au (au (aC (aa (ae (aj (Cm Z (Cn Z (Cp ?_)))))))))
   refine aa (aD (cJ (t:=4) (i:=0) Z Z ?_))
   refine aO Tryz.results95 (.tmp Z (ib (l:=zl) hR.lim ?_ Y))
   have h4:=hR.val
   have h5:c=0:=by omega
   rw [h5,List.take_of_length_le Y,List.take_of_length_le Y,hva,hvb] at h4
   omega
end Tor
end
section
namespace Tor
open Go Go.RowKit Go.Proofs
theorem RMinus.step {lx ly zl:List Nat} {c:Nat} (h:MinusR lx ly zl c) (hx:bA lx) (hy:bA ly) (hl:ly.length≤lx.length) (hlt:zl.length<lx.length) :
  MinusR lx ly (zl ++ [(lx.getD zl.length 0+4294967296 - c - ly.getD zl.length 0) % 4294967296]) (if lx.getD zl.length 0<c+ly.getD zl.length 0 then 1 else 0):=by
 have h1:=bg hx zl.length
 have h2:=bg hy zl.length
 have h3:=h.c1
 have:=h.step hx hy hl hlt Z
 generalize lx.getD zl.length 0=x at *
 generalize ly.getD zl.length 0=y at *
 have e1:((x+18446744073709551616 - c) % 18446744073709551616+18446744073709551616 - y) % 18446744073709551616 % 4294967296=(x+4294967296 - c - y) % 4294967296:=by omega
 have e2:((x+18446744073709551616 - c) % 18446744073709551616+18446744073709551616 - y) % 18446744073709551616 / 9223372036854775808=if x<c+y then 1 else 0:=by split <;> omega
 rw [e1,e2] at this
 exact this
theorem vh (zl:List Nat) (v:Nat) : ∀ q,q<zl.length+1→v<4294967296→(if q<zl.length then one (.int .u32 (zl.getD q 0:Nat)) else one (.int .u32 (v % 4294967296:Nat)))=one (.int .u32 ((zl ++ [v]).getD q 0:Nat)):=by
 intro q hq hv
 rw [Nat.mod_eq_of_lt hv]
 exact ry zl v q hq
attribute [local irreducible] J PJ aJ one slT cv bB bL exT cp eP aW aN slV VT.le Ret bK
theorem pp (a b:Nat) (hab:b≤a) (ha:(aF a).length≤1099511627776):Ok Tryz.prog 97 [ci (aF a),ci (aF b)] (oR (a - b)):=by
 refine Ok.enter Tryz.func97 Z Tryz.ntmps97 Z (fun w O => ?_)
 have hx:=a7 a
 have hy:=a7 b
 have hl:=bT hab
 have hva:=bQ a
 have hvb:=bQ b
 generalize aF a=lx at *
 generalize aF b=ly at *
 refine ae (aj (Cn Z (Cp (aa (ae (aj (kb (n:=0) Z Z Z Z Z ?_)))))))
 refine PartsK.nil (fun b => ?_)
 refine Cn Z (Cn Z (Cp (aa (ae (ae (aj (Cn Z (Cp (aa ?_)))))))))
 refine av ?_
 refine cA (σ:=List Nat × Nat × Option Nat × Nat) (fun s => [(0,ci lx),(1,ci ly),(5,one (slV s.2.2.1 s.1.length s.2.2.2)),(6,one (.int .i64 (s.2.1:Nat))),(7,one (.int .i64 s.1.length))])
   (fun s => [aN s.2.2.1 116 .one s.2.2.2 s.1.length (fun q=>one (.int .u32 (s.1.getD q 0:Nat)))]) (fun s=>MinusR lx ly s.1 s.2.1) (fun s=>lx.length - s.1.length) ([],0,some b,0)
   ⟨by simp,(fun d hd=>by cases hd),Nat.zero_le _,by simp [lv]⟩ Ci (.keep (bJ (fun q hq=>by omega)) .nil) (fun s hR => ?_)
 obtain ⟨zl,c,sv0,cap0⟩:=s
 simp only at hR ⊢
 have h3:=hR.c1
 have hlen:=hR.len
 refine ae (ae (aj (Cm Z (Cm Z (Cl (aV Z) (Cl (a9 Z Z) (Cp (aa ?_))))))))
 refine aZ Z (fun hc => ?_) (fun hc => ?_) <;> simp at hc
 ·have hstep:=RMinus.step hR hx hy hl hc
  have g1:=bg hx zl.length
  have g2:=bg hy zl.length
  refine aw (aa (ae (av (ae (aj (Cm Z (Cm Z ?_)))))))
  (refine Cl (ax Z Z ?_) ?_;omega)
  refine Cl (aG Z) ?_
  (refine Cl (fL Z ?_ ?_) ?_;omega;omega)
  refine Cm Z ?_
  (refine Cl (eG Z Z (aM ?_ ?_)) ?_;omega;omega)
  refine Cn Z (Cp (aa (ae (ae (aj (Cm Z (Cm Z (Cl (aV Z) (Cl (a9 Z Z) ?_)))))))))
  refine Cp (aa ?_)
  refine fE (σ:=Unit) (fun _ => [(0,ci lx),(1,ci ly),(5,one (slV sv0 zl.length cap0)),(8,one (.int .i64 ((lx.getD zl.length 0:Nat) - (c:Nat) - (ly.getD zl.length 0:Nat)))),(7,one (.int .i64 zl.length))])
   (fun _ => [aN sv0 116 .one cap0 zl.length (fun q=>one (.int .u32 (zl.getD q 0:Nat)))]) (fun _=>True) ?_ (fun _ _ => ?_)
  ·refine aZ Z (fun hc => ?_) (fun hc => ?_) <;> simp at hc
   ·refine aj (Cm Z (Cm Z (Cm Z ?_)))
    (refine Cl (ax Z Z ?_) ?_;omega)
    refine Cl (aG Z) ?_
    (refine Cl (fL Z ?_ ?_) ?_;omega;omega)
    (refine Cl (eG Z Z (aM ?_ ?_)) ?_;omega;omega)
    refine Cn Z (Cp ?_)
    exact cW () trivial Ci (SubM.refl _)
   ·have e0:ly.getD zl.length 0=0:=by simp [List.getElem?_eq_none (show ly.length≤zl.length by omega)]
    refine aw ?_
    exact cW () trivial Ci (SubM.refl _)
  ·generalize lx.getD zl.length 0=x at *
   generalize ly.getD zl.length 0=y at *
   refine aa (ae (aj (Cn Z (Cp (aa (ae (ae (aj (Cm Z ?_)))))))))
   refine Cl (a9 Z Z) (Cp (aa ?_))
   refine fE (σ:=Unit) (fun _ => [(0,ci lx),(1,ci ly),(5,one (slV sv0 zl.length cap0)),(6,one (.int .i64 ((if x<c+y then 1 else 0:Nat)))),(8,one (.int .i64 ((x+4294967296 - c - y) % 4294967296:Nat))),(7,one (.int .i64 zl.length))])
    (fun _ => [aN sv0 116 .one cap0 zl.length (fun q=>one (.int .u32 (zl.getD q 0:Nat)))]) (fun _=>True) ?_ (fun _ _ => ?_)
   ·refine aZ Z (fun hc => ?_) (fun hc => ?_) <;> simp at hc
    ·refine ae (aj (Cm Z ?_))
     (refine Cl (cj Z Z (aM ?_ ?_)) ?_;omega;omega)
     refine Cn Z (Cp (aa (aj (Cn Z (Cp ?_)))))
     rw [if_pos Y]
     exact cW () trivial (.cons Z H (.cons Z H (.cons Z H (.cons Z H (.cons Z (ao (by congr 1;omega)) (.cons Z H .nil)))))) (SubM.refl _)
    ·refine aw ?_
     rw [if_neg Y]
     exact cW () trivial (.cons Z H (.cons Z H (.cons Z H (.cons Z H (.cons Z (ao (by congr 1;omega)) (.cons Z H .nil)))))) (SubM.refl _)
   ·generalize (x+4294967296 - c - y) % 4294967296=d at *
    generalize (if x<c+y then 1 else 0)=c2 at *
    refine aa (aj (Cm Z (Cm Z (Cl (cG Z) (iX Z Z Z Z ?_)))))
    (refine cV 0 Z Z Z (leN Z) ?_ ?_ Z (ltN Z) (fun sv cap => ?_);omega;omega)
    refine Cn Z (Cp (aA (aa (aj (Cm Z ?_)))))
    (refine Cl (cj Z Z (aM ?_ ?_)) ?_;omega;omega)
    refine Cn Z (Cp ?_)
    refine bG (s:=(zl,c,sv0,cap0)) (zl ++ [d],c2,sv,cap) hstep ?_ (.cons Z H (.cons Z H (.cons Z (iZ (by simp)) (.cons Z H (.cons Z (ao (by simp)) .nil))))) (.keep (fU (by simp) (fun q hq=>vh zl _ q (by simpa using hq) (hstep.lim d (by simp)))) .nil)
    simp only [List.length_append,List.length_cons,List.length_nil,Nat.zero_add] at *
    omega
 ·have hlen:zl.length=lx.length:=by have:=hR.len;omega
  refine aX (au (au (aC (aa (ae (aj (Cm Z (Cn Z (Cp ?_)))))))))
  refine aa (aD (cJ (t:=4) (i:=0) Z Z ?_))
  refine aO Tryz.results97 (.tmp Z (ib (l:=zl) hR.lim ?_ Y))
  have h4:=hR.val
  rw [hlen,List.take_length,List.take_of_length_le Y,hva,hvb] at h4
  have h5:=gJ hR.lim
  rw [hlen] at h5
  have h6:=gJ hx
  rcases Nat.le_one_iff_eq_zero_or_eq_one.1 hR.c1 with h7 | h7 <;> simp only [h7,Nat.mul_zero,Nat.mul_one,Nat.add_zero] at h4 <;> omega
end Tor
end
section
namespace Tor
open Go Go.RowKit Go.Proofs
theorem rz (u:Nat) (h:u<18446744073709551616):VT.le (slT .one 2 (fun q => [one (.int .u32 ((u / 4294967296 % 4294967296:Nat):Int)),one (.int .u32 ((u % 4294967296:Nat):Int))].reverse.getD q bK)) (oR u):=by
 refine VT.le_trans (cX (m:=2) (ψ:=fun i=>one (.int .u32 ([u % 4294967296,u / 4294967296 % 4294967296].getD i 0:Nat))) Z (fun q hq => ?_)) (ib (l := [u % 4294967296,u / 4294967296 % 4294967296]) (fun d hd => ?_) ?_ (by simp))
 ·match q,hq with
  | 0, _ => rfl
  | 1, _ => rfl
 ·simp at hd;omega
 ·simp only [lv]; omega
attribute [local irreducible] J PJ aJ one slT cv bB bL exT cp eP aW aN slV VT.le Ret bK
theorem it (n:Int) (h1 : -9223372036854775808≤n) (h2:n≤9223372036854775807):Ok Tryz.prog 38 [one (.int .i64 n)] (aK n):=by
 refine Ok.enter Tryz.func38 Z Tryz.ntmps38 Z (fun w O => ?_)
 by_cases hn:n<0
 ·refine ae (aj ?_)
  refine aP (T:=43) Z (ltN Z) (fun b => ?_)
  refine Cp (aa (ae (aj (Cm Z (Cl (jq (r:=((18446744073709551616 - n.natAbs:Nat):Int)) Z (by rw [dV]; omega)) (Cn Z (Cp (aa (ae ?_)))))))))
  refine ae (aj (Cm Z (Cl (a9 Z Z) (Cp (aa ?_)))))
  refine aZ Z (fun hc => ?_) (fun hc => ?_) <;> simp at hc
  ·refine aj (Cm Z (Cl (zJ (r:=(n.natAbs:Int)) Z (by rw [dV]; omega)) (Cn Z (Cp (aa (ae (aj (Cm Z (Cl (cG Z) ?_)))))))))
   refine Cm Z (Cl (gl Z) (Cl (cG Z) (stS Z Z Z Z (PartsK.cons Z (PartsK.cons Z (PartsK.nil (Cm Z (Cl (a9 Z Z) ?_))))))))
   refine Cl (am (dt (decide (n<0)) n.natAbs) Z ⟨rz _ Y,H,Cq⟩) ?_
   refine aB 0 Z Z Z Z Z (leN Z) Z (Cp (aa (aD ?_)))
   exact aO Tryz.results38 (.cellB 0 Z Z Z (bZ (by rw [decide_eq_true hn,if_pos Z]; omega)))
  ·omega
 ·refine ae (aj ?_)
  refine aP (T:=43) Z (ltN Z) (fun b => ?_)
  refine Cp (aa (ae (aj (Cm Z (Cl (jq (r:=(n.natAbs:Int)) Z (by rw [dV]; omega)) (Cn Z (Cp (aa (ae ?_)))))))))
  refine ae (aj (Cm Z (Cl (a9 Z Z) (Cp (aa ?_)))))
  refine aZ Z (fun hc => ?_) (fun hc => ?_) <;> simp at hc
  ·omega
  ·refine aw (aa (ae (aj (Cm Z (Cl (cG Z) (Cm Z (Cl (gl Z) (Cl (cG Z) (stS Z Z Z Z ?_)))))))))
   refine PartsK.cons Z (PartsK.cons Z (PartsK.nil (Cm Z (Cl (a9 Z Z) ?_))))
   refine Cl (am (dt (decide (n<0)) n.natAbs) Z ⟨rz _ Y,H,Cq⟩) ?_
   refine aB 0 Z Z Z Z Z (leN Z) Z (Cp (aa (aD ?_)))
   exact aO Tryz.results38 (.cellB 0 Z Z Z (bZ (by rw [decide_eq_false hn]; simp;omega)))
theorem ys (n1 n2:Bool) (v1 v2:Nat) (h1:(aF v1).length≤1099511627776) (h2:(aF v2).length≤1099511627776):Ok Tryz.prog 59 [sgT n1 v1,sgT n2 v2] (aK (sv n1 v1+sv n2 v2)):=by
 refine Ok.enter Tryz.func59 Z Tryz.ntmps59 Z (fun w O => ?_)
 refine ae (aj ?_)
 refine aQ Z Z (ltN Z) (fun b => ?_)
 refine aQ Z Z (ltN Z) (fun b => ?_)
 refine aP (T:=43) Z (ltN Z) (fun b => ?_)
 refine Cp (aa (ae (ae (aj (Cl (ai Z) (Cl (ak 2 Z Z Z) (Cl (ai Z) (Cl (ak 1 Z Z Z) (Cl (mA Z Z) ?_)))))))))
 refine Cp (aa ?_)
 refine aZ Z (fun hc => ?_) (fun hc => ?_) <;> simp at hc
 ·subst hc
  refine ae (a4 8 aU X W (Cl (ai Z) (Cl (ak 2 Z Z Z) (Cl (ai Z) (Cl (ak 1 Z Z Z) ?_)))))
  refine Cl (am (wC _ _ h1 h2) Z ⟨H,H,Cq⟩) ?_
  refine Cl (ai Z) (Cl (ak 2 Z Z Z) ?_)
  refine Cl (am (dt _ _) Z ⟨H,H,Cq⟩) ?_
  refine Cp (aB 0 Z Z Z Z Z (leN Z) Z (Cp (aa (aD (aE ?_)))))
  exact aO Tryz.results59 (.cellB 0 Z Z Z (bZ (by unfold sv;split <;> omega)))
 ·refine aw (aa (ae (ae (aj (Cl (ai Z) (Cl (ak 2 Z Z Z) (Cl (ai Z) (Cl (ak 1 Z Z Z) ?_))))))))
  refine Cl (am (ld _ _) Z ⟨H,H,Cq⟩) ?_
  refine Cp (aa ?_)
  refine aZ Z (fun hc2 => ?_) (fun hc2 => ?_) <;> simp at hc2
  ·refine ae (a4 8 aU X W (Cl (ai Z) (Cl (ak 1 Z Z Z) (Cl (ai Z) (Cl (ak 2 Z Z Z) ?_)))))
   refine Cl (am (pp _ _ Y h2) Z ⟨H,H,Cq⟩) ?_
   refine Cl (ai Z) (Cl (ak 1 Z Z Z) ?_)
   refine Cl (am (dt _ _) Z ⟨H,H,Cq⟩) ?_
   refine Cp (aB 0 Z Z Z Z Z (leN Z) Z (Cp (aa (aD (aE ?_)))))
   exact aO Tryz.results59 (.cellB 0 Z Z Z (bZ (by unfold sv;cases n1 <;> cases n2 <;> simp at hc ⊢ <;> omega)))
  ·refine aw (aa (ae (a4 8 aU X W (Cl (ai Z) (Cl (ak 2 Z Z Z) (Cl (ai Z) (Cl (ak 1 Z Z Z) ?_)))))))
   refine Cl (am (pp _ _ Y h1) Z ⟨H,H,Cq⟩) ?_
   refine Cl (ai Z) (Cl (ak 2 Z Z Z) ?_)
   refine Cl (am (dt _ _) Z ⟨H,H,Cq⟩) ?_
   refine Cp (aB 0 Z Z Z Z Z (leN Z) Z (Cp (aa (aD ?_))))
   exact aO Tryz.results59 (.cellB 0 Z Z Z (bZ (by unfold sv;cases n1 <;> cases n2 <;> simp at hc ⊢ <;> omega)))
end Tor
end
section
namespace Tor
open Go Go.RowKit Go.Proofs
structure RTimesR (lx ly zz:List Nat) (i:Nat):Prop where
 le:i≤lx.length
 len:zz.length=lx.length+ly.length+1
 lim:bA zz
 zero : ∀ k,i+ly.length≤k→zz.getD k 0=0
 val:lv zz=lv (lx.take i)*lv ly
structure RTimesI (lx ly z0 zz:List Nat) (i j c:Nat):Prop where
 le:j≤ly.length+1
 top:ly.length<j→c=0
 len:zz.length=lx.length+ly.length+1
 lim:bA zz
 zero : ∀ k,i+ly.length<k→zz.getD k 0=0
 zer1:j≤ly.length→zz.getD (i+ly.length) 0=0
 c1:c<4294967296
 val:lv zz+4294967296^(i+j)*c=lv z0+4294967296^i*(lx.getD i 0*lv (ly.take j))
theorem RTimesI.step {lx ly z0 zz:List Nat} {i j c:Nat} (h:RTimesI lx ly z0 zz i j c) (hx:bA lx) (hy:bA ly) (hi:i<lx.length) (hgo:j<ly.length∨0<c) :
  RTimesI lx ly z0 (zz.set (i+j) ((c+zz.getD (i+j) 0+lx.getD i 0*ly.getD j 0) % 4294967296)) i (j+1) ((c+zz.getD (i+j) 0+lx.getD i 0*ly.getD j 0) / 4294967296):=by
 have hj:j≤ly.length:=by have:=h.le;have:=h.top;omega
 have hlim:=mY (bg hx i) (bg hy j) (bg h.lim (i+j)) h.c1
 have hlt:i+j<zz.length:=by rw [h.len]; omega
 refine ⟨by omega,fun ht => ?_,by rw [List.length_set]; exact h.len,h.lim.set Y,fun k hk => ?_,fun hk => ?_,by omega,?_⟩
 ·have e:j=ly.length:=by omega
  subst e
  rw [h.zer1 (Nat.le_refl _)]
  have e2:ly.getD ly.length 0=0:=by simp
  rw [e2,Nat.mul_zero]
  have:=h.c1;omega
 ·rw [ee hlt,if_neg Y]; exact h.zero k hk
 ·rw [ee hlt,if_neg Y]; exact h.zer1 Y
 ·have hs:=f7 (l:=zz) (k:=i+j) (v:=(c+zz.getD (i+j) 0+lx.getD i 0*ly.getD j 0) % 4294967296) hlt
  have hv:=h.val
  rw [gL]
  generalize lx.getD i 0=x at *
  generalize ly.getD j 0=y at *
  generalize zz.getD (i+j) 0=z at *
  have e:c+z+x*y=4294967296*((c+z+x*y) / 4294967296)+(c+z+x*y) % 4294967296:=by omega
  generalize (c+z+x*y) / 4294967296=q at *
  generalize (c+z+x*y) % 4294967296=r at *
  rw [show i+(j+1)=(i+j)+1 by omega,Nat.pow_succ]
  have eB:4294967296^i*4294967296^j=4294967296^(i+j):=(Nat.pow_add _ _ _).symm
  have e3:4294967296^i*(x*(lv (ly.take j)+4294967296^j*y))=4294967296^i*(x*lv (ly.take j))+4294967296^(i+j)*(x*y):=by
   rw [Nat.mul_add,Nat.mul_add, ← eB]
   congr 1
   rw [Nat.mul_assoc]; congr 1
   rw [Nat.mul_left_comm]
  rw [e3]
  generalize 4294967296^(i+j)=B at *
  have e2:B*(c+z+x*y)=B*(4294967296*q+r):=by rw [e]
  simp only [Nat.mul_add, ← Nat.mul_assoc] at e2 ⊢ hs hv
  omega
theorem RTimesR.start {lx ly z0:List Nat} {i:Nat} (h:RTimesR lx ly z0 i):RTimesI lx ly z0 z0 i 0 0 :=
 ⟨Nat.zero_le _,fun _=>rfl,h.len,h.lim,fun k hk=>h.zero k Y,fun _=>h.zero _ (Nat.le_refl _),by omega,by simp [lv]⟩
theorem RTimesI.finish {lx ly z0 zz:List Nat} {i j:Nat} (h0:RTimesR lx ly z0 i) (h:RTimesI lx ly z0 zz i j 0) (hj:ly.length≤j) (hi:i<lx.length):RTimesR lx ly zz (i+1):=by
 refine ⟨hi,h.len,h.lim,fun k hk=>h.zero k Y,?_⟩
 have hv:=h.val
 rw [Nat.mul_zero,Nat.add_zero,List.take_of_length_le hj,h0.val] at hv
 rw [hv,bF hi,Nat.add_mul,Nat.mul_assoc]
attribute [local irreducible] J PJ aJ one slT cv bB bL exT cp eP aW aN slV VT.le Ret bK
attribute [local irreducible] aK
theorem yt (n1 n2:Bool) (v1 v2:Nat) (h1:(aF v1).length≤1099511627776) (h2:(aF v2).length≤1099511627776):Ok Tryz.prog 58 [sgT n1 v1,sgT n2 v2] (aK (sv n1 v1*sv n2 v2)):=by
 unfold sgT
 refine Ok.enter Tryz.func58 Z Tryz.ntmps58 Z (fun w O => ?_)
 have hx:=a7 v1
 have hy:=a7 v2
 have hva:=bQ v1
 have hvb:=bQ v2
 generalize aF v1=lx at *
 generalize aF v2=ly at *
 refine ae (aj ?_)
 refine aQ Z Z (ltN Z) (fun b => ?_)
 refine aQ Z Z (ltN Z) (fun b => ?_)
 refine aP (T:=43) Z (ltN Z) (fun b => ?_)
 refine Cp (aa (ae (aj (Cl (ai Z) (Cl (ak 2 Z Z Z) (Cl (aV Z) (Cl (ai Z) (Cl (ak 1 Z Z Z) (Cl (aV Z) ?_)))))))))
 (refine Cl (cj Z Z (aM ?_ ?_)) ?_;omega;omega)
 (refine Cl (cj Z Z (aM ?_ ?_)) ?_;omega;omega)
 rename_i ba bb
 refine bX (lx.length+ly.length+1) (lx.length+ly.length+1) Z Z (by simp) (by simp) (Nat.le_refl _) Z Z Y Z Z (fun bz => ?_)
 refine Cn Z (Cp (aa (ae (ae (aj (Cn Z (Cp (aa (av ?_)))))))))
 refine cA (σ:=List Nat × Nat) (fun s => [(2,one (.pointer (some ⟨ba,0,none⟩))),(3,one (.pointer (some ⟨bb,0,none⟩))),(4,one (.pointer (some ⟨b,0,none⟩))),(5,one (slV (some bz) (lx.length+ly.length+1) (lx.length+ly.length+1))),(6,one (.int .i64 (s.2:Nat)))])
   (fun s => [aN (some bz) 116 .one (lx.length+ly.length+1) (lx.length+ly.length+1) (fun q=>one (.int .u32 (s.1.getD q 0:Nat))),aW b 43 2 [(0, .agg 2,one (.agg #[.bool false, .slice none 0 0]))],aW bb 43 2 [(0, .one,one (.bool n2)),(1, .one,ci ly)],aW ba 43 2 [(0, .one,one (.bool n1)),(1, .one,ci lx)]])
   (fun s=>RTimesR lx ly s.1 s.2) (fun s=>lx.length - s.2) (List.replicate (lx.length+ly.length+1) 0,0)
   ⟨Nat.zero_le _,by simp,bA.replicate _,fun k _=>cD _ _,by simp [er,lv]⟩ Ci (.keep (bJ (fun q _=>by rw [cD]; rfl)) (SubM.refl _)) (fun s hR => ?_)
 obtain ⟨z0,i⟩:=s
 simp only at hR ⊢
 refine ae (ae (aj (Cm Z (Cl (ai Z) (Cl (ak 3 Z Z Z) (Cl (aV Z) (Cl (a9 Z Z) (Cp (aa ?_)))))))))
 refine aZ Z (fun hc => ?_) (fun hc => ?_) <;> simp at hc
 ·have g1:=bg hx i
  refine aw (aa (ae (av (ae (aj (Cn Z (Cp (aa (ae ?_)))))))))
  refine aj (Cn Z (Cp (aa (av ?_))))
  refine cA (σ:=List Nat × Nat × Nat) (fun s => [(2,one (.pointer (some ⟨ba,0,none⟩))),(3,one (.pointer (some ⟨bb,0,none⟩))),(4,one (.pointer (some ⟨b,0,none⟩))),(5,one (slV (some bz) (lx.length+ly.length+1) (lx.length+ly.length+1))),(6,one (.int .i64 (i:Nat))),(7,one (.int .u64 (s.2.2:Nat))),(8,one (.int .i64 (s.2.1:Nat)))])
   (fun s => [aN (some bz) 116 .one (lx.length+ly.length+1) (lx.length+ly.length+1) (fun q=>one (.int .u32 (s.1.getD q 0:Nat))),aW b 43 2 [(0, .agg 2,one (.agg #[.bool false, .slice none 0 0]))],aW bb 43 2 [(0, .one,one (.bool n2)),(1, .one,ci ly)],aW ba 43 2 [(0, .one,one (.bool n1)),(1, .one,ci lx)]])
   (fun s=>RTimesI lx ly z0 s.1 i s.2.1 s.2.2) (fun s=>ly.length+1 - s.2.1) (z0,0,0)
   hR.start Ci (SubM.refl _) (fun s hI => ?_)
  obtain ⟨zz,j,c⟩:=s
  simp only at hI ⊢
  have g0:=hI.c1
  have gj:=hI.le
  refine ae (ae ?_)
  refine fE (σ:=Unit) (fun _ => [(2,one (.pointer (some ⟨ba,0,none⟩))),(3,one (.pointer (some ⟨bb,0,none⟩))),(4,one (.pointer (some ⟨b,0,none⟩))),(5,one (slV (some bz) (lx.length+ly.length+1) (lx.length+ly.length+1))),(6,one (.int .i64 (i:Nat))),(7,one (.int .u64 (c:Nat))),(8,one (.int .i64 (j:Nat))),(33,one (.bool (decide (j<ly.length∨0<c))))])
   (fun _ => [aN (some bz) 116 .one (lx.length+ly.length+1) (lx.length+ly.length+1) (fun q=>one (.int .u32 (zz.getD q 0:Nat))),aW b 43 2 [(0, .agg 2,one (.agg #[.bool false, .slice none 0 0]))],aW bb 43 2 [(0, .one,one (.bool n2)),(1, .one,ci ly)],aW ba 43 2 [(0, .one,one (.bool n1)),(1, .one,ci lx)]]) (fun _=>True) ?_ (fun _ _ => ?_)
  ·refine aj (Cm Z (Cl (ai Z) (Cl (ak 2 Z Z Z) (Cl (aV Z) (Cl (a9 Z Z) (Cm Z ?_))))))
   refine ka (t:=29) Z (fun bo hb => ?_)
   rw [hb]
   cases bo
   ·simp at hb
    refine Co (ab Z) (Co (ek Z Z) (Cl (bj Z Z) (Cp ?_)))
    exact cW () trivial (.cons Z H (.cons Z H (.cons Z H (.cons Z H (.cons Z H (.cons Z H (.cons Z H (.cons Z (ao (by congr 1;rw [decide_eq_decide]; omega)) .nil)))))))) (SubM.refl _)
   ·simp at hb
    refine sg0 Z Z Z Z (sg0 Z Z Z Z (Cl (a6 Z Z) (Cp ?_)))
    exact cW () trivial (.cons Z H (.cons Z H (.cons Z H (.cons Z H (.cons Z H (.cons Z H (.cons Z H (.cons Z (ao (by simp;omega)) .nil)))))))) (SubM.refl _)
  ·refine aa ?_
   refine aZ Z (fun hc2 => ?_) (fun hc2 => ?_) <;> simp only [decide_eq_true_eq,decide_eq_false_iff_not] at hc2
   ·have hstep:=hI.step hx hy hc hc2
    have hjl:j≤ly.length:=by have:=hI.top;omega
    have g2:=bg hy j
    have g3:=bg hI.lim (i+j)
    have g4:=mY g1 g2 g3 g0
    have hlt:i+j<zz.length:=by rw [hI.len]; omega
    refine aw (aa (ae (av (ae (aj (Cm Z (Cm Z (Cm Z (Cm Z ?_)))))))))
    (refine Cl (cj Z Z (aM ?_ ?_)) ?_;omega;omega)
    (refine Cl (an Z Z ?_) ?_;omega)
    (refine Cl (bn 0 Z Z ?_) ?_;omega)
    (refine Cl (bM Z ?_) ?_;omega)
    (refine Cl (ep Z Z ?_) ?_;omega)
    refine Cn Z (Cp (aa (ae (ae (aj (Cm Z (Cl (ai Z) (Cl (ak 2 Z Z Z) (Cl (aV Z) ?_)))))))))
    refine Cl (a9 Z Z) (Cp (aa ?_))
    refine fE (σ:=Unit) (fun _ => [(2,one (.pointer (some ⟨ba,0,none⟩))),(3,one (.pointer (some ⟨bb,0,none⟩))),(4,one (.pointer (some ⟨b,0,none⟩))),(5,one (slV (some bz) (lx.length+ly.length+1) (lx.length+ly.length+1))),(6,one (.int .i64 (i:Nat))),(7,one (.int .u64 (c+zz.getD (i+j) 0+lx.getD i 0*ly.getD j 0:Nat))),(8,one (.int .i64 (j:Nat)))])
     (fun _ => [aN (some bz) 116 .one (lx.length+ly.length+1) (lx.length+ly.length+1) (fun q=>one (.int .u32 (zz.getD q 0:Nat))),aW b 43 2 [(0, .agg 2,one (.agg #[.bool false, .slice none 0 0]))],aW bb 43 2 [(0, .one,one (.bool n2)),(1, .one,ci ly)],aW ba 43 2 [(0, .one,one (.bool n1)),(1, .one,ci lx)]]) (fun _=>True) ?_ (fun _ _ => ?_)
    ·refine aZ Z (fun hc3 => ?_) (fun hc3 => ?_) <;> simp only [decide_eq_true_eq,decide_eq_false_iff_not] at hc3
     ·skip
      refine a4 16 aU X W (Cm Z (Cl (ai Z) (Cl (ak 3 Z Z Z) (Cm Z ?_))))
      (refine Cl (ax Z Z ?_) ?_;omega)
      refine Cl (aG Z) ?_
      (refine Cl (bM Z ?_) ?_;omega)
      refine Cl (ai Z) (Cl (ak 2 Z Z Z) (Cm Z ?_))
      (refine Cl (ax Z Z ?_) ?_;omega)
      refine Cl (aG Z) ?_
      (refine Cl (bM Z ?_) ?_;omega)
      (refine Cl (io Z Z ?_) ?_;omega)
      (refine Cl (ep Z Z ?_) ?_;omega)
      refine Cn Z (Cp (Cp ?_))
      exact cW () trivial Ci (SubM.refl _)
     ·have e0:ly.getD j 0=0:=by simp [List.getElem?_eq_none (show ly.length≤j by omega)]
      refine aw ?_
      refine cW () trivial ?_ (SubM.refl _)
      rw [e0,Nat.mul_zero,Nat.add_zero]
      exact Ci
    ·refine aa (ae (aj (Cm Z (Cm Z (Cm Z ?_)))))
     (refine Cl (cj Z Z (aM ?_ ?_)) ?_;omega;omega)
     refine Cm Z (Cl (cG Z) ?_)
     (refine Cl (an Z Z ?_) ?_;omega)
     (refine ay 0 Z Z Z ?_ Z ?_;omega)
     refine Cp (aa (aj (Cm Z ?_)))
     (refine Cl (tO Z ?_) ?_;omega)
     refine Cn Z (Cp (aA (aa (aj (Cm Z ?_)))))
     (refine Cl (cj Z Z (aM ?_ ?_)) ?_;omega;omega)
     refine Cn Z (Cp ?_)
     refine bG (s:=(zz,j,c)) (zz.set (i+j) ((c+zz.getD (i+j) 0+lx.getD i 0*ly.getD j 0) % 4294967296),j+1,(c+zz.getD (i+j) 0+lx.getD i 0*ly.getD j 0) / 4294967296) hstep (by show ly.length+1 - (j+1)<ly.length+1 - j;omega) Ci (.keep (bJ (fun q hq => ?_)) (SubM.refl _))
     unfold upd;rw [ee hlt]; split <;> rfl
   ·have hc0:c=0:=by omega
    subst hc0
    have hfin:=hI.finish hR Y hc
    refine aX (au (au (aC (aA (aa (aj (Cm Z ?_)))))))
    (refine Cl (cj Z Z (aM ?_ ?_)) ?_;omega;omega)
    refine Cn Z (Cp ?_)
    exact bG (s:=(z0,i)) (zz,i+1) hfin (by show lx.length - (i+1)<lx.length - i;omega) Ci (SubM.refl _)
 ·have hi:i=lx.length:=by have:=hR.le;omega
  refine aX (au (au (aC (aa (ae (aj (Cm Z (Cl (ai Z) (Cl (ak 3 Z Z Z) ?_)))))))))
  refine Cl (ai Z) (Cl (ak 2 Z Z Z) (Cl (jp Z Z) (iT (t:=74) (j:=0) Z Z ?_)))
  skip
  refine Cl (am (dt _ (v1*v2)) Z ⟨VT.le_trans (cX (m:=z0.length) (ψ:=fun i=>one (.int .u32 (z0.getD i 0:Nat))) hR.len.symm (fun q hq=>rfl)) (ib (l:=z0) hR.lim ?_ ?_),H,Cq⟩) ?_
  ·rw [hR.val,hi,List.take_length,hva,hvb]
  ·rw [hR.len]; omega
  refine aB 0 Z Z Z Z Z (leN Z) Z (Cp (aa (aD ?_)))
  exact aO Tryz.results58 (.cellB 0 Z Z Z (bZ (by cases n1 <;> cases n2 <;> simp [sv,Int.neg_mul,Int.mul_neg])))
end Tor
end
section
namespace Tor
open Go Go.RowKit Go.Proofs
def kz (neg:Bool) (l:List Nat):VT:=bB 2 [(0, .one,one (.bool neg)),(1, .one,ci l)]
def fJ (neg:Bool) (l:List Nat):Bool:=if l.length=0 then !neg else decide (l.getD (l.length - 1) 0≠0)
theorem wD (x:Int):VT.le (aK x) (kz (decide (x<0)) (aF x.natAbs)):=VT.le_refl _
attribute [local irreducible] J PJ aJ one slT cv bB bL exT cp eP aW aN slV VT.le Ret bK
theorem vi (neg:Bool) (l:List Nat) (hl:l.length≤4398046511104):Ok Tryz.prog 92 [kz neg l] (one (.bool (fJ neg l))):=by
 unfold kz
 refine Ok.enter Tryz.func92 Z Tryz.ntmps92 Z (fun w O => ?_)
 by_cases h0:l.length=0
 ·refine ae (aj ?_)
  refine aQ Z Z (ltN Z) (fun b => ?_)
  refine Cn Z (Cp (aa (ae (ae (aj (Cl (ai Z) (Cl (ak 0 Z Z Z) (Cl (aV Z) (Cl (cN Z Z) ?_)))))))))
  refine Cp (aa ?_)
  refine aZ Z (fun hc => ?_) (fun hc => ?_) <;> simp only [decide_eq_true_eq,decide_eq_false_iff_not] at hc
  ·refine ae (aj (Cl (ai Z) (Cl (ak 0 Z Z Z) (Cl (bS Z) (Cn Z (Cp (aa (aD (aE ?_)))))))))
   exact aO Tryz.results92 (.tmp Z (ao (by unfold fJ;rw [if_pos h0])))
  ·omega
 ·refine ae (aj ?_)
  refine aQ Z Z (ltN Z) (fun b => ?_)
  refine Cn Z (Cp (aa (ae (ae (aj (Cl (ai Z) (Cl (ak 0 Z Z Z) (Cl (aV Z) (Cl (cN Z Z) ?_)))))))))
  refine Cp (aa ?_)
  refine aZ Z (fun hc => ?_) (fun hc => ?_) <;> simp only [decide_eq_true_eq,decide_eq_false_iff_not] at hc
  ·omega
  ·refine aw (aa (ae (aj (Cl (ai Z) (Cl (ak 0 Z Z Z) (Cl (ai Z) (Cl (ak 0 Z Z Z) (Cl (aV Z) ?_))))))))
   (refine Cl (eG Z Z (aM ?_ ?_)) ?_;omega;omega)
   (refine Cl (ev Z Z ?_ ?_) ?_;omega;omega)
   refine Cl (aG Z) (Cl (c8 Z Z) (Cn Z (Cp (aa (aD ?_)))))
   refine aO Tryz.results92 (.tmp Z (ao ?_))
   have e:(↑l.length - 1:Int).toNat=l.length - 1:=by omega
   unfold fJ;rw [if_neg h0,e]; congr 1;rw [decide_eq_decide]; omega
end Tor
end
section
namespace Tor
open Go Go.RowKit Go.Proofs
def mf (v:List Int):VT:=slT (.agg 2) v.length (fun i=>aK (v.getD i 0))
theorem qe {u v:List Int} {i:Nat} (h:u.take i=v.take i) (hl:u.length=v.length) (hi:i<u.length) (he:u.getD i 0=v.getD i 0):u.take (i+1)=v.take (i+1):=by
 rw [List.take_add_one,List.take_add_one,h,List.getElem?_eq_getElem hi,List.getElem?_eq_getElem (hl▸hi)]
 simp only [List.getD,List.getElem?_eq_getElem hi,List.getElem?_eq_getElem (hl▸hi),Option.getD_some] at he
 rw [he]
attribute [local irreducible] J PJ aJ one slT cv bB bL exT cp eP aW aN slV VT.le Ret bK
attribute [local irreducible] aK
theorem rA (u v:List Int):Ok Tryz.prog 66 [mf u,mf v] (one (.bool (decide (u=v)))):=by
 unfold mf
 refine Ok.enter Tryz.func66 Z Tryz.ntmps66 Z (fun w O => ?_)
 refine iS (t:=0) Z (fun _ _=>ff) (fun hb => ?_)
 refine ae (aj (Cn Z (Cp (aa (ae (ae (aj (Cm Z (Cl (aV Z) ?_)))))))))
 refine Cm Z (Cl (aV Z) (Cl (c8 Z Z) (Cp (aa ?_))))
 refine aZ Z (fun hc => ?_) (fun hc => ?_) <;> simp only [decide_eq_true_eq,decide_eq_false_iff_not,ne_eq,Decidable.not_not] at hc
 ·refine ae (aj (Cn Z (Cp (aa (aD (aE ?_))))))
  refine aO Tryz.results66 (.tmp Z (ao ?_))
  have : ¬ (u=v):=by intro e;subst e;exact hc Z
  simp [this]
 ·have hlen:u.length=v.length:=by omega
  refine aw (aa (ae (ae (aj (Cn Z (Cp (aa (av ?_))))))))
  refine cA (σ:=Nat) (fun i => [(0,mf u),(1,mf v),(5,one (.int .i64 (i:Nat)))]) (fun _ => []) (fun i=>i≤u.length∧u.take i=v.take i) (fun i=>u.length - i) 0 ⟨Nat.zero_le _,rfl⟩ Ci (SubM.refl _) (fun i ⟨hi,ht⟩ => ?_)
  unfold mf
  refine ae (ae (aj (Cm Z (Cm Z (Cl (aV Z) (Cl (a9 Z Z) (Cp (aa ?_))))))))
  refine aZ Z (fun hc => ?_) (fun hc => ?_) <;> simp at hc
  ·refine aw (aa (ae (av (ae (a4 10 aU X W (Cm Z (Cm Z ?_)))))))
   (refine Cl (ax Z Z ?_) ?_;omega)
   refine Cl (aG Z) (Cm Z (Cm Z ?_))
   (refine Cl (ax Z Z ?_) ?_;omega)
   refine Cl (aG Z) ?_
   refine Cl (am (nR _ _) Z ⟨H,H,Cq⟩) ?_
   refine Cl (bS Z) (Cp (Cp (aa ?_)))
   refine aZ Z (fun hc2 => ?_) (fun hc2 => ?_)
   ·simp at hc2
    refine ae (aj (Cn Z (Cp (aa (aD (be (aE (aE (be ?_)))))))))
    refine aE ?_
    refine aO Tryz.results66 (.tmp Z (ao ?_))
    have : ¬ (u=v):=by intro e;subst e;exact hc2 Z
    simp [this]
   ·have he:u.getD i 0=v.getD i 0:=by simpa using hc2
    refine aw (aA (aa (aj (Cm Z ?_))))
    (refine Cl (cj Z Z (aM ?_ ?_)) ?_;omega;omega)
    refine Cn Z (Cp ?_)
    exact bG (s:=i) (i+1) ⟨by omega,qe ht hlen Y he⟩ (by show u.length - (i+1)<u.length - i;omega) Ci (SubM.refl _)
  ·refine aX (au (au (aC (aa (ae (aj (Cn Z (Cp (aa ?_)))))))))
   refine aD ?_
   refine aO Tryz.results66 (.tmp Z (ao ?_))
   rw [List.take_of_length_le Y,List.take_of_length_le Y] at ht
   simp [ht]
end Tor
end
section
namespace Tor
open Go Go.RowKit Go.Proofs
def nS (a:List (List Int)):VT:=slT .one a.length (fun i=>mf (a.getD i []))
def vj (r c:Int) (a:List (List Int)):VT:=bB 3 [(0, .one,one (.int .i64 r)),(1, .one,one (.int .i64 c)),(2, .one,nS a)]
theorem oS {u v:List (List Int)} {i:Nat} (h:u.take i=v.take i) (hl:u.length=v.length) (hi:i<u.length) (he:u.getD i []=v.getD i []):u.take (i+1)=v.take (i+1):=by
 rw [List.take_add_one,List.take_add_one,h,List.getElem?_eq_getElem hi,List.getElem?_eq_getElem (hl▸hi)]
 simp only [List.getD,List.getElem?_eq_getElem hi,List.getElem?_eq_getElem (hl▸hi),Option.getD_some] at he
 rw [he]
attribute [local irreducible] J PJ aJ one slT cv bB bL exT cp eP aW aN slV VT.le Ret bK
attribute [local irreducible] aK mf
theorem rB (r c r' c':Int) (u v:List (List Int)) (hu:u.length≤281474976710656):Ok Tryz.prog 27 [vj r c u,vj r' c' v] (one (.bool (decide (r=r'∧c=c'∧u=v)))):=by
 unfold vj nS
 refine Ok.enter Tryz.func27 Z Tryz.ntmps27 Z (fun w O => ?_)
 refine ae (aj ?_)
 refine aQ Z Z (ltN Z) (fun b => ?_)
 refine aQ Z Z (ltN Z) (fun b => ?_)
 refine Cn Z (Cp (aa (ae (ae (aj (Cl (ai Z) (Cl (ak 1 Z Z Z) (Cl (ai Z) (Cl (ak 0 Z Z Z) ?_)))))))))
 refine Cl (c8 Z Z) (Cm Z ?_)
 rename_i ba
 refine ka (t:=10) Z (fun bo hb => ?_)
 rw [hb]
 cases bo
 ·have e1:r=r':=by simpa using hb
  refine Co (ai Z) (Co (ak 1 Z Z Z) (Co (ai Z) (Co (ak 0 Z Z Z) (Co (c8 Z Z) (Cl (bj Z Z) (Cm Z ?_))))))
  refine ka (t:=17) Z (fun bo hb2 => ?_)
  rw [hb2]
  cases bo
  ·have e2:c=c':=by simpa using hb2
   subst e1 e2
   refine Co (ai Z) (Co (ak 1 Z Z Z) (Co (aV Z) (Co (ai Z) (Co (ak 0 Z Z Z) (Co (aV Z) (Co (c8 Z Z) (Cl (bj Z Z) (Cp (aa ?_)))))))))
   refine aZ Z (fun hc => ?_) (fun hc => ?_) <;> simp only [decide_eq_true_eq,decide_eq_false_iff_not,ne_eq,Decidable.not_not] at hc
   ·refine ae (aj (Cn Z (Cp (aa (aD (aE ?_))))))
    refine aO Tryz.results27 (.tmp Z (ao ?_))
    have : ¬ (u=v):=by intro e;subst e;exact hc Z
    simp [this]
   ·have hlen:u.length=v.length:=by omega
    refine aw (aa (ae (ae (aj (Cn Z (Cp (aa (av ?_))))))))
    refine cA (σ:=Nat) (fun i => [(2,one (.pointer (some ⟨ba,0,none⟩))),(3,one (.pointer (some ⟨b,0,none⟩))),(5,one (.int .i64 (i:Nat)))])
     (fun _ => [aW b 28 3 [(0, .one,one (.int .i64 r)),(1, .one,one (.int .i64 c)),(2, .one,nS v)],aW ba 28 3 [(0, .one,one (.int .i64 r)),(1, .one,one (.int .i64 c)),(2, .one,nS u)]])
     (fun i=>i≤u.length∧u.take i=v.take i) (fun i=>u.length - i) 0 ⟨Nat.zero_le _,rfl⟩ Ci (SubM.refl _) (fun i ⟨hi,ht⟩ => ?_)
    unfold nS
    refine ae (ae (aj (Cm Z (Cl (ai Z) (Cl (ak 1 Z Z Z) (Cl (aV Z) (Cl (a9 Z Z) (Cp (aa ?_)))))))))
    refine aZ Z (fun hc => ?_) (fun hc => ?_) <;> simp at hc
    ·refine aw (aa (ae (av (ae (a4 12 aU X W (Cl (ai Z) (Cl (ak 1 Z Z Z) (Cm Z ?_))))))))
     (refine Cl (ax Z Z ?_) ?_;omega)
     refine Cl (aG Z) (Cl (ai Z) (Cl (ak 0 Z Z Z) (Cm Z ?_)))
     (refine Cl (ax Z Z ?_) ?_;omega)
     refine Cl (aG Z) ?_
     refine Cl (am (rA _ _) Z ⟨H,H,Cq⟩) ?_
     refine Cl (bS Z) (Cp (Cp (aa ?_)))
     refine aZ Z (fun hc2 => ?_) (fun hc2 => ?_)
     ·simp at hc2
      refine ae (aj (Cn Z (Cp (aa (aD (be (aE (aE (be ?_)))))))))
      refine aE ?_
      refine aO Tryz.results27 (.tmp Z (ao ?_))
      have : ¬ (u=v):=by intro e;subst e;exact hc2 Z
      simp [this]
     ·have he:u.getD i []=v.getD i []:=by simpa using hc2
      refine aw (aA (aa (aj (Cm Z ?_))))
      (refine Cl (cj Z Z (aM ?_ ?_)) ?_;omega;omega)
      refine Cn Z (Cp ?_)
      exact bG (s:=i) (i+1) ⟨by omega,oS ht hlen Y he⟩ (by show u.length - (i+1)<u.length - i;omega) Ci (SubM.refl _)
    ·refine aX (au (au (aC (aa (ae (aj (Cn Z (Cp (aa ?_)))))))))
     refine aD ?_
     refine aO Tryz.results27 (.tmp Z (ao ?_))
     rw [List.take_of_length_le Y,List.take_of_length_le Y] at ht
     simp [ht]
  ·have e2 : ¬ c=c':=by simpa using hb2
   refine sg0 Z Z Z Z (sg0 Z Z Z Z (sg0 Z Z Z Z (sg0 Z Z Z Z (sg0 Z Z Z Z (sg0 Z Z Z Z (sg0 Z Z Z Z (Cl (a6 Z Z) (Cp (aa ?_)))))))))
   refine aZ Z (fun hc => ?_) (fun hc => ?_)
   ·refine ae (aj (Cn Z (Cp (aa (aD (aE ?_))))))
    refine aO Tryz.results27 (.tmp Z (ao ?_))
    simp [e2]
   ·cases hc
 ·have e1 : ¬ r=r':=by simpa using hb
  refine sg0 Z Z Z Z (sg0 Z Z Z Z (sg0 Z Z Z Z (sg0 Z Z Z Z (sg0 Z Z Z Z (Cl (a6 Z Z) (Cm Z (sg0 Z Z Z Z (sg0 Z Z Z Z (sg0 Z Z Z Z ?_)))))))))
  refine sg0 Z Z Z Z (sg0 Z Z Z Z (sg0 Z Z Z Z (sg0 Z Z Z Z (Cl (a6 Z Z) (Cp (aa ?_))))))
  refine aZ Z (fun hc => ?_) (fun hc => ?_)
  ·refine ae (aj (Cn Z (Cp (aa (aD (aE ?_))))))
   refine aO Tryz.results27 (.tmp Z (ao ?_))
   simp [e1]
  ·cases hc
end Tor
end
section
namespace Tor
open Go Go.RowKit Go.Proofs
def dX (v:List (Bool × List Nat)):VT:=slT (.agg 2) v.length (fun i=>kz (v.getD i (false, [])).1 (v.getD i (false, [])).2)
def lf (x:Int):Bool × List Nat:=(decide (x<0),aF x.natAbs)
theorem wE (v:List Int):VT.le (mf v) (dX (v.map lf)):=by
 unfold mf dX
 refine VT.le_trans (eo (ψ:=fun i=>kz ((v.map lf).getD i (false, [])).1 ((v.map lf).getD i (false, [])).2) (fun i hi => ?_)) (by rw [List.length_map]; exact VT.le_refl _)
 simp only [List.getD,List.getElem?_map,List.getElem?_eq_getElem hi,Option.map_some,Option.getD_some]
 exact wD _
theorem lg : ∀ {l:List Nat},gp l→0<l.length→l.getD (l.length - 1) 0≠0
 | [], _, h => absurd h W
 | [d], h, _ => h
 | _ :: d :: l, h, _ => lg (l := d :: l) h (by simp)
theorem s9 (x:Int):fJ (lf x).1 (lf x).2=true:=by
 unfold fJ lf
 simp only
 split
 ·rename_i h
  have e:=List.eq_nil_of_length_eq_zero h
  have:x.natAbs=0:=by rw [← bQ x.natAbs,e]; rfl
  have : ¬ x<0:=by omega
  simp [this]
 ·rename_i h
  have:=lg (k9 x.natAbs) Y
  simpa using this
theorem fK (x:Int):dQ x=0↔x=0:=by
 unfold dQ
 constructor
 ·intro h;split at h
  ·assumption
  ·split at h <;> omega
 ·intro h;rw [if_pos h]
theorem mZ {α:Type} {p:α→Bool} {v:List α} {d:α} {i:Nat} (h:(v.take i).all p=true) (hi:i<v.length) (he:p (v.getD i d)=true):(v.take (i+1)).all p=true:=by
 rw [List.take_add_one,List.all_append,h,List.getElem?_eq_getElem hi]
 simp only [List.getD,List.getElem?_eq_getElem hi,Option.getD_some] at he
 simp [he]
theorem mg {α:Type} {p:α→Bool} {v:List α} {d:α} {i:Nat} (hi:i<v.length) (he:p (v.getD i d)=false):v.all p=false:=by
 simp only [List.getD,List.getElem?_eq_getElem hi,Option.getD_some] at he
 rw [List.all_eq_false]; exact ⟨_,List.getElem_mem hi,by simp [he]⟩
attribute [local irreducible] J PJ aJ one slT cv bB bL exT cp eP aW aN slV VT.le Ret bK
attribute [local irreducible] aK kz
theorem qf (v:List (Bool × List Nat)) (hv : ∀ p∈v,p.2.length≤4398046511104):Ok Tryz.prog 103 [dX v] (one (.bool (v.all fun p=>fJ p.1 p.2))):=by
 unfold dX
 refine Ok.enter Tryz.func103 Z Tryz.ntmps103 Z (fun w O => ?_)
 refine iS (t:=0) Z (fun _ _=>ff) (fun hb => ?_)
 refine ae (aj (Cn Z (Cp (aa (ae (ae (aj (Cn Z (Cp ?_)))))))))
 refine aa (av ?_)
 refine cA (σ:=Nat) (fun i => [(0,dX v),(3,one (.int .i64 (i:Nat)))]) (fun _ => []) (fun i=>i≤v.length∧(v.take i).all (fun p=>fJ p.1 p.2)=true) (fun i=>v.length - i) 0 ⟨Nat.zero_le _,rfl⟩ Ci (SubM.refl _) (fun i ⟨hi,ht⟩ => ?_)
 unfold dX
 refine ae (ae (aj (Cm Z (Cm Z (Cl (aV Z) (Cl (a9 Z Z) (Cp (aa ?_))))))))
 refine aZ Z (fun hc => ?_) (fun hc => ?_) <;> simp at hc
 ·have hm:(v.getD i (false, [])).2.length≤4398046511104:=by
   simp only [List.getD,List.getElem?_eq_getElem hc,Option.getD_some]
   exact hv _ (List.getElem_mem hc)
  refine aw (aa (ae (av (ae (aj (Cm Z (Cm Z ?_)))))))
  (refine Cl (ax Z Z ?_) ?_;omega)
  refine Cl (aG Z) ?_
  refine Cl (am (vi _ _ hm) Z ⟨H,Cq⟩) ?_
  refine Cl (bS Z) (Cp (aa ?_))
  refine aZ Z (fun hc2 => ?_) (fun hc2 => ?_)
  ·refine ae (aj (Cn Z (Cp (aa (aD (be (aE (aE (be ?_)))))))))
   refine aE ?_
   refine aO Tryz.results103 (.tmp Z (ao ?_))
   rw [mg (d:=(false, [])) hc (by simpa using hc2)]
  ·refine aw (aA (aa (aj (Cm Z ?_))))
   (refine Cl (cj Z Z (aM ?_ ?_)) ?_;omega;omega)
   refine Cn Z (Cp ?_)
   exact bG (s:=i) (i+1) ⟨by omega,mZ (d:=(false, [])) ht hc (by simpa using hc2)⟩ (by show v.length - (i+1)<v.length - i;omega) Ci (SubM.refl _)
 ·refine aX (au (au (aC (aa (ae (aj (Cn Z (Cp (aa ?_)))))))))
  refine aD ?_
  refine aO Tryz.results103 (.tmp Z (ao ?_))
  rw [List.take_of_length_le Y] at ht
  rw [ht]
end Tor
end
section
namespace Tor
open Go Go.RowKit Go.Proofs
abbrev rC:=List (Bool × List Nat)
def dY (a:List rC):VT:=slT .one a.length (fun i=>dX (a.getD i []))
def i6 (r c:Int) (a:List rC):VT:=bB 3 [(0, .one,one (.int .i64 r)),(1, .one,one (.int .i64 c)),(2, .one,dY a)]
def fy (c:Int) (v:rC):Bool:=decide ((v.length:Int)=c) && v.all fun p=>fJ p.1 p.2
def eV (r c:Int) (a:List rC):Bool:=decide (0≤r∧0≤c∧(a.length:Int)=r) && a.all (fy c)
attribute [local irreducible] J PJ aJ one slT cv bB bL exT cp eP aW aN slV VT.le Ret bK
attribute [local irreducible] aK kz dX
theorem qg (r c:Int) (a:List rC) (ha:a.length≤281474976710656) (hv : ∀ v∈a, ∀ p∈v,p.2.length≤4398046511104):Ok Tryz.prog 67 [i6 r c a] (one (.bool (eV r c a))):=by
 unfold i6 dY
 refine Ok.enter Tryz.func67 Z Tryz.ntmps67 Z (fun w O => ?_)
 refine ae (aj ?_)
 refine aQ Z Z (ltN Z) (fun b => ?_)
 refine Cn Z (Cp (aa (ae (ae (aj (Cl (ai Z) (Cl (ak 0 Z Z Z) (Cl (a9 Z Z) (Cm Z ?_)))))))))
 refine ka (t:=6) Z (fun bo hb => ?_)
 rw [hb]
 cases bo
 ·have e1:0≤r:=by simpa using hb
  refine Co (ai Z) (Co (ak 0 Z Z Z) (Co (a9 Z Z) (Cl (bj Z Z) (Cm Z ?_))))
  refine ka (t:=11) Z (fun bo hb2 => ?_)
  rw [hb2]
  cases bo
  ·have e2:0≤c:=by simpa using hb2
   refine Co (ai Z) (Co (ak 0 Z Z Z) (Co (aV Z) (Co (ai Z) (Co (ak 0 Z Z Z) (Co (c8 Z Z) (Cl (bj Z Z) (Cp (aa ?_))))))))
   refine aZ Z (fun hc => ?_) (fun hc => ?_) <;> simp only [decide_eq_true_eq,decide_eq_false_iff_not,ne_eq,Decidable.not_not] at hc
   ·refine ae (aj (Cn Z (Cp (aa (aD (aE ?_))))))
    refine aO Tryz.results67 (.tmp Z (ao ?_))
    simp [eV,hc]
   ·have e3:(a.length:Int)=r:=hc
    refine aw (aa (ae (ae (aj (Cn Z (Cp (aa (av ?_))))))))
    refine cA (σ:=Nat) (fun i => [(1,one (.pointer (some ⟨b,0,none⟩))),(3,one (.int .i64 (i:Nat)))])
     (fun _ => [aW b 28 3 [(0, .one,one (.int .i64 r)),(1, .one,one (.int .i64 c)),(2, .one,dY a)]])
     (fun i=>i≤a.length∧(a.take i).all (fy c)=true) (fun i=>a.length - i) 0 ⟨Nat.zero_le _,rfl⟩ Ci (SubM.refl _) (fun i ⟨hi,ht⟩ => ?_)
    unfold dY
    refine ae (ae (aj (Cm Z (Cl (ai Z) (Cl (ak 0 Z Z Z) (Cl (aV Z) (Cl (a9 Z Z) (Cp (aa ?_)))))))))
    refine aZ Z (fun hc => ?_) (fun hc => ?_) <;> simp at hc
    ·have hm : ∀ p∈a.getD i [],p.2.length≤4398046511104:=by
      simp only [List.getD,List.getElem?_eq_getElem hc,Option.getD_some]
      exact hv _ (List.getElem_mem hc)
     refine aw (aa (ae (av (ae (a4 18 aU X W ?_)))))
     unfold dX
     refine Cl (ai Z) (Cl (ak 0 Z Z Z) (Cm Z ?_))
     (refine Cl (ax Z Z ?_) ?_;omega)
     refine Cl (aG Z) (Cl (aV Z) (Cl (ai Z) (Cl (ak 0 Z Z Z) (Cl (c8 Z Z) (Cm Z ?_)))))
     refine ka (t:=35) Z (fun bo hb3 => ?_)
     rw [hb3]
     cases bo
     ·refine Co (ai Z) (Co (ak 0 Z Z Z) (Co (ab Z) ?_))
      (refine Co (ax Z Z ?_) ?_;omega)
      refine Co (aG Z) ?_
      refine Co (am (qf _ hm) Z ⟨(by unfold dX;exact VT.le_refl _),Cq⟩) ?_
      refine Co (bS Z) (Cl (bj Z Z) (Cp (Cp (aa ?_))))
      refine aZ Z (fun hc2 => ?_) (fun hc2 => ?_)
      ·refine ae (aj (Cn Z (Cp (aa (aD (be (aE (aE (be ?_)))))))))
       refine aE ?_
       refine aO Tryz.results67 (.tmp Z (ao ?_))
       have:=mg (p:=fy c) (d := []) hc (by simp only [fy,Bool.and_eq_false_iff]; right;simpa using hc2)
       simp [eV,this]
      ·refine aw (aA (aa (aj (Cm Z ?_))))
       (refine Cl (cj Z Z (aM ?_ ?_)) ?_;omega;omega)
       refine Cn Z (Cp ?_)
       exact bG (s:=i) (i+1) ⟨by omega,mZ (d := []) ht hc (by simp only [fy,Bool.and_eq_true]; exact ⟨by simpa using hb3,by simpa using hc2⟩)⟩ (by show a.length - (i+1)<a.length - i;omega) Ci (SubM.refl _)
     ·refine sg0 Z Z Z Z (sg0 Z Z Z Z (sg0 Z Z Z Z (sg0 Z Z Z Z (sg0 Z Z Z Z (sg0 Z Z Z Z (sg0 Z Z Z Z (Cl (a6 Z Z) (Cp (Cp ?_)))))))))
      refine aa ?_
      refine aZ Z (fun hc2 => ?_) (fun hc2 => ?_)
      ·refine ae (aj (Cn Z (Cp (aa (aD (be (aE (aE (be ?_)))))))))
       refine aE ?_
       refine aO Tryz.results67 (.tmp Z (ao ?_))
       have:=mg (p:=fy c) (d := []) hc (by simp only [fy,Bool.and_eq_false_iff]; left;simpa using hb3)
       simp [eV,this]
      ·cases hc2
    ·refine aX (au (au (aC (aa (ae (aj (Cn Z (Cp (aa ?_)))))))))
     refine aD ?_
     refine aO Tryz.results67 (.tmp Z (ao ?_))
     rw [List.take_of_length_le Y] at ht
     simp [eV,ht,e1,e2,e3]
  ·have e2 : ¬ 0≤c:=by simpa using hb2
   refine sg0 Z Z Z Z (sg0 Z Z Z Z (sg0 Z Z Z Z (sg0 Z Z Z Z (sg0 Z Z Z Z (sg0 Z Z Z Z (Cl (a6 Z Z) (Cp (aa ?_))))))))
   refine aZ Z (fun hc => ?_) (fun hc => ?_)
   ·refine ae (aj (Cn Z (Cp (aa (aD (aE ?_))))))
    refine aO Tryz.results67 (.tmp Z (ao ?_))
    simp [eV,e2]
   ·cases hc
 ·have e1 : ¬ 0≤r:=by simpa using hb
  refine sg0 Z Z Z Z (sg0 Z Z Z Z (sg0 Z Z Z Z (Cl (a6 Z Z) (Cm Z (sg0 Z Z Z Z (sg0 Z Z Z Z (sg0 Z Z Z Z (sg0 Z Z Z Z (sg0 Z Z Z Z ?_)))))))))
  refine sg0 Z Z Z Z (Cl (a6 Z Z) (Cp (aa ?_)))
  refine aZ Z (fun hc => ?_) (fun hc => ?_)
  ·refine ae (aj (Cn Z (Cp (aa (aD (aE ?_))))))
   refine aO Tryz.results67 (.tmp Z (ao ?_))
   simp [eV,e1]
  ·cases hc
end Tor
end
section
namespace Tor
open Go Go.RowKit Go.Proofs
def tab (r c:Nat) (F:Nat→Nat→Int):List (List Int):=(List.range r).map fun i=>(List.range c).map (F i)
@[simp] theorem tab_length (r c:Nat) (F:Nat→Nat→Int):(tab r c F).length=r:=by simp [tab]
theorem t9 {r c i:Nat} (F:Nat→Nat→Int) (hi:i<r):(tab r c F).getD i []=(List.range c).map (F i):=by simp [tab,List.getD,hi]
theorem wF {c j:Nat} (f:Nat→Int) (hj:j<c):((List.range c).map f).getD j 0=f j:=by simp [List.getD,hj]
theorem mh {r c:Nat} {F G:Nat→Nat→Int} (h : ∀ i j,i<r→j<c→F i j=G i j):tab r c F=tab r c G:=by
 unfold tab
 refine List.map_congr_left fun i hi=>List.map_congr_left fun j hj => ?_
 exact h i j (List.mem_range.1 hi) (List.mem_range.1 hj)
theorem yu {r c:Nat} {F G:Nat→Nat→Int} (h:tab r c F=tab r c G) {i j:Nat} (hi:i<r) (hj:j<c):F i j=G i j:=by
 have h1:=congrArg (fun l=>l.getD i []) h
 simp only [t9 _ hi] at h1
 have h2:=congrArg (fun l=>l.getD j 0) h1
 simpa only [wF _ hj] using h2
def cH (c:Nat) (f:Nat→Int):VT:=slT (.agg 2) c (fun j=>aK (f j))
theorem wG (c:Nat) (f:Nat→Int):VT.le (cH c f) (mf ((List.range c).map f)):=by
 unfold cH mf
 refine VT.le_trans (eo (ψ:=fun j=>aK (((List.range c).map f).getD j 0)) (fun j hj => ?_)) (mC (by simp))
 rw [wF f hj]; exact VT.le_refl _
def cg (r c:Nat) (F:Nat→Nat→Int):VT:=bB 3 [(0, .one,one (.int .i64 r)),(1, .one,one (.int .i64 c)),(2, .one,slT .one r (fun i=>cH c (F i)))]
theorem nT (r c:Nat) (F:Nat→Nat→Int):VT.le (cg r c F) (vj r c (tab r c F)):=by
 unfold cg vj nS
 refine e8 (fun q hq => ?_)
 rcases List.mem_cons.1 hq with rfl | hq
 ·exact ⟨_,List.mem_cons_self,H⟩
 rcases List.mem_cons.1 hq with rfl | hq
 ·exact ⟨_,List.mem_cons_of_mem _ List.mem_cons_self,H⟩
 rcases List.mem_cons.1 hq with rfl | hq
 ·refine ⟨_,List.mem_cons_of_mem _ (List.mem_cons_of_mem _ List.mem_cons_self),VT.le_trans (eo (ψ:=fun i=>mf ((tab r c F).getD i [])) (fun i hi => ?_)) (mC (by simp))⟩
  rw [t9 F hi]; exact wG _ _
 ·cases hq
theorem jU {r c:Nat} {F G:Nat→Nat→Int} (h : ∀ i j,i<r→j<c→F i j=G i j):VT.le (cg r c F) (cg r c G):=by
 unfold cg
 refine e8 (fun q hq => ?_)
 rcases List.mem_cons.1 hq with rfl | hq
 ·exact ⟨_,List.mem_cons_self,H⟩
 rcases List.mem_cons.1 hq with rfl | hq
 ·exact ⟨_,List.mem_cons_of_mem _ List.mem_cons_self,H⟩
 rcases List.mem_cons.1 hq with rfl | hq
 ·refine ⟨_,List.mem_cons_of_mem _ (List.mem_cons_of_mem _ List.mem_cons_self),eo fun i hi=>eo fun j hj=>mC (by rw [h i j hi hj])⟩
 ·cases hq
theorem iF:VT.le (one (.agg #[.bool false, .slice none 0 0])) (aK 0):=by
 intro v h e
 have e:v = .agg #[.bool false, .slice none 0 0]:=e
 subst e
 refine ⟨_,rfl,rfl,by simp [Value.oneCell'],fun q hq => ?_⟩
 rcases List.mem_cons.1 hq with rfl | hq
 ·exact ⟨.bool false,rfl,rfl⟩
 ·rcases List.mem_cons.1 hq with rfl | hq
  ·exact ⟨.slice none 0 0,rfl,⟨none,0,rfl,Nat.le_refl _,by decide,fun i hi=>absurd hi (Nat.not_lt_zero _)⟩⟩
  ·cases hq
theorem fh {sv:Option Nat} {T:TypeId} {L:Lay} {cap n:Nat} {φ:Nat→VT} {g:RH} {h:Hp} (hp:(aN sv T L cap n φ).p g h) (he:sv=none):n=0:=by
 obtain ⟨h1,h2,h3,_⟩:=hp;have:=h3 he;omega
theorem rD {bs:List Nat} {i:Nat} (h:i<bs.length):bs[i]? = some (bs.getD i 0):=by simp [List.getD,h]
def gq (sv:Option Nat) (cap r c:Nat) (bs:List Nat):Own:=aN sv 50 .one cap r (fun q=>one (slV (some (bs.getD q 0)) c c))
def fk (c:Nat) (bs:List Nat) (F:Nat→Nat→Int):Own:=dq 43 (.agg 2) c bs (fun q k=>aK (F q k))
theorem fz {c:Nat} {bs:List Nat} {F G:Nat→Nat→Int} (h : ∀ i j,i<bs.length→j<c→F i j=G i j):Own.le (fk c bs F) (fk c bs G):=iA fun i j hi hj=>by rw [h i j hi hj]
abbrev Bi (r:Nat) := {s:List Nat × Option Nat × Nat // s.1.length=r∧(s.2.1=none→r=0)}
def kA (r c:Nat) (s:Bi r):VT:=bB 3 [(0, .one,one (.int .i64 r)),(1, .one,one (.int .i64 c)),(2, .one,one (slV s.1.2.1 r s.1.2.2))]
theorem gx {r c:Nat} {sv:Option Nat} {cap:Nat} {bs:List Nat} {F:Nat→Nat→Int} {cs:cw} (hb:bs.length=r) (hc:(0,Lay.one,one (.int .i64 r))∈cs∧(1,Lay.one,one (.int .i64 c))∈cs∧(2,Lay.one,one (slV sv r cap))∈cs) :
  sQ [gq sv cap r c bs,fk c bs F] cs [(0, .one,one (.int .i64 r)),(1, .one,one (.int .i64 c)),(2, .one,slT .one r (fun i=>cH c (F i)))]:=by
 refine .cons hc.1 (Ent.refl _) (.cons hc.2.1 (Ent.refl _) (.cons hc.2.2 ?_ .nil))
 refine Ent.slE List.mem_cons_self fun q hq => ?_
 exact Ent.row (List.mem_cons_of_mem _ List.mem_cons_self) (rD Y)
attribute [local irreducible] J PJ aJ one slT cv bB bL exT cp eP aW aN slV VT.le Ret bK
attribute [local irreducible] dq
theorem lh (r c:Nat) (hr:r≤1048576) (hc:c≤1048576):OkM Tryz.prog 41 [one (.int .i64 r),one (.int .i64 c)] (kA r c) (fun s => [gq s.1.2.1 s.1.2.2 r c s.1.1,fk c s.1.1 (fun _ _=>0)]):=by
 refine OkM.enter Tryz.func41 Z Tryz.ntmps41 Z (fun w O => ?_)
 refine ae (aj ?_)
 refine aT (T:=28) Z Z Z (fun b => ?_)
 refine Cp (aa (ae (aj (kb (n:=0) Z Z Z Z Z ?_))))
 refine PartsK.nil (fun b => ?_)
 refine Cn Z (Cp (aa (ae (ae (aj (Cn Z (Cp (aa (av ?_)))))))))
 rename_i bc
 refine eS (ConvM.rows0 (T:=43) (L := .agg 2) (c:=c) (φ:=fun _ _=>aK 0) _) ?_
 refine cA (σ:=List Nat × Option Nat × Nat) (fun s => [(0,one (.int .i64 r)),(1,one (.int .i64 c)),(4,one (.pointer (some ⟨bc,0,none⟩))),(5,one (slV s.2.1 s.1.length s.2.2)),(6,one (.int .i64 s.1.length))])
  (fun s => [aN s.2.1 50 .one s.2.2 s.1.length (fun q=>one (slV (some (s.1.getD q 0)) c c)),aW bc 28 3 (de #[Value.int IntKind.i64 0,Value.int IntKind.i64 0,Value.slice none 0 0] [(0,Lay.one),(1,Lay.one),(2,Lay.one)]),fk c s.1 (fun _ _=>0)])
  (fun s=>s.1.length≤r) (fun s=>r - s.1.length) ([],some b,0) (Nat.zero_le _) Ci (.keep (bJ (fun q hq=>by omega)) (SubM.refl _)) (fun s hk => ?_)
 obtain ⟨bs,sv0,cap0⟩:=s
 simp only at hk ⊢
 refine ae (ae (aj (Cm Z (Cm Z (Cl (a9 Z Z) (Cp (aa ?_)))))))
 refine aZ Z (fun hc => ?_) (fun hc => ?_) <;> simp at hc
 ·refine aw (aa (ae (av (aj (Cm Z (Cm Z ?_))))))
  refine bX c c Z Z Z Z (Nat.le_refl _) Z Z Y Z Z (fun bz => ?_)
  refine iX Z Z Z Z ?_
  (refine cV 1 Z Z Z (leN Z) ?_ ?_ Z (ltN Z) (fun sv cap => ?_);omega;omega)
  refine Cn Z (Cp (aA (aa (aj (Cm Z ?_)))))
  (refine Cl (cj Z Z (aM ?_ ?_)) ?_;omega;omega)
  refine Cn Z (Cp (gm (ConvM.row (k:=2) Z) (bG (s:=(bs,sv0,cap0)) (bs ++ [bz],sv,cap) (by simp;omega) (by simp;omega) (.cons Z H (.cons Z H (.cons Z H (.cons Z (iZ (by simp)) (.cons Z (ao (by simp)) .nil))))) ?_)))
  refine .keep (fU (by simp) (fun q hq => ?_)) (.keep Ck (.keep (nC fun i j hi hj => ?_) .nil))
  ·by_cases h:q<bs.length
   ·rw [if_pos h]; simp [List.getElem?_append_left h]
   ·have:q=bs.length:=by omega
    subst this;rw [if_neg h]; simp
  ·simp only
   split
   ·exact VT.le_refl _
   ·exact iF
 ·have hlen:bs.length=r:=by omega
  subst hlen
  refine jO (i:=0) (F:=sv0=none→bs.length=0) Z (fun g h hp he=>fh hp he) (fun hF => ?_)
  refine aX (au (au (aC (aa (ae (aj (Cm Z (Cm Z (Cm Z ?_)))))))))
  refine stB Z Z Z (BuildK.cons Z Z Z (BuildK.cons Z Z Z (BuildK.cons Z Z Z (BuildK.nil (aR 1 Z Z Z Z (Cp (aa (aD ?_))))))))
  refine nB ⟨(bs,sv0,cap0),rfl,hF⟩ Tryz.results41 (.cellW 1 Z Z H) ?_
  exact .keep Ck (.drop (SubM.refl _))
end Tor
end
section
namespace Tor
open Go Go.RowKit Go.Proofs
attribute [local irreducible] J PJ aJ one slT cv bB bL exT cp eP aW aN slV VT.le Ret bK
attribute [local irreducible] aK dq
theorem li (n:Nat) (hn:n≤1048576):Ok Tryz.prog 39 [one (.int .i64 n)] (cg n n (fun i j=>if i=j then 1 else 0)):=by
 refine Ok.enter Tryz.func39 Z Tryz.ntmps39 Z (fun w O => ?_)
 refine ae (aj ?_)
 refine aT (T:=28) Z Z Z (fun b => ?_)
 refine Cp (aa (ae (aj (Cm Z (Cm Z ?_)))))
 refine ea (lh n n hn hn) Z ⟨H,H,Cq⟩ Z Z (fun s => ?_)
 obtain ⟨⟨bs,sv1,cap1⟩,hlen,hsv⟩:=s
 simp only at hlen hsv
 unfold kA
 refine aT (T:=28) Z Z Z (fun b => ?_)
 refine aR 0 Z Z Z Z (Cp (aa (ae (ae (aj (Cn Z (Cp (aa (av ?_)))))))))
 rename_i b2
 refine cA (σ:=Nat) (fun i => [(0,one (.int .i64 n)),(2,one (.pointer (some ⟨b2,0,none⟩))),(3,one (.pointer (some ⟨b,0,none⟩))),(4,one (.int .i64 (i:Nat)))])
  (fun i => [aW b 28 3 [(0, .one,one (.int .i64 n)),(1, .one,one (.int .i64 n)),(2, .one,one (slV sv1 n cap1))],gq sv1 cap1 n n bs,fk n bs (fun q k=>if q<i then (if q=k then 1 else 0) else 0),
   aW b2 28 3 (de #[Value.int IntKind.i64 0,Value.int IntKind.i64 0,Value.slice none 0 0] [(0,Lay.one),(1,Lay.one),(2,Lay.one)])])
  (fun i=>i≤n) (fun i=>n - i) 0 (Nat.zero_le _) Ci (.keep Ck (.keep Ck (.keep (fz fun i j hi hj=>by simp) (SubM.refl _)))) (fun i hi => ?_)
 refine ae (ae (aj (Cm Z (Cm Z (Cl (a9 Z Z) (Cp (aa ?_)))))))
 refine aZ Z (fun hc => ?_) (fun hc => ?_) <;> simp at hc
 ·obtain ⟨bo,rfl⟩ : ∃ bo,sv1=some bo:=by
   cases sv1 with
   | none => have := hsv Z; omega
   | some bo => exact ⟨bo, rfl⟩
  refine aw (aa (ae (av (a4 8 aU X W (Cl (ai Z) (Cl (ak 0 Z Z Z) (Cm Z ?_)))))))
  (refine Cl (an Z Z ?_) ?_;omega)
  (refine Cl (bn 1 Z Z ?_) ?_;omega)
  refine Cm Z ?_
  refine Cl (am (it 1 W W) Z ⟨H,Cq⟩) ?_
  (refine Cl (an Z Z ?_) ?_;omega)
  refine Cp ?_
  (refine iB 2 Z Z Z (rD ?_) ?_ Z ?_;omega;omega)
  refine Cp (aA (aa (aj (Cm Z ?_))))
  (refine Cl (cj Z Z (aM ?_ ?_)) ?_;omega;omega)
  refine Cn Z (Cp ?_)
  refine bG (s:=i) (i+1) (show _ from by omega) Y Ci (.keep Ck (.keep Ck (.keep (iA fun q k hq hk => ?_) (SubM.refl _))))
  unfold dP
  by_cases h:q=i
  ·subst h
   by_cases h2:k=q
   ·subst h2;simp
   ·have h3 : ¬ q=k:=fun e=>h2 e.symm
    simp [h2,h3]
  ·have h3:q<i+1↔q<i:=by omega
   simp [h,h3]
 ·have hin:i=n:=by omega
  subst hin
  refine aX (au (au (aC (aa (ae (aj (Cl (aL 0 Z Z) (aR 3 Z Z Z Z (Cp ?_)))))))))
  refine aa (aD ?_)
  have hperm : ∀ (x y z u:Own), [x,y,z,u].Perm ([y,z] ++ [x,u]):=fun x y z u=>(List.Perm.swap y x _).trans (List.Perm.cons y (List.Perm.swap z x _))
  refine hJ [gq sv1 cap1 i i bs,fk i bs (fun q k=>if q<i then (if q=k then 1 else 0) else 0)] (hperm _ _ _ _) (.keep (yh.refl _) (.keep (yh.box (gx hlen ⟨by simp,by simp,by simp⟩)) .nil)) (v7.refl _) ?_
  refine aO Tryz.results39 (.cellW 1 Z Z ?_)
  exact jU fun a b ha hb=>by simp [ha]
end Tor
end
section
namespace Tor
open Go Go.RowKit Go.Proofs
def lj (k:IntKind) (l:List Int):VT:=slT .one l.length (fun i=>one (.int k (l.getD i 0)))
theorem e9 {sv:Option Nat} {r:Nat} (h:sv=none→r=0) (hr:0<r) : ∃ b,sv=some b:=by
 cases sv with
 | none => have := h Z; omega
 | some b => exact ⟨b, rfl⟩
theorem oT (i c j:Nat):((i:Int)*c+j).toNat=i*c+j:=by
 have:((i:Int)*c+j)=((i*c+j:Nat):Int):=by simp
 rw [this,Int.toNat_natCast]
def gc (f:Nat→Int) (c i j:Nat):Nat→Nat→Int:=fun q k=>if q<i∨(q=i∧k<j) then f (q*c+k) else 0
theorem wH {l:List Int} {i:Nat} {p:Int→Prop} (h : ∀ x∈l,p x) (h0:p 0):p (l.getD i 0):=by
 rcases Nat.lt_or_ge i l.length with hi | hi
 ·simp only [List.getD,List.getElem?_eq_getElem hi,Option.getD_some]; exact h _ (List.getElem_mem hi)
 ·simp only [List.getD,List.getElem?_eq_none hi,Option.getD_none]; exact h0
theorem rE {T:TypeId} {c:Nat} {bs:List Nat} {f:Nat→Int} {i j:Nat} (x:Int) (hx:x=f (i*c+j)) :
  Own.le (dq T (.agg 2) c bs (dP (fun q k=>aK (gc f c i j q k)) i j (aK x))) (dq T (.agg 2) c bs (fun q k=>aK (gc f c i (j+1) q k))):=by
 subst hx
 refine iA fun q k hq hk => ?_
 unfold dP gc
 by_cases h:q=i∧k=j
 ·obtain ⟨rfl,rfl⟩:=h;simp
 ·rw [if_neg h]
  have e:(q<i∨q=i∧k<j+1)↔(q<i∨q=i∧k<j):=by omega
  simp only [e]
attribute [local irreducible] J PJ aJ one slT cv bB bL exT cp eP aW aN slV VT.le Ret bK
attribute [local irreducible] aK dq
theorem wI (r c:Nat) (l:List Int) (hr0:r≤1048576) (hc0:c≤1048576) (hl : ∀ x∈l, -9223372036854775808≤x∧x≤9223372036854775807):Ok Tryz.prog 40 [one (.int .i64 r),one (.int .i64 c),lj .i64 l] (cg r c (fun i j=>l.getD (i*c+j) 0)):=by
 unfold lj
 refine Ok.enter Tryz.func40 Z Tryz.ntmps40 Z (fun w O => ?_)
 refine ae (aj ?_)
 refine aT (T:=28) Z Z Z (fun b => ?_)
 refine Cp (aa (ae (aj (Cm Z (Cm Z ?_)))))
 refine ea (lh r c hr0 hc0) Z ⟨H,H,Cq⟩ Z Z (fun s => ?_)
 obtain ⟨⟨bs,sv1,cap1⟩,hlen,hsv⟩:=s
 simp only at hlen hsv
 unfold kA
 refine aT (T:=28) Z Z Z (fun b => ?_)
 refine aR 0 Z Z Z Z (Cp (aa (ae (ae (aj (Cn Z (Cp (aa (av ?_)))))))))
 rename_i b2
 refine cA (σ:=Nat) (fun i => [(0,one (.int .i64 r)),(1,one (.int .i64 c)),(2,slT .one l.length (fun i=>one (.int .i64 (l.getD i 0)))),(6,one (.pointer (some ⟨b2,0,none⟩))),(7,one (.pointer (some ⟨b,0,none⟩))),(8,one (.int .i64 (i:Nat)))])
  (fun i => [aW b 28 3 [(0, .one,one (.int .i64 r)),(1, .one,one (.int .i64 c)),(2, .one,one (slV sv1 r cap1))],gq sv1 cap1 r c bs,fk c bs (gc (fun n=>l.getD n 0) c i 0),
   aW b2 28 3 (de #[Value.int IntKind.i64 0,Value.int IntKind.i64 0,Value.slice none 0 0] [(0,Lay.one),(1,Lay.one),(2,Lay.one)])])
  (fun i=>i≤r) (fun i=>r - i) 0 (Nat.zero_le _) Ci (.keep Ck (.keep Ck (.keep (fz fun i j hi hj=>by simp [gc]) (SubM.refl _)))) (fun i hi => ?_)
 refine ae (ae (aj (Cm Z (Cm Z (Cl (a9 Z Z) (Cp (aa ?_)))))))
 refine aZ Z (fun hc => ?_) (fun hc => ?_) <;> simp at hc
 ·have hir:i<r:=by omega
  obtain ⟨bo,rfl⟩:=e9 hsv Y
  refine aw (aa (ae (av (ae (aj (Cn Z (Cp (aa (av ?_)))))))))
  refine cA (σ:=Nat) (fun j => [(0,one (.int .i64 r)),(1,one (.int .i64 c)),(2,slT .one l.length (fun i=>one (.int .i64 (l.getD i 0)))),(6,one (.pointer (some ⟨b2,0,none⟩))),(7,one (.pointer (some ⟨b,0,none⟩))),(8,one (.int .i64 (i:Nat))),(9,one (.int .i64 (j:Nat)))])
   (fun j => [aW b 28 3 [(0, .one,one (.int .i64 r)),(1, .one,one (.int .i64 c)),(2, .one,one (slV (some bo) r cap1))],gq (some bo) cap1 r c bs,fk c bs (gc (fun n=>l.getD n 0) c i j),
   aW b2 28 3 (de #[Value.int IntKind.i64 0,Value.int IntKind.i64 0,Value.slice none 0 0] [(0,Lay.one),(1,Lay.one),(2,Lay.one)])])
   (fun j=>j≤c) (fun j=>c - j) 0 (Nat.zero_le _) Ci (SubM.refl _) (fun j hj => ?_)
  have hm:i*c≤1048576*1048576:=Nat.mul_le_mul Y hc0
  have hm2:(i:Int)*c≤1099511627776:=by omega
  have hm3:0≤(i:Int)*c:=by have:=Nat.zero_le (i*c);omega
  refine ae (ae ?_)
  refine fE (σ:=Unit) (fun _ => [(0,one (.int .i64 r)),(1,one (.int .i64 c)),(2,slT .one l.length (fun i=>one (.int .i64 (l.getD i 0)))),(6,one (.pointer (some ⟨b2,0,none⟩))),(7,one (.pointer (some ⟨b,0,none⟩))),(8,one (.int .i64 (i:Nat))),(9,one (.int .i64 (j:Nat))),(30,one (.bool (decide (j<c∧i*c+j<l.length))))])
   (fun _ => [aW b 28 3 [(0, .one,one (.int .i64 r)),(1, .one,one (.int .i64 c)),(2, .one,one (slV (some bo) r cap1))],gq (some bo) cap1 r c bs,fk c bs (gc (fun n=>l.getD n 0) c i j),
   aW b2 28 3 (de #[Value.int IntKind.i64 0,Value.int IntKind.i64 0,Value.slice none 0 0] [(0,Lay.one),(1,Lay.one),(2,Lay.one)])]) (fun _=>True) ?_ (fun _ _ => ?_)
  ·refine aj (Cm Z (Cm Z (Cl (a9 Z Z) (Cm Z ?_))))
   refine ka (t:=21) Z (fun b h1 => ?_)
   rw [h1]
   cases b
   ·simp at h1
    refine sg0 Z Z Z Z (sg0 Z Z Z Z (sg0 Z Z Z Z (sg0 Z Z Z Z (sg0 Z Z Z Z (sg0 Z Z Z Z (sg0 Z Z Z Z (sg0 Z Z Z Z (Cl (bj Z Z) (Cp ?_)))))))))
    refine cW () trivial (.cons Z H (.cons Z H (.cons Z H (.cons Z H (.cons Z H (.cons Z H (.cons Z H (.cons Z (ao ?_) .nil)))))))) (SubM.refl _)
    congr 1;symm;rw [decide_eq_false_iff_not]; omega
   ·simp at h1
    refine Co (ab Z) (Co (ab Z) ?_)
    (refine Co (mz Z Z (aM ?_ ?_)) ?_;omega;omega)
    refine Co (ab Z) ?_
    (refine Co (cj Z Z (aM ?_ ?_)) ?_;omega;omega)
    refine Co (ab Z) (Co (aV Z) (Co (a9 Z Z) (Cl (a6 Z Z) (Cp ?_))))
    refine cW () trivial (.cons Z H (.cons Z H (.cons Z H (.cons Z H (.cons Z H (.cons Z H (.cons Z H (.cons Z (ao ?_) .nil)))))))) (SubM.refl _)
    congr 1;rw [decide_eq_decide]
    have:((i*c:Nat):Int)=(i:Int)*c:=by simp
    omega
  ·refine aa ?_
   refine aZ Z (fun hc2 => ?_) (fun hc2 => ?_) <;> simp only [decide_eq_true_eq,decide_eq_false_iff_not] at hc2
   ·have hm4:((i*c:Nat):Int)=(i:Int)*c:=by simp
    refine aw (aa (ae (av (a4 16 aU X W (Cl (ai Z) (Cl (ak 0 Z Z Z) (Cm Z ?_)))))))
    (refine Cl (an Z Z ?_) ?_;omega)
    (refine Cl (bn 1 Z Z ?_) ?_;omega)
    refine Cm Z (Cm Z (Cm Z (Cm Z ?_)))
    (refine Cl (mz Z Z (aM ?_ ?_)) ?_;omega;omega)
    refine Cm Z ?_
    (refine Cl (cj Z Z (aM ?_ ?_)) ?_;omega;omega)
    (refine Cl (ax Z Z ?_) ?_;omega)
    refine Cl (aG Z) ?_
    have hv:=wH (i:=((i:Int)*c+j).toNat) hl W
    refine Cl (am (it _ hv.1 hv.2) Z ⟨H,Cq⟩) ?_
    (refine Cl (an Z Z ?_) ?_;omega)
    refine Cp ?_
    (refine iB 2 Z Z Z (rD ?_) ?_ Z ?_;omega;omega)
    refine Cp (aA (aa (aj (Cm Z ?_))))
    (refine Cl (cj Z Z (aM ?_ ?_)) ?_;omega;omega)
    refine Cn Z (Cp ?_)
    refine bG (s:=j) (j+1) (show _ from by omega) Y Ci (.keep Ck (.keep Ck (.keep (rE _ (by rw [oT])) (SubM.refl _))))
   ·refine aX (au (au (aC (aA (aa (aj (Cm Z ?_)))))))
    (refine Cl (cj Z Z (aM ?_ ?_)) ?_;omega;omega)
    refine Cn Z (Cp ?_)
    refine bG (s:=i) (i+1) (show _ from by omega) Y Ci (.keep Ck (.keep Ck (.keep (fz fun q k hq hk => ?_) (SubM.refl _))))
    unfold gc
    by_cases h:q<i∨(q=i∧k<j)
    ·rw [if_pos h,if_pos Y]
    ·rw [if_neg h]
     by_cases h2:q=i
     ·subst h2;rw [if_pos Y]
      have:l.length≤q*c+k:=by omega
      simp [List.getD,List.getElem?_eq_none this]
     ·rw [if_neg Y]
 ·have hin:i=r:=by omega
  subst hin
  refine aX (au (au (aC (aa (ae (aj (Cl (aL 0 Z Z) (aR 3 Z Z Z Z (Cp ?_)))))))))
  refine aa (aD ?_)
  have hperm : ∀ (x y z u:Own), [x,y,z,u].Perm ([y,z] ++ [x,u]):=fun x y z u=>(List.Perm.swap y x _).trans (List.Perm.cons y (List.Perm.swap z x _))
  refine hJ [gq sv1 cap1 i c bs,fk c bs (gc (fun n=>l.getD n 0) c i 0)] (hperm _ _ _ _) (.keep (yh.refl _) (.keep (yh.box (gx hlen ⟨by simp,by simp,by simp⟩)) .nil)) (v7.refl _) ?_
  refine aO Tryz.results40 (.cellW 1 Z Z ?_)
  exact jU fun a b ha hb=>by simp [gc,ha]
end Tor
end
section
namespace Tor
open Go Go.RowKit Go.Proofs
theorem Au (x:Int) : -10<x.tmod 10∧x.tmod 10<10:=⟨by
 have:=Int.tmod_lt_of_pos (-x) (show (0:Int)<10 by decide)
 rw [Int.neg_tmod] at this;omega,Int.tmod_lt_of_pos x W⟩
def dig (l:List Int) (n:Nat):Int:=(l.getD n 0).tmod 10
attribute [local irreducible] J PJ aJ one slT cv bB bL exT cp eP aW aN slV VT.le Ret bK
attribute [local irreducible] aK dq
theorem rF (r c:Nat) (l:List Int) (hr0:r≤16) (hc0:c≤16):OkM Tryz.prog 43 [one (.int .i64 r),one (.int .i64 c),lj .i8 l] (kA r c) (fun s => [gq s.1.2.1 s.1.2.2 r c s.1.1,fk c s.1.1 (fun i j=>dig l (i*c+j))]):=by
 unfold lj
 refine OkM.enter Tryz.func43 Z Tryz.ntmps43 Z (fun w O => ?_)
 refine ae (aj ?_)
 refine aT (T:=28) Z Z Z (fun b => ?_)
 refine Cp (aa (ae (aj (Cm Z (Cl (nl Z Z) (Cl (zK Z Z) (Cm Z (Cl (nl Z Z) (Cl (zK Z Z) ?_)))))))))
 refine ea (lh r c Y Y) Z ⟨ao (by congr 1;omega),ao (by congr 1;omega),Cq⟩ Z Z (fun s => ?_)
 obtain ⟨⟨bs,sv1,cap1⟩,hlen,hsv⟩:=s
 simp only at hlen hsv
 unfold kA
 refine aT (T:=28) Z Z Z (fun b => ?_)
 refine aR 0 Z Z Z Z (Cp (aa (ae (ae (aj (Cn Z (Cp (aa (av ?_)))))))))
 rename_i b2
 refine cA (σ:=Nat) (fun i => [(2,slT .one l.length (fun i=>one (.int .i8 (l.getD i 0)))),(6,one (.pointer (some ⟨b2,0,none⟩))),(7,one (.pointer (some ⟨b,0,none⟩))),(8,one (.int .i64 (i:Nat)))])
  (fun i => [aW b 28 3 [(0, .one,one (.int .i64 r)),(1, .one,one (.int .i64 c)),(2, .one,one (slV sv1 r cap1))],gq sv1 cap1 r c bs,fk c bs (gc (dig l) c i 0),
   aW b2 28 3 (de #[Value.int IntKind.i64 0,Value.int IntKind.i64 0,Value.slice none 0 0] [(0,Lay.one),(1,Lay.one),(2,Lay.one)])])
  (fun i=>i≤r) (fun i=>r - i) 0 (Nat.zero_le _) Ci (.keep Ck (.keep Ck (.keep (fz fun i j hi hj=>by simp [gc]) (SubM.refl _)))) (fun i hi => ?_)
 refine ae (ae (aj (Cm Z (Cl (ai Z) (Cl (ak 0 Z Z Z) (Cl (a9 Z Z) (Cp (aa ?_))))))))
 refine aZ Z (fun hc => ?_) (fun hc => ?_) <;> simp at hc
 ·have hir:i<r:=by omega
  obtain ⟨bo,rfl⟩:=e9 hsv Y
  refine aw (aa (ae (av (ae (aj (Cn Z (Cp (aa (av ?_)))))))))
  refine cA (σ:=Nat) (fun j => [(2,slT .one l.length (fun i=>one (.int .i8 (l.getD i 0)))),(6,one (.pointer (some ⟨b2,0,none⟩))),(7,one (.pointer (some ⟨b,0,none⟩))),(8,one (.int .i64 (i:Nat))),(9,one (.int .i64 (j:Nat)))])
   (fun j => [aW b 28 3 [(0, .one,one (.int .i64 r)),(1, .one,one (.int .i64 c)),(2, .one,one (slV (some bo) r cap1))],gq (some bo) cap1 r c bs,fk c bs (gc (dig l) c i j),
   aW b2 28 3 (de #[Value.int IntKind.i64 0,Value.int IntKind.i64 0,Value.slice none 0 0] [(0,Lay.one),(1,Lay.one),(2,Lay.one)])])
   (fun j=>j≤c) (fun j=>c - j) 0 (Nat.zero_le _) Ci (SubM.refl _) (fun j hj => ?_)
  have hm:i*c≤16*16:=Nat.mul_le_mul Y hc0
  have hm2:(i:Int)*c≤256:=by omega
  have hm3:0≤(i:Int)*c:=by have:=Nat.zero_le (i*c);omega
  refine ae (ae ?_)
  refine fE (σ:=Unit) (fun _ => [(2,slT .one l.length (fun i=>one (.int .i8 (l.getD i 0)))),(6,one (.pointer (some ⟨b2,0,none⟩))),(7,one (.pointer (some ⟨b,0,none⟩))),(8,one (.int .i64 (i:Nat))),(9,one (.int .i64 (j:Nat))),(37,one (.bool (decide (j<c∧i*c+j<l.length))))])
   (fun _ => [aW b 28 3 [(0, .one,one (.int .i64 r)),(1, .one,one (.int .i64 c)),(2, .one,one (slV (some bo) r cap1))],gq (some bo) cap1 r c bs,fk c bs (gc (dig l) c i j),
   aW b2 28 3 (de #[Value.int IntKind.i64 0,Value.int IntKind.i64 0,Value.slice none 0 0] [(0,Lay.one),(1,Lay.one),(2,Lay.one)])]) (fun _=>True) ?_ (fun _ _ => ?_)
  ·refine aj (Cm Z (Cl (ai Z) (Cl (ak 0 Z Z Z) (Cl (a9 Z Z) (Cm Z ?_)))))
   refine ka (t:=27) Z (fun b h1 => ?_)
   rw [h1]
   cases b
   ·simp at h1
    refine sg0 Z Z Z Z (sg0 Z Z Z Z (sg0 Z Z Z Z (sg0 Z Z Z Z (sg0 Z Z Z Z (sg0 Z Z Z Z (sg0 Z Z Z Z (sg0 Z Z Z Z (sg0 Z Z Z Z (Cl (bj Z Z) ?_)))))))))
    refine Cp ?_
    refine cW () trivial (.cons Z H (.cons Z H (.cons Z H (.cons Z H (.cons Z H (.cons Z (ao ?_) .nil)))))) (SubM.refl _)
    congr 1;symm;rw [decide_eq_false_iff_not]; omega
   ·simp at h1
    refine Co (ab Z) (Co (ai Z) (Co (ak 0 Z Z Z) ?_))
    (refine Co (mz Z Z (aM ?_ ?_)) ?_;omega;omega)
    refine Co (ab Z) ?_
    (refine Co (cj Z Z (aM ?_ ?_)) ?_;omega;omega)
    refine Co (ab Z) (Co (aV Z) (Co (a9 Z Z) (Cl (a6 Z Z) (Cp ?_))))
    refine cW () trivial (.cons Z H (.cons Z H (.cons Z H (.cons Z H (.cons Z H (.cons Z (ao ?_) .nil)))))) (SubM.refl _)
    congr 1;rw [decide_eq_decide]
    have:((i*c:Nat):Int)=(i:Int)*c:=by simp
    omega
  ·refine aa ?_
   refine aZ Z (fun hc2 => ?_) (fun hc2 => ?_) <;> simp only [decide_eq_true_eq,decide_eq_false_iff_not] at hc2
   ·have hm4:((i*c:Nat):Int)=(i:Int)*c:=by simp
    refine aw (aa (ae (av (a4 19 aU X W (Cl (ai Z) (Cl (ak 0 Z Z Z) (Cm Z ?_)))))))
    (refine Cl (an Z Z ?_) ?_;omega)
    (refine Cl (bn 1 Z Z ?_) ?_;omega)
    refine Cm Z (Cm Z (Cm Z (Cl (ai Z) (Cl (ak 0 Z Z Z) ?_))))
    (refine Cl (mz Z Z (aM ?_ ?_)) ?_;omega;omega)
    refine Cm Z ?_
    (refine Cl (cj Z Z (aM ?_ ?_)) ?_;omega;omega)
    (refine Cl (ax Z Z ?_) ?_;omega)
    refine Cl (aG Z) (Cl (tL Z Z W Z) ?_)
    have hv:=Au (l.getD (i*c+j) 0)
    refine Cl (fL Z ?_ ?_) ?_; · omega
    ·omega
    refine Cl (am (it _ Y Y) Z ⟨H,Cq⟩) ?_
    (refine Cl (an Z Z ?_) ?_;omega)
    refine Cp ?_
    (refine iB 2 Z Z Z (rD ?_) ?_ Z ?_;omega;omega)
    refine Cp (aA (aa (aj (Cm Z ?_))))
    (refine Cl (cj Z Z (aM ?_ ?_)) ?_;omega;omega)
    refine Cn Z (Cp ?_)
    refine bG (s:=j) (j+1) (show _ from by omega) Y Ci (.keep Ck (.keep Ck (.keep (rE _ Z) (SubM.refl _))))
   ·refine aX (au (au (aC (aA (aa (aj (Cm Z ?_)))))))
    (refine Cl (cj Z Z (aM ?_ ?_)) ?_;omega;omega)
    refine Cn Z (Cp ?_)
    refine bG (s:=i) (i+1) (show _ from by omega) Y Ci (.keep Ck (.keep Ck (.keep (fz fun q k hq hk => ?_) (SubM.refl _))))
    unfold gc
    by_cases h:q<i∨(q=i∧k<j)
    ·rw [if_pos h,if_pos Y]
    ·rw [if_neg h]
     by_cases h2:q=i
     ·subst h2;rw [if_pos Y]
      have:l.length≤q*c+k:=by omega
      simp [dig,List.getD,List.getElem?_eq_none this]
     ·rw [if_neg Y]
 ·have hin:i=r:=by omega
  subst hin
  refine aX (au (au (aC (aa (ae (aj (Cl (aL 0 Z Z) (aR 3 Z Z Z Z (Cp ?_)))))))))
  refine aa (aD ?_)
  refine nB ⟨(bs,sv1,cap1),hlen,hsv⟩ Tryz.results43 (.cellW 3 Z Z ?_) ?_
  ·show VT.le _ (kA i c _)
   unfold kA
   exact VT.le_refl _
  ·refine .drop (.keep Ck (.keep (fz fun a b ha hb => ?_) (.drop .nil)))
   have:a<i:=by have:a<bs.length:=ha;omega
   simp [gc,this]
theorem rG {r c:Nat} (F:Nat→Nat→Int) (s:Bi r):Ent [gq s.1.2.1 s.1.2.2 r c s.1.1,fk c s.1.1 F] (kA r c s) (cg r c F):=by
 unfold kA cg
 exact Ent.agg (gx s.2.1 ⟨by simp,by simp,by simp⟩)
end Tor
end
section
namespace Tor
open Go Go.RowKit Go.Proofs
instance {neg:Bool} {l:List Nat} : Flat (kz neg l) (.agg 2):=by unfold kz;infer_instance
theorem tb {neg:Bool} {l:List Nat} {v:Value} {h:Hp} (Cf:(kz neg l).p v h):l.length≤281474976710656:=by
 obtain ⟨c,_,_,_,h4⟩:=Cf
 obtain ⟨x,_,hp⟩:=h4 _ (List.mem_cons_of_mem _ List.mem_cons_self)
 exact ff hp
theorem oU {r c:Int} {a:List rC} {v:Value} {h:Hp} (Cf:(i6 r c a).p v h):a.length≤2^48:=by
 obtain ⟨c,_,_,_,h4⟩:=Cf
 obtain ⟨x,_,hp⟩:=h4 _ (List.mem_cons_of_mem _ (List.mem_cons_of_mem _ List.mem_cons_self))
 exact ff hp
def jv (r c:Nat) (F:Nat→Nat→Int):List rC:=(tab r c F).map (·.map lf)
theorem rH (r c:Nat) (F:Nat→Nat→Int):VT.le (cg r c F) (i6 r c (jv r c F)):=by
 refine VT.le_trans (nT r c F) ?_
 unfold vj i6
 refine e8 (fun q hq => ?_)
 rcases List.mem_cons.1 hq with rfl | hq
 ·exact ⟨_,List.mem_cons_self,H⟩
 rcases List.mem_cons.1 hq with rfl | hq
 ·exact ⟨_,List.mem_cons_of_mem _ List.mem_cons_self,H⟩
 rcases List.mem_cons.1 hq with rfl | hq
 ·refine ⟨_,List.mem_cons_of_mem _ (List.mem_cons_of_mem _ List.mem_cons_self),?_⟩
  unfold nS dY jv
  refine VT.le_trans (eo (ψ:=fun i=>dX (((tab r c F).map (·.map lf)).getD i [])) (fun i hi => ?_)) (mC (by simp))
  refine VT.le_trans (wE _) (mC ?_)
  simp [List.getD,List.getElem?_eq_getElem hi]
 ·cases hq
theorem nU (r c:Nat) (F:Nat→Nat→Int):eV r c (jv r c F)=true:=by
 unfold eV jv
 simp only [List.length_map,tab_length,Bool.and_eq_true,decide_eq_true_eq,List.all_map]
 refine ⟨⟨by omega,by omega,Cq⟩,?_⟩
 rw [List.all_eq_true]
 intro x hx
 simp only [tab,List.mem_map,List.mem_range] at hx
 obtain ⟨i,hi,rfl⟩:=hx
 simp only [fy,Function.comp,List.length_map,List.length_range,List.all_map,Bool.and_eq_true,decide_eq_true_eq]
 refine ⟨trivial,?_⟩
 rw [List.all_eq_true]
 intro y hy
 exact s9 _
attribute [local irreducible] J PJ aJ one slT cv bB bL exT cp eP aW aN slV VT.le Ret bK
theorem wJ (neg:Bool) (l:List Nat):Ok Tryz.prog 77 [kz neg l] (one (.bool (fJ neg l))):=by
 refine Ok.enter Tryz.func77 Z Tryz.ntmps77 Z (fun w O => ?_)
 refine iS (t:=0) Z (fun _ _=>tb) (fun hl => ?_)
 unfold kz
 by_cases h0:l.length=0
 ·refine ae (aj ?_)
  refine aQ Z Z (ltN Z) (fun b => ?_)
  refine Cn Z (Cp (aa (ae (ae (aj (Cl (ai Z) (Cl (ak 0 Z Z Z) (Cl (aV Z) (Cn Z ?_)))))))))
  refine Cp (aa (ae (aj (Cm Z (Cl (ek Z Z) (Cp (aa ?_)))))))
  refine aZ Z (fun hc => ?_) (fun hc => ?_) <;> simp only [decide_eq_true_eq,decide_eq_false_iff_not,ne_eq,Decidable.not_not] at hc
  ·omega
  ·refine aw (aa (ae (aj (Cl (ai Z) (Cl (ak 0 Z Z Z) (Cl (bS Z) (Cn Z (Cp (aa ?_)))))))))
   refine aD ?_
   exact aO Tryz.results77 (.tmp Z (ao (by unfold fJ;rw [if_pos h0])))
 ·refine ae (aj ?_)
  refine aQ Z Z (ltN Z) (fun b => ?_)
  refine Cn Z (Cp (aa (ae (ae (aj (Cl (ai Z) (Cl (ak 0 Z Z Z) (Cl (aV Z) (Cn Z ?_)))))))))
  refine Cp (aa (ae (aj (Cm Z (Cl (ek Z Z) (Cp (aa ?_)))))))
  refine aZ Z (fun hc => ?_) (fun hc => ?_) <;> simp only [decide_eq_true_eq,decide_eq_false_iff_not,ne_eq,Decidable.not_not] at hc
  ·refine ae (aj (Cl (ai Z) (Cl (ak 0 Z Z Z) (Cm Z ?_))))
   (refine Cl (eG Z Z (aM ?_ ?_)) ?_;omega;omega)
   (refine Cl (ev Z Z ?_ ?_) ?_;omega;omega)
   refine Cl (aG Z) (Cl (c8 Z Z) (Cn Z (Cp (aa (aD (aE ?_))))))
   refine aO Tryz.results77 (.tmp Z (ao ?_))
   have e:(↑l.length - 1:Int).toNat=l.length - 1:=by omega
   unfold fJ;rw [if_neg h0,e]; congr 1;rw [decide_eq_decide]; omega
  ·omega
attribute [local irreducible] aK kz
attribute [local irreducible] dX
theorem rI (r c:Int) (a:List rC):Ok Tryz.prog 44 [i6 r c a] (one (.bool (eV r c a))):=by
 refine Ok.enter Tryz.func44 Z Tryz.ntmps44 Z (fun w O => ?_)
 refine iS (t:=0) Z (fun _ _=>oU) (fun ha => ?_)
 unfold i6
 unfold dY
 refine ae (aj ?_)
 refine aQ Z Z (ltN Z) (fun b => ?_)
 refine Cn Z (Cp (aa (ae (ae (aj (Cl (ai Z) (Cl (ak 0 Z Z Z) (Cl (a9 Z Z) (Cm Z ?_)))))))))
 refine ka (t:=10) Z (fun bo hb => ?_)
 rw [hb]
 cases bo
 ·have e1:0≤r:=by simpa using hb
  refine Co (ai Z) (Co (ak 0 Z Z Z) (Co (a9 Z Z) (Cl (bj Z Z) (Cm Z ?_))))
  refine ka (t:=15) Z (fun bo hb2 => ?_)
  rw [hb2]
  cases bo
  ·have e2:0≤c:=by simpa using hb2
   refine Co (ai Z) (Co (ak 0 Z Z Z) (Co (aV Z) (Co (ai Z) (Co (ak 0 Z Z Z) (Co (c8 Z Z) (Cl (bj Z Z) (Cp (aa ?_))))))))
   refine aZ Z (fun hc => ?_) (fun hc => ?_) <;> simp only [decide_eq_true_eq,decide_eq_false_iff_not,ne_eq,Decidable.not_not] at hc
   ·refine ae (aj (Cn Z (Cp (aa (aD (aE ?_))))))
    refine aO Tryz.results44 (.tmp Z (ao ?_))
    simp [eV,hc]
   ·have e3:(a.length:Int)=r:=hc
    refine aw (aa (ae (ae (aj (Cl (ai Z) (Cl (ak 0 Z Z Z) (Cl (aV Z) (Cm Z (Cp ?_)))))))))
    refine aa (av ?_)
    refine cA (σ:=Nat) (fun i => [(1,one (.pointer (some ⟨b,0,none⟩))),(24,dY a),(25,one (.int .i64 a.length)),(26,one (.int .i64 (i:Nat)))])
     (fun _ => [aW b 28 3 [(0, .one,one (.int .i64 r)),(1, .one,one (.int .i64 c)),(2, .one,dY a)]])
     (fun i=>i≤a.length∧(a.take i).all (fy c)=true) (fun i=>a.length - i) 0 ⟨Nat.zero_le _,rfl⟩ Ci (SubM.refl _) (fun i ⟨hi,ht⟩ => ?_)
    unfold dY
    refine ae (aj (Cl (a9 Z Z) (Cp (aa (ae ?_)))))
    refine aZ Z (fun hc => ?_) (fun hc => ?_) <;> simp at hc
    ·refine aw (aa (ae (av (ae (aj ?_)))))
     (refine Cl (ax Z Z ?_) ?_;omega)
     refine Cl (aG Z) (Cn Z (Cp (aa (ae (ae (aj (Cm Z ?_)))))))
     unfold dX
     refine Cl (aV Z) (Cl (ai Z) (Cl (ak 0 Z Z Z) (Cl (c8 Z Z) (Cp (aa ?_)))))
     refine aZ Z (fun hc2 => ?_) (fun hc2 => ?_) <;> simp only [decide_eq_true_eq,decide_eq_false_iff_not,ne_eq,Decidable.not_not] at hc2
     ·refine ae (aj (Cn Z (Cp (aa (aD (aE (be (aE (aE ?_)))))))))
      refine be (aE ?_)
      refine aO Tryz.results44 (.tmp Z (ao ?_))
      have:=mg (p:=fy c) (d := []) hc (by simp only [fy,Bool.and_eq_false_iff]; left;simpa using hc2)
      simp [eV,this]
     ·refine iS (t:=29) Z (fun _ _=>ff) (fun hlb => ?_)
      refine aw (aa (ae (aj (Cm Z (Cl (aV Z) (Cm Z (Cp (aa (av ?_)))))))))
      refine cA (σ:=Nat) (fun j => [(1,one (.pointer (some ⟨b,0,none⟩))),(24,dY a),(25,one (.int .i64 a.length)),(26,one (.int .i64 (i:Nat))),(35,dX (a.getD i [])),(36,one (.int .i64 (a.getD i []).length)),(37,one (.int .i64 (j:Nat)))])
       (fun _ => [aW b 28 3 [(0, .one,one (.int .i64 r)),(1, .one,one (.int .i64 c)),(2, .one,dY a)]])
       (fun j=>j≤(a.getD i []).length∧((a.getD i []).take j).all (fun p=>fJ p.1 p.2)=true) (fun j=>(a.getD i []).length - j) 0 ⟨Nat.zero_le _,rfl⟩ (by unfold dY dX;repeat (first | exact fp.nil | refine fp.cons Z H ?_ | (refine fp.cons Z (ao ?_) ?_;(congr 1;first | omega | (simp;omega) | simp)))) (by unfold dY dX;exact SubM.refl _) (fun j ⟨hj,hu⟩ => ?_)
      unfold dY dX
      refine ae (aj (Cl (a9 Z Z) (Cp (aa (ae ?_)))))
      refine aZ Z (fun hc3 => ?_) (fun hc3 => ?_) <;> simp only [decide_eq_true_eq,decide_eq_false_iff_not,Int.ofNat_lt] at hc3
      ·refine aw (aa (ae (av (ae (aj ?_)))))
       (refine Cl (ax Z Z ?_) ?_;omega)
       refine Cl (aG Z) ?_
       refine aP (T:=43) Z (ltN Z) (fun b => ?_)
       refine aB 0 Z Z Z Z Z (leN Z) Z (Cp (aa (ae (aj (Cl (ak 0 Z Z Z) ?_)))))
       refine Cl (am (wJ ((a.getD i []).getD j (false, [])).1 ((a.getD i []).getD j (false, [])).2) Z ⟨H,Cq⟩) ?_
       refine Cl (bS Z) (Cp (aa ?_))
       refine aZ Z (fun hc4 => ?_) (fun hc4 => ?_)
       ·refine ae (aj (Cn Z (Cp (aa (aD (be (aE (aE (be ?_)))))))))
        refine be (aE (aE (be (aE ?_))))
        refine aO Tryz.results44 (.tmp Z (ao ?_))
        have h1:=mg (p:=fun p:Bool × List Nat=>fJ p.1 p.2) (d:=(false, [])) (v:=a.getD i []) hc3 (by simpa using hc4)
        have h2:=mg (p:=fy c) (d := []) hc (by simp only [fy,Bool.and_eq_false_iff]; right;exact h1)
        simp [eV,h2]
       ·refine aw (aA (aa (aj ?_)))
        (refine Cl (cj Z Z (aM ?_ ?_)) ?_;omega;omega)
        refine Cm Z (Cp ?_)
        exact bG (s:=j) (j+1) ⟨by omega,mZ (d:=(false, [])) hu hc3 (by simpa using hc4)⟩ (by show (a.getD i []).length - (j+1)<(a.getD i []).length - j;omega) Ci (.drop (SubM.refl _))
      ·refine aX (au (au (aC (aA (aa (aj ?_))))))
       (refine Cl (cj Z Z (aM ?_ ?_)) ?_;omega;omega)
       refine Cm Z (Cp ?_)
       rw [List.take_of_length_le Y] at hu
       exact bG (s:=i) (i+1) ⟨by omega,mZ (d := []) ht hc (by simp only [fy,Bool.and_eq_true]; exact ⟨by simpa using hc2,hu⟩)⟩ (by show a.length - (i+1)<a.length - i;omega) Ci (SubM.refl _)
    ·refine aX (au (au (aC (aa (ae (aj (Cn Z (Cp (aa ?_)))))))))
     refine aD ?_
     refine aO Tryz.results44 (.tmp Z (ao ?_))
     rw [List.take_of_length_le Y] at ht
     simp [eV,ht,e1,e2,e3]
  ·have e2 : ¬ (0≤r∧0≤c):=by simp at hb2;omega
   refine sg0 Z Z Z Z (sg0 Z Z Z Z (sg0 Z Z Z Z (sg0 Z Z Z Z (sg0 Z Z Z Z (sg0 Z Z Z Z (Cl (a6 Z Z) (Cp (aa ?_))))))))
   refine aZ Z (fun hc => ?_) (fun hc => ?_)
   ·refine ae (aj (Cn Z (Cp (aa (aD (aE ?_))))))
    refine aO Tryz.results44 (.tmp Z (ao ?_))
    simp only [eV]; rw [decide_eq_false Y]; rfl
   ·cases hc
 ·have e1 : ¬ 0≤r:=by simpa using hb
  refine sg0 Z Z Z Z (sg0 Z Z Z Z (sg0 Z Z Z Z (Cl (a6 Z Z) (Cm Z (sg0 Z Z Z Z (sg0 Z Z Z Z (sg0 Z Z Z Z (sg0 Z Z Z Z (sg0 Z Z Z Z ?_)))))))))
  refine sg0 Z Z Z Z (Cl (a6 Z Z) (Cp (aa ?_)))
  refine aZ Z (fun hc => ?_) (fun hc => ?_)
  ·refine ae (aj (Cn Z (Cp (aa (aD (aE ?_))))))
   refine aO Tryz.results44 (.tmp Z (ao ?_))
   simp [eV,e1]
  ·cases hc
end Tor
end
section
namespace Tor
open Go Go.RowKit Go.Proofs
def bI (x:Int):Prop:=(aF x.natAbs).length≤1099511627776
theorem iG {x:Int} (h:x.natAbs<2^2048):bI x:=by
 have:(aF x.natAbs).length≤64:=cy (Nat.lt_of_lt_of_le h S)
 unfold bI;omega
theorem fO (x y:Int) (hx:bI x) (hy:bI y):Ok Tryz.prog 88 [aK x,aK y] (aK (x+y)):=by
 have h:=wA (decide (x<0)) (decide (y<0)) x.natAbs y.natAbs hx hy
 rw [fx,fx] at h
 exact h.le ⟨eE _,eE _,Cq⟩ H
theorem lk (x y:Int) (hx:bI x) (hy:bI y):Ok Tryz.prog 82 [aK x,aK y] (aK (x - y)):=by
 have h:=Ar (decide (x<0)) (decide (y<0)) x.natAbs y.natAbs hx hy
 rw [fx,fx] at h
 exact h.le ⟨eE _,eE _,Cq⟩ H
theorem dw (x y:Int) (hx:bI x) (hy:bI y):Ok Tryz.prog 80 [aK x,aK y] (aK (x*y)):=by
 have h:=As (decide (x<0)) (decide (y<0)) x.natAbs y.natAbs hx hy
 rw [fx,fx] at h
 exact h.le ⟨eE _,eE _,Cq⟩ H
theorem gM (x:Int):Ok Tryz.prog 83 [aK x] (one (.int .i64 (dQ x))):=by
 have h:=qd (decide (x<0)) x.natAbs
 rw [fx] at h
 exact h.le ⟨eE _,Cq⟩ H
theorem qh (x y:Int):Ok Tryz.prog 87 [aK x,aK y] (one (.int .i64 (eU x y))):=by
 have h:=At (decide (x<0)) (decide (y<0)) x.natAbs y.natAbs
 rw [fx,fx] at h
 exact h.le ⟨eE _,eE _,Cq⟩ H
theorem iH (x y:Int) (hx:bI x) (hy:bI y):Ok Tryz.prog 59 [aK x,aK y] (aK (x+y)):=by
 have h:=ys (decide (x<0)) (decide (y<0)) x.natAbs y.natAbs hx hy
 rw [fx,fx] at h
 exact h.le ⟨eE _,eE _,Cq⟩ H
theorem d8 (x y:Int) (hx:bI x) (hy:bI y):Ok Tryz.prog 58 [aK x,aK y] (aK (x*y)):=by
 have h:=yt (decide (x<0)) (decide (y<0)) x.natAbs y.natAbs hx hy
 rw [fx,fx] at h
 exact h.le ⟨eE _,eE _,Cq⟩ H
def dc (x:Int):Prop:=x.natAbs≤2^400
theorem wK {x y:Int} (hx:dc x) (hy:dc y):(x*y).natAbs≤2^800:=by
 rw [Int.natAbs_mul]
 exact Nat.le_trans (Nat.mul_le_mul hx hy) S
theorem rJ {x:Int} {n:Nat} (h:x.natAbs≤n) (hn:n<2^2048):bI x:=iG (Nat.lt_of_le_of_lt h hn)
theorem bw {x:Int} (hx:dc x):bI x:=rJ hx S
def ef (x:Int):Prop:=(aF x.natAbs).length≤274877906944
theorem dc.L {x:Int} (h:dc x):ef x:=Nat.le_trans (cy (k:=64) (Nat.lt_of_le_of_lt h S)) W
theorem dC {x:Int} (h:ef x):bI x:=Nat.le_trans h W
theorem Av {x:Int} {k:Nat} (h:(aF x.natAbs).length≤k):x.natAbs<4294967296^k:=Nat.lt_of_lt_of_le (cR _) (Nat.pow_le_pow_right W h)
theorem wL {x y:Int} {j k:Nat} (hx:(aF x.natAbs).length≤j) (hy:(aF y.natAbs).length≤k):(aF (x*y).natAbs).length≤j+k:=cy (by
 rw [Int.natAbs_mul,Nat.pow_add]
 have h1:=Av hx
 have h2:=Av hy
 exact Nat.lt_of_le_of_lt (Nat.mul_le_mul_left _ (Nat.le_of_lt h2)) (Nat.mul_lt_mul_of_pos_right h1 (Nat.pow_pos W)))
theorem ll {x y:Int} (hx:ef x) (hy:ef y):(aF (x*y).natAbs).length≤549755813888:=wL hx hy
theorem iI {x y:Int} (hx:ef x) (hy:ef y):bI (x*y):=Nat.le_trans (ll hx hy) W
theorem jV {x:Int} (h:bI x):bI (-x):=by unfold bI at *; rw [Int.natAbs_neg]; exact h
theorem qi (φ:VT):VT.le φ bK:=fun _ _ _=>trivial
instance {neg:Bool} {l:List Nat} : Flat (kz neg l) (.agg 2):=by unfold kz;infer_instance
attribute [local irreducible] J PJ aJ one slT cv bB bL exT cp eP aW aN slV VT.le Ret bK
theorem jx (l:List Nat) (hl:l.length≤1099511627776):Ok Tryz.prog 121 [ci l] (ci l):=by
 unfold ci
 refine Ok.enter Tryz.func121 Z Tryz.ntmps121 Z (fun w O => ?_)
 refine ae (aj (Cn Z (Cp (aa (ae (ae (aj (Cm Z (Cl (tU Z) ?_)))))))))
 refine Cp (aa ?_)
 refine yc (t:=4) Z (fun b => ?_)
 refine tN (t:=4) Z (fun hb => ?_)
 refine aZ Z (fun hc => ?_) (fun hc => ?_)
 ·have h0:=hb hc
  refine ae (aj (Cn Z (Cp (aa (aD (aE ?_))))))
  refine aO Tryz.results121 (.tmp Z (by (rw [h0]; exact gi)))
 ·refine aw (aa (ae (aj (kb (n:=0) Z Z Z Z Z ?_))))
  refine PartsK.nil (fun bl => ?_)
  refine Cm Z ?_
  (refine cV 0 Z Z Z (leN Z) ?_ ?_ Z (ltN Z) (fun sv7 cap7 => ?_);omega;omega)
  refine Cn Z (Cp (aa (aD (cJ (t:=2) (i:=0) Z Z ?_))))
  refine aO Tryz.results121 (.tmp Z (cX (by simp) (fun i hi=>by simp)))
theorem ub (x:Int) (hx:bI x):Ok Tryz.prog 99 [aK x] (aK (-x)):=by
 have hcl:=jx (aF x.natAbs) hx
 have hv:=(dW (!decide (x<0)) x.natAbs).le (gE _) (bZ (y := -x) (by by_cases h:x<0 <;> simp [h] <;> omega))
 unfold aK at *
 refine Ok.enter Tryz.func99 Z Tryz.ntmps99 Z (fun w O => ?_)
 refine ae (aj ?_)
 refine aQ Z Z (ltN Z) (fun b1 => ?_)
 refine aP (T:=43) Z (ltN Z) (fun b2 => ?_)
 refine Cp (aa (ae (a4 7 aU X W (Cl (ai Z) (Cl (ak 1 Z Z Z) (Cl (bS Z) (Cl (ai Z) (Cl (ak 1 Z Z Z) ?_))))))))
 refine Cl (am (hcl) Z ⟨H,Cq⟩) ?_
 refine Cl (am (hv) Z ⟨H,(cE _),Cq⟩) ?_
 refine Cp (aB 0 Z Z Z Z Z (leN Z) Z (Cp (aa (aD ?_))))
 refine aO Tryz.results99 (.cellB 0 Z Z Z H)
theorem yv (x:Int) (hx:bI x):Ok Tryz.prog 86 [aK x] (aK x.natAbs):=by
 have hcl:=jx (aF x.natAbs) hx
 have hv:=(dW false x.natAbs).le (gE _) (bZ (y:=(x.natAbs:Int)) (by simp))
 unfold aK at *
 refine Ok.enter Tryz.func86 Z Tryz.ntmps86 Z (fun w O => ?_)
 refine ae (aj ?_)
 refine aQ Z Z (ltN Z) (fun b1 => ?_)
 refine aP (T:=43) Z (ltN Z) (fun b2 => ?_)
 refine Cp (aa (ae (aj (Cl (ai Z) (Cl (ak 1 Z Z Z) ?_)))))
 refine Cl (am (hcl) Z ⟨H,Cq⟩) ?_
 refine Cl (am (hv) Z ⟨H,(cE _),Cq⟩) ?_
 refine aB 0 Z Z Z Z Z (leN Z) Z (Cp (aa (aD ?_)))
 refine aO Tryz.results86 (.cellB 0 Z Z Z H)
theorem cP {n:Nat} (h:(aF n).length≤1099511627776):VT.le (ci (aF n)) (oR n):=ib (a7 n) (bQ n) Y
theorem iJ (x:Int) (hx:bI x):Ok Tryz.prog 89 [aK x] (aK (-x)):=by
 have hv:=(dt (!decide (x<0)) x.natAbs).le (gE _) (bZ (y := -x) (by by_cases h:x<0 <;> simp [h] <;> omega))
 have hx:(aF x.natAbs).length≤1099511627776:=hx
 unfold aK at *
 refine Ok.enter Tryz.func89 Z Tryz.ntmps89 Z (fun w O => ?_)
 refine ae (aj ?_)
 refine aQ Z Z (ltN Z) (fun b1 => ?_)
 refine aP (T:=43) Z (ltN Z) (fun b2 => ?_)
 refine Cp (aa (ae (aj (Cl (ai Z) (Cl (ak 1 Z Z Z) (Cl (ai Z) (Cl (ak 1 Z Z Z) (Cl (bS Z) ?_))))))))
 refine Cl (am (hv) Z ⟨(cP hx),H,Cq⟩) ?_
 refine aB 0 Z Z Z Z Z (leN Z) Z (Cp (aa (aD ?_)))
 refine aO Tryz.results89 (.cellB 0 Z Z Z H)
theorem eg (x:Int):Ok Tryz.prog 56 [aK x] (one (.int .i64 (dQ x))):=by
 have h:=wB (decide (x<0)) x.natAbs
 rw [fx] at h
 exact h.le ⟨eE _,Cq⟩ H
theorem lm (x y:Int) (hx:bI x) (hy:bI y):Ok Tryz.prog 113 [aK x,aK y] (aK (x - y)):=by
 have hv:=(iH x (-y) hx (jV hy)).le (gE _) (bZ (y:=x - y) Y)
 refine Ok.enter Tryz.func113 Z Tryz.ntmps113 Z (fun w O => ?_)
 refine ae (aj ?_)
 refine aQ Z Z (ltN Z) (fun b2 => ?_)
 refine aQ Z Z (ltN Z) (fun b3 => ?_)
 refine aP (T:=43) Z (ltN Z) (fun b4 => ?_)
 refine Cp (aa (ae (a4 4 aU X W (Cl (aL 2 Z Z) (Cl (aL 1 Z Z) ?_)))))
 refine Cl (am (iJ _ (by assumption)) Z ⟨H,Cq⟩) ?_
 refine Cl (am (hv) Z ⟨H,H,Cq⟩) ?_
 refine Cp (aB 0 Z Z Z Z Z (leN Z) Z (Cp (aa (aD ?_))))
 refine aO Tryz.results113 (.cellB 0 Z Z Z H)
theorem yw (x y:Int):dQ (x - y)=eU x y:=by
 unfold dQ eU
 by_cases h:x<y
 ·rw [if_neg Y,if_pos Y,if_pos h]
 ·by_cases h2:y<x
  ·rw [if_neg Y,if_neg Y,if_neg h,if_pos h2]
  ·rw [if_pos Y,if_neg h,if_neg h2]
theorem wM (x y:Int) (hx:bI x) (hy:bI y):Ok Tryz.prog 73 [aK x,aK y] (one (.int .i64 (eU x y))):=by
 refine Ok.enter Tryz.func73 Z Tryz.ntmps73 Z (fun w O => ?_)
 refine ae (aj ?_)
 refine aQ Z Z (ltN Z) (fun b2 => ?_)
 refine aQ Z Z (ltN Z) (fun b3 => ?_)
 refine Cn Z (Cp (aa (ae (aj (Cl (aL 1 Z Z) (Cl (aL 0 Z Z) ?_))))))
 refine Cl (am (lm _ _ (by assumption) (by assumption)) Z ⟨H,H,Cq⟩) ?_
 refine Cl (am (eg _) Z ⟨H,Cq⟩) ?_
 refine Cn Z (Cp (aa (aD ?_)))
 refine aO Tryz.results73 (.tmp Z (ao (by rw [yw])))
end Tor
end
section
namespace Tor
open Go Go.RowKit Go.Proofs
def uc (φ ψ:VT):VT:=slT (.agg 3) 2 (fun i=>if i=0 then φ else ψ)
theorem nV {φ ψ:VT} : VT.le (slT (.agg 3) 2 (fun q => [φ, ψ].getD q bK)) (uc φ ψ):=by
 unfold uc
 refine eo fun i hi => ?_
 rcases i with _ | _ | i
 ·exact VT.le_refl _
 ·exact VT.le_refl _
 ·omega
instance {r c:Nat} {F:Nat→Nat→Int} : Flat (cg r c F) (.agg 3):=by unfold cg;infer_instance
attribute [local irreducible] J PJ aJ one slT cv bB bL exT cp eP aW aN slV VT.le Ret bK
attribute [local irreducible] aK cg
theorem cT (r c:Nat) (F:Nat→Nat→Int):Ok Tryz.prog 44 [cg r c F] (one (.bool true)):=by
 have h:=rI r c (jv r c F)
 rw [nU] at h
 exact h.le ⟨rH r c F,Cq⟩ H
theorem pq (ra ca:Nat) (F:Nat→Nat→Int) (rb cb:Nat) (G:Nat→Nat→Int):Ok Tryz.prog 106 [uc (cg ra ca F) (cg rb cb G)] (one (.bool true)):=by
 unfold uc
 refine Ok.enter Tryz.func106 Z Tryz.ntmps106 Z (fun w O => ?_)
 refine ae (aj (Cn Z (Cp (aa (ae (ae (aj (Cm Z (Cl (aV Z) ?_)))))))))
 refine Cm Z (Cp (aa (av ?_)))
 refine cA (σ:=Nat) (fun i => [(5,slT (.agg 3) 2 (fun i=>if i=0 then cg ra ca F else cg rb cb G)),(6,one (.int .i64 (2:Nat))),(7,one (.int .i64 (i:Nat)))]) (fun _ => []) (fun i=>i≤2) (fun i=>2 - i) 0 (Nat.zero_le _) Ci (SubM.refl _) (fun i hi => ?_)
 refine ae (aj (Cl (a9 Z Z) (Cp (aa (ae ?_)))))
 refine aZ Z (fun hc => ?_) (fun hc => ?_) <;> simp only [decide_eq_true_eq,decide_eq_false_iff_not,ne_eq,Decidable.not_not] at hc
 ·have h2:i<2:=by omega
  have hF:Flat (if i=0 then cg ra ca F else cg rb cb G) (.agg 3):=by split <;> infer_instance
  refine aw (aa (ae (av (ae (aj ?_)))))
  (refine Cl (ax Z Z ?_) ?_;omega)
  refine Cl (aG Z) ?_
  refine aT (T:=28) Z Z Z (fun b => ?_)
  refine dF 0 Z Z Z Z (Cp (aa (ae (aj (Cl (ak 0 Z Z Z) ?_)))))
  have hcall:Ok Tryz.prog 44 [if i=0 then cg ra ca F else cg rb cb G] (one (.bool true)):=by
   split
   ·exact cT _ _ _
   ·exact cT _ _ _
  refine Cl (am hcall Z ⟨H,Cq⟩) ?_
  refine Cl (bS Z) (Cp (aa ?_))
  refine aZ Z (fun hc2 => ?_) (fun hc2 => ?_)
  ·cases hc2
  ·refine aw (aA (aa (aj ?_)))
   (refine Cl (cj Z Z (aM ?_ ?_)) ?_;omega;omega)
   refine Cm Z (Cp ?_)
   exact bG (s:=i) (i+1) (show _ from by omega) (by show 2 - (i+1)<2 - i;omega) Ci (.drop .nil)
 ·refine aX (au (au (aC (aa (ae (aj (Cn Z (Cp (aa ?_)))))))))
  refine aD ?_
  exact aO Tryz.results106 (.tmp Z H)
end Tor
end
section
namespace Tor
open Go Go.RowKit Go.Proofs
attribute [local irreducible] J PJ aJ one slT cv bB bL exT cp eP aW aN slV VT.le Ret bK
theorem Aw (x:Int) (hx:bI x):Ok Tryz.prog 102 [aK x] (aK x):=by
 unfold aK
 refine Ok.enter Tryz.func102 Z Tryz.ntmps102 Z (fun w O => ?_)
 refine ae (aj ?_)
 refine aQ Z Z (ltN Z) (fun b => ?_)
 refine aP (T:=43) Z (ltN Z) (fun b => ?_)
 refine Cp (aa (ae (a4 6 aU X W (Cl (ai Z) (Cl (ak 1 Z Z Z) (Cl (ai Z) (Cl (ak 1 Z Z Z) ?_)))))))
 refine Cl (am (jx _ hx) Z ⟨H,Cq⟩) ?_
 refine stB Z Z Z (BuildK.cons Z Z Z (BuildK.cons Z Z Z (BuildK.nil (Cp (aB 0 Z Z Z Z Z (leN Z) Z (Cp (aa (aD ?_))))))))
 refine aO Tryz.results102 (.cellB 0 Z Z Z H)
attribute [local irreducible] aK
end Tor
end
section
namespace Tor
open Go Go.RowKit Go.Proofs
attribute [local irreducible] J PJ aJ one slT cv bB bL exT cp eP aW aN slV VT.le Ret bK
theorem wN (n:Nat) (φ ψ χ:Nat→VT) [hF : ∀ i,Flat (χ i) (.agg 2)] (cl:VT) (hn:n≤1048576) (hC : ∀ i,i<n→kR Tryz.prog cl [φ i, ψ i] (χ i)):Ok Tryz.prog 117 [slT (.agg 2) n φ,slT (.agg 2) n ψ,cl] (slT (.agg 2) n χ):=by
 refine Ok.enter Tryz.func117 Z Tryz.ntmps117 Z (fun w O => ?_)
 refine ae (aj (Cn Z (Cp (aa (ae (aj (Cm Z (Cl (aV Z) ?_))))))))
 refine bX n n Z Z Z Z (Nat.le_refl _) Z Z Y Z Z (fun bz => ?_)
 refine Cn Z (Cp (aa (ae (ae (aj (Cm Z (Cl (f6 Z) (Cm Z (Cp ?_)))))))))
 refine aa (av ?_)
 refine cA (σ:=Nat) (fun i => [(0,slT (.agg 2) n φ),(1,slT (.agg 2) n ψ),(2,cl),(7,one (slV (some bz) n n)),(13,one (.int .i64 n)),(14,one (.int .i64 (i:Nat)))])
  (fun i => [aN (some bz) 43 (.agg 2) n n (fun q=>if q<i then χ q else bK)]) (fun i=>i≤n) (fun i=>n - i) 0 (Nat.zero_le _) Ci (.keep (gk fun q hq=>by rw [if_neg Y]; exact qi _) .nil) (fun i hi => ?_)
 refine ae (aj (Cl (a9 Z Z) (Cp (aa (ae ?_)))))
 refine aZ Z (fun hc => ?_) (fun hc => ?_) <;> simp only [decide_eq_true_eq,decide_eq_false_iff_not,ne_eq,Decidable.not_not] at hc
 ·refine aw (aa (ae (av (ae (aj (Cm Z (Cn Z (Cp (aa ?_)))))))))
  refine a4 13 aU X W (Cm Z (Cm Z (Cm Z (Cm Z (Cm Z ?_)))))
  (refine Cl (ax Z Z ?_) ?_;omega)
  refine Cl (aG Z) (Cm Z (Cm Z ?_))
  (refine Cl (ax Z Z ?_) ?_;omega)
  refine Cl (aG Z) ?_
  refine Cl (tT (hC i Y) Z Z ⟨H,H,Cq⟩) ?_
  (refine Cl (an Z Z ?_) ?_;omega)
  refine Cp ?_
  (refine ay 0 Z Z Z ?_ Z ?_;omega)
  refine Cp (aA (aa (aj ?_)))
  (refine Cl (cj Z Z (aM ?_ ?_)) ?_;omega;omega)
  refine Cm Z (Cp ?_)
  refine bG (s:=i) (i+1) (show _ from by omega) (by show n - (i+1)<n - i;omega) Ci (.keep (bJ fun q hq => ?_) .nil)
  unfold upd
  by_cases h:q=i
  ·subst h;rw [if_pos Z,if_pos Y]
  ·rw [if_neg h]
   have e:q<i+1↔q<i:=by omega
   simp only [e]
 ·have hk:i=n:=by omega
  subst hk
  refine aX (au (au (aC (aa (ae (aj (Cm Z (Cn Z (Cp ?_)))))))))
  refine aa (aD (cJ (t:=6) (i:=0) Z Z ?_))
  refine aO Tryz.results117 (.tmp Z (eo fun q hq => ?_))
  rw [if_pos hq]; exact VT.le_refl _
theorem wO (n:Nat) (φ ψ χ:Nat→VT) [hF : ∀ i,Flat (χ i) .one] (cl:VT) (hn:n≤1048576) (hC : ∀ i,i<n→kR Tryz.prog cl [φ i, ψ i] (χ i)):Ok Tryz.prog 112 [slT (.agg 2) n φ,slT (.agg 2) n ψ,cl] (slT .one n χ):=by
 refine Ok.enter Tryz.func112 Z Tryz.ntmps112 Z (fun w O => ?_)
 refine ae (aj (Cn Z (Cp (aa (ae (aj (Cm Z (Cl (aV Z) ?_))))))))
 refine bX n n Z Z Z Z (Nat.le_refl _) Z Z Y Z Z (fun bz => ?_)
 refine Cn Z (Cp (aa (ae (ae (aj (Cm Z (Cl (f6 Z) (Cm Z (Cp ?_)))))))))
 refine aa (av ?_)
 refine cA (σ:=Nat) (fun i => [(0,slT (.agg 2) n φ),(1,slT (.agg 2) n ψ),(2,cl),(7,one (slV (some bz) n n)),(13,one (.int .i64 n)),(14,one (.int .i64 (i:Nat)))])
  (fun i => [aN (some bz) 4 .one n n (fun q=>if q<i then χ q else bK)]) (fun i=>i≤n) (fun i=>n - i) 0 (Nat.zero_le _) Ci (.keep (gk fun q hq=>by rw [if_neg Y]; exact qi _) .nil) (fun i hi => ?_)
 refine ae (aj (Cl (a9 Z Z) (Cp (aa (ae ?_)))))
 refine aZ Z (fun hc => ?_) (fun hc => ?_) <;> simp only [decide_eq_true_eq,decide_eq_false_iff_not,ne_eq,Decidable.not_not] at hc
 ·refine aw (aa (ae (av (ae (aj (Cm Z (Cn Z (Cp (aa ?_)))))))))
  refine a4 13 aU X W (Cm Z (Cm Z (Cm Z (Cm Z (Cm Z ?_)))))
  (refine Cl (ax Z Z ?_) ?_;omega)
  refine Cl (aG Z) (Cm Z (Cm Z ?_))
  (refine Cl (ax Z Z ?_) ?_;omega)
  refine Cl (aG Z) ?_
  refine Cl (tT (hC i Y) Z Z ⟨H,H,Cq⟩) ?_
  (refine Cl (an Z Z ?_) ?_;omega)
  refine Cp ?_
  (refine ay 0 Z Z Z ?_ Z ?_;omega)
  refine Cp (aA (aa (aj ?_)))
  (refine Cl (cj Z Z (aM ?_ ?_)) ?_;omega;omega)
  refine Cm Z (Cp ?_)
  refine bG (s:=i) (i+1) (show _ from by omega) (by show n - (i+1)<n - i;omega) Ci (.keep (bJ fun q hq => ?_) .nil)
  unfold upd
  by_cases h:q=i
  ·subst h;rw [if_pos Z,if_pos Y]
  ·rw [if_neg h]
   have e:q<i+1↔q<i:=by omega
   simp only [e]
 ·have hk:i=n:=by omega
  subst hk
  refine aX (au (au (aC (aa (ae (aj (Cm Z (Cn Z (Cp ?_)))))))))
  refine aa (aD (cJ (t:=6) (i:=0) Z Z ?_))
  refine aO Tryz.results112 (.tmp Z (eo fun q hq => ?_))
  rw [if_pos hq]; exact VT.le_refl _
end Tor
end
section
namespace Tor
open Go Go.RowKit Go.Proofs
def dL:Nat→(Nat→Int)→Int
 | 0, _ => 0
 | n + 1, f => dL n f + f n
theorem gN {n:Nat} {f g:Nat→Int} (h : ∀ i,i<n→f i=g i):dL n f=dL n g:=by
 induction n with
 | zero => rfl
 | succ n ih => rw [dL, dL, ih (fun i hi => h i Y), h n Y]
theorem nW {n B:Nat} {f:Nat→Int} (h : ∀ i,(f i).natAbs≤B):(dL n f).natAbs≤n*B:=by
 induction n with
 | zero => simp [dL]
 | succ n ih =>
  rw [dL,Nat.succ_mul]
  have:=h n
  omega
theorem vk {n:Nat} {f:Nat→Int} (hn:n≤1048576) (h : ∀ i,(f i).natAbs≤2^800):bI (dL n f) :=
 rJ (nW h) (Nat.lt_of_le_of_lt (Nat.mul_le_mul_right _ hn) S)
theorem wP {n k:Nat} {f:Nat→Int} (hn:n≤1048576) (h : ∀ i,(aF (f i).natAbs).length≤k):(aF (dL n f).natAbs).length≤k+1:=cy (by
 have h1:=nW (n:=n) fun i=>Nat.le_of_lt (Av (h i))
 rw [Nat.pow_succ,Nat.mul_comm]
 exact Nat.lt_of_le_of_lt h1 (Nat.mul_lt_mul_of_pos_right Y (Nat.pow_pos W)))
theorem kB {n:Nat} {f:Nat→Int} (hn:n≤1048576) (h : ∀ i,(aF (f i).natAbs).length≤549755813888):bI (dL n f):=Nat.le_trans (wP hn h) W
def iK (n:Nat) (F G:Nat→Nat→Int):Nat→Nat→Int:=fun i j=>dL n (fun k=>F i k*G k j)
theorem fj {n:Nat} {f:Nat→Int} : dL (n+1) f=dL n f+f n:=rfl
attribute [local irreducible] J PJ aJ one slT cv bB bL exT cp eP aW aN slV VT.le Ret bK
attribute [local irreducible] aK
theorem tc (r c:Nat) (v:Nat→Int) (G:Nat→Nat→Int) (hr:r≤1048576) (hc0:c≤1048576) (hv : ∀ i,ef (v i)) (hG : ∀ i j,ef (G i j)) :
  Ok Tryz.prog 107 [cH r v,cg r c G] (cH c (fun j=>dL r (fun k=>v k*G k j))):=by
 unfold cH cg
 refine Ok.enter Tryz.func107 Z Tryz.ntmps107 Z (fun w O => ?_)
 refine ae (aj ?_)
 refine aQ Z Z (ltN Z) (fun b => ?_)
 refine Cn Z (Cp (aa (ae (aj (Cl (ai Z) (Cl (ak 0 Z Z Z) ?_))))))
 refine bX c c Z Z Z Z (Nat.le_refl _) Z Z Y Z Z (fun bz => ?_)
 refine Cn Z (Cp (aa (ae (ae (aj (Cm Z (Cl (aV Z) (Cm Z (Cp ?_)))))))))
 refine aa (av ?_)
 refine cA (σ:=Nat) (fun i => [(3,one (.pointer (some ⟨b,0,none⟩))),(5,one (slV (some bz) c c)),(13,slT (.agg 2) r (fun j=>aK (v j))),(14,one (.int .i64 r)),(15,one (.int .i64 (i:Nat)))])
  (fun i => [aN (some bz) 43 (.agg 2) c c (fun q=>aK (dL i (fun k=>v k*G k q))),aW b 28 3 [(0, .one,one (.int .i64 r)),(1, .one,one (.int .i64 c)),(2, .one,slT .one r (fun i=>cH c (G i)))]])
  (fun i=>i≤r) (fun i=>r - i) 0 (Nat.zero_le _) Ci (.keep (gk fun q hq=>iF) (SubM.refl _)) (fun i hi => ?_)
 unfold cH
 refine ae (aj (Cl (a9 Z Z) (Cp (aa (ae ?_)))))
 refine aZ Z (fun hc => ?_) (fun hc => ?_) <;> simp only [decide_eq_true_eq,decide_eq_false_iff_not,ne_eq,Decidable.not_not] at hc
 ·refine aw (aa (ae (av (ae (aj (Cm Z ?_))))))
  (refine Cl (ax Z Z ?_) ?_;omega)
  refine Cl (aG Z) ?_
  refine aP (T:=43) Z (ltN Z) (fun b => ?_)
  refine Cn Z (aB 0 Z Z Z Z Z (leN Z) Z (Cp (aa (ae (ae (aj (Cl (ak 0 Z Z Z) ?_)))))))
  rename_i ba
  refine Cl (am (gM (v i)) Z ⟨H,Cq⟩) ?_
  refine Cl (cN Z Z) (Cp (aa ?_))
  refine aZ Z (fun hc2 => ?_) (fun hc2 => ?_) <;> simp only [decide_eq_true_eq,decide_eq_false_iff_not,fK] at hc2
  ·refine aX (au (aC (aa (aj ?_))))
   (refine Cl (cj Z Z (aM ?_ ?_)) ?_;omega;omega)
   refine Cm Z (Cp ?_)
   refine bG (s:=i) (i+1) (show _ from by omega) (by show r - (i+1)<r - i;omega) Ci (.drop (.keep (bJ fun q hq => ?_) (SubM.refl _)))
   rw [fj,hc2]; simp
  ·refine aw (aa (ae (aj (Cl (ai Z) (Cl (ak 2 Z Z Z) (Cm Z ?_))))))
   (refine Cl (ax Z Z ?_) ?_;omega)
   refine Cl (aG Z) (Cl (aV Z) (Cm Z (Cp (aa (av ?_)))))
   refine cA (σ:=Nat) (fun j => [(3,one (.pointer (some ⟨ba,0,none⟩))),(5,one (slV (some bz) c c)),(6,one (.int .i64 (i:Nat))),(7,one (.pointer (some ⟨b,0,none⟩))),(13,slT (.agg 2) r (fun j=>aK (v j))),(14,one (.int .i64 r)),(15,one (.int .i64 (i:Nat))),(27,slT (.agg 2) c (fun j=>aK (G i j))),(28,one (.int .i64 c)),(29,one (.int .i64 (j:Nat)))])
    (fun j => [aW b 43 2 [(0, .agg 2,aK (v i))],aN (some bz) 43 (.agg 2) c c (fun q=>aK (if q<j then dL (i+1) (fun k=>v k*G k q) else dL i (fun k=>v k*G k q))),aW ba 28 3 [(0, .one,one (.int .i64 r)),(1, .one,one (.int .i64 c)),(2, .one,slT .one r (fun i=>slT (.agg 2) c (fun j=>aK (G i j))))]])
    (fun j=>j≤c) (fun j=>c - j) 0 (Nat.zero_le _) Ci (.keep Ck (.keep (bJ fun q hq=>by rw [if_neg Y]) (SubM.refl _))) (fun j hj => ?_)
   refine ae (aj (Cl (a9 Z Z) (Cp (aa (ae ?_)))))
   refine aZ Z (fun hc3 => ?_) (fun hc3 => ?_) <;> simp only [decide_eq_true_eq,decide_eq_false_iff_not,Int.ofNat_lt] at hc3
   ·refine aw (aa (ae (av (ae (aj (Cm Z ?_))))))
    (refine Cl (ax Z Z ?_) ?_;omega)
    refine Cl (aG Z) ?_
    refine aP (T:=43) Z (ltN Z) (fun b => ?_)
    refine Cn Z (aB 0 Z Z Z Z Z (leN Z) Z (Cp (aa (ae (aj (Cl (ak 0 Z Z Z) ?_))))))
    refine Cl (am (gM (G i j)) Z ⟨H,Cq⟩) ?_
    refine Cl (c8 Z Z) (Cp (aa ?_))
    refine aZ Z (fun hc4 => ?_) (fun hc4 => ?_) <;> simp only [decide_eq_true_eq,decide_eq_false_iff_not,ne_eq,Decidable.not_not,fK] at hc4
    ·skip
     refine a4 11 aU X W (Cm Z (Cm Z (Cm Z (Cm Z ?_))))
     (refine Cl (an Z Z ?_) ?_;omega)
     (refine Cl (bn 2 Z Z ?_) ?_;omega)
     refine Cl (ak 1 Z Z Z) (Cl (ak 0 Z Z Z) ?_)
     refine Cl (am (dw (v i) (G i j) (dC (hv i)) (dC (hG i j))) Z ⟨H,H,Cq⟩) ?_
     rw [if_neg (Nat.lt_irrefl j)]
     refine Cl (am (fO (dL i (fun k=>v k*G k j)) (v i*G i j) (kB Y (fun k=>ll (hv k) (hG k j))) (iI (hv i) (hG i j))) Z ⟨H,H,Cq⟩) ?_
     (refine Cl (an Z Z ?_) ?_;omega)
     refine Cp ?_
     (refine ay 2 Z Z Z ?_ Z ?_;omega)
     refine Cp (aA (aa (aj ?_)))
     (refine Cl (cj Z Z (aM ?_ ?_)) ?_;omega;omega)
     refine Cm Z (Cp ?_)
     refine bG (s:=j) (j+1) (show _ from by omega) (by show c - (j+1)<c - j;omega) Ci (.drop (.keep Ck (.keep (bJ fun q hq => ?_) (SubM.refl _))))
     unfold upd
     by_cases h:q=j
     ·subst h;rw [if_pos Z,if_pos Y]; rfl
     ·rw [if_neg h]
      have e:q<j+1↔q<j:=by omega
      simp only [e]
    ·refine aw (aA (aa (aj ?_)))
     (refine Cl (cj Z Z (aM ?_ ?_)) ?_;omega;omega)
     refine Cm Z (Cp ?_)
     refine bG (s:=j) (j+1) (show _ from by omega) (by show c - (j+1)<c - j;omega) Ci (.drop (.keep Ck (.keep (bJ fun q hq => ?_) (SubM.refl _))))
     by_cases h:q=j
     ·subst h;rw [if_neg (Nat.lt_irrefl _),if_pos Y,fj,hc4]; simp
     ·have e:q<j+1↔q<j:=by omega
      simp only [e]
   ·refine aX (au (au (aC (aA (aa (aj ?_))))))
    (refine Cl (cj Z Z (aM ?_ ?_)) ?_;omega;omega)
    refine Cm Z (Cp ?_)
    refine bG (s:=i) (i+1) (show _ from by omega) (by show r - (i+1)<r - i;omega) Ci (.drop (.keep (bJ fun q hq => ?_) (SubM.refl _)))
    rw [if_pos Y]
 ·have hk:i=r:=by omega
  subst hk
  refine aX (au (au (aC (aa (ae (aj (Cm Z (Cn Z (Cp ?_)))))))))
  refine aa (aD (cJ (t:=4) (i:=0) Z Z ?_))
  exact aO Tryz.results107 (.tmp Z H)
end Tor
end
section
namespace Tor
open Go Go.RowKit Go.Proofs
instance:Idle Tryz.prog 129:=Idle.of Tryz.func129 Z Tryz.ntmps129 Tryz.results129
instance:Idle Tryz.prog 105:=Idle.of Tryz.func105 Z Tryz.ntmps105 Tryz.results105
attribute [local irreducible] J PJ aJ one slT cv bB bL exT cp eP aW aN slV VT.le Ret bK
attribute [local irreducible] dq
theorem wQ (r c:Nat) (hr:r≤1048576) (hc0:c≤1048576):OkM Tryz.prog 101 [one (.int .i64 r),one (.int .i64 c)] (kA r c) (fun s => [gq s.1.2.1 s.1.2.2 r c s.1.1,fk c s.1.1 (fun _ _=>0)]):=by
 refine OkM.enterD Tryz.func101 Z Tryz.ntmps101 Z (fun w O => ?_)
 have e1:max (r:Int) 0=r:=by omega
 have e2:max (c:Int) 0=c:=by omega
 refine ae (aj ?_)
 refine aT (T:=28) Z Z Z (fun b => ?_)
 refine Cp (aa (ae (aj (tS Z (Cp (aa (ae (aj (Cm Z ?_)))))))))
 refine Cl (nl Z Z) (Cm Z (Cl (nl Z Z) (Cn Z (Cn Z (Cp (aa (ae (aj (Cm Z ?_)))))))))
 rw [e1,e2]
 refine bX r r Z Z Z Z (Nat.le_refl _) Z Z Y Z Z (fun bo => ?_)
 refine Cn Z (Cp (aa (ae (ae (aj (Cm Z (Cl (f6 Z) (Cm Z (Cp ?_)))))))))
 refine aa (av ?_)
 refine eS (ConvM.rows0 (T:=43) (L := .agg 2) (c:=c) (φ:=fun _ _=>aK 0) _) ?_
 refine cA (σ:=List Nat) (fun s => [(0,one (.int .i64 r)),(1,one (.int .i64 c)),(4,one (.pointer (some ⟨b,0,none⟩))),(5,one (slV (some bo) r r)),(14,one (.int .i64 r)),(15,one (.int .i64 s.length))])
  (fun s => [aN (some bo) 50 .one r r (fun q=>if q<s.length then one (slV (some (s.getD q 0)) c c) else bK),aW b 28 3 (de #[Value.int IntKind.i64 0,Value.int IntKind.i64 0,Value.slice none 0 0] [(0,Lay.one),(1,Lay.one),(2,Lay.one)]),fk c s (fun _ _=>0)])
  (fun s=>s.length≤r) (fun s=>r - s.length) [] (Nat.zero_le _) Ci (.keep (gk fun q hq=>by rw [if_neg (by simp)]; exact qi _) (SubM.refl _)) (fun bs hk => ?_)
 refine ae (aj (Cl (a9 Z Z) (Cp (aa (ae ?_)))))
 refine aZ Z (fun hc => ?_) (fun hc => ?_) <;> simp only [decide_eq_true_eq,decide_eq_false_iff_not,ne_eq,Decidable.not_not] at hc
 ·refine aw (aa (ae (av (ae (aj (Cm Z (Cn Z (Cp (aa ?_)))))))))
  refine aj (Cm Z (Cm Z (Cm Z ?_)))
  refine bX c c Z Z Z Z (Nat.le_refl _) Z Z Y Z Z (fun bz => ?_)
  (refine Cl (an Z Z ?_) ?_;omega)
  (refine ay 1 Z Z Z ?_ Z ?_;omega)
  refine Cp (aA (aa (aj ?_)))
  (refine Cl (cj Z Z (aM ?_ ?_)) ?_;omega;omega)
  refine Cm Z (Cp (gm (ConvM.row (k:=2) Z) (bG (s:=bs) (bs ++ [bz]) (by simp;omega) (by simp;omega) (.cons Z H (.cons Z H (.cons Z H (.cons Z H (.cons Z H (.cons Z (ao (by simp)) .nil)))))) ?_)))
  refine .keep (bJ (fun q hq => ?_)) (.keep Ck (.keep (nC fun i j hi hj => ?_) .nil))
  ·unfold upd
   by_cases h:q=bs.length
   ·subst h;simp
   ·rw [if_neg h]
    show (if q<bs.length then one (slV (some (bs.getD q 0)) c c) else bK)=_
    by_cases h2:q<bs.length
    ·rw [if_pos h2,if_pos (by simp;omega)]; simp [List.getElem?_append_left h2]
    ·rw [if_neg h2,if_neg (by simp;omega)]
  ·simp only
   split
   ·exact VT.le_refl _
   ·exact iF
 ·have hlen:bs.length=r:=by omega
  subst hlen
  refine aX (au (au (aC (aa (ae (aj (Cm Z (Cm Z (Cm Z ?_)))))))))
  refine stB Z Z Z (BuildK.cons Z Z Z (BuildK.cons Z Z Z (BuildK.cons Z Z Z (BuildK.nil (aR 1 Z Z Z Z (Cp (aa (aD ?_))))))))
  refine pV (nB ⟨(bs,some bo,bs.length),rfl,fun h=>by cases h⟩ Tryz.results101 (.cellW 1 Z Z H) ?_)
  refine .keep (bJ fun q hq => ?_) (.drop (SubM.refl _))
  rw [if_pos hq]
attribute [local irreducible] aK
theorem rK (n:Nat) (hn:n≤1048576):Ok Tryz.prog 72 [one (.int .i64 n)] (cg n n (fun i j=>if i=j then 1 else 0)):=by
 refine Ok.enter Tryz.func72 Z Tryz.ntmps72 Z (fun w O => ?_)
 refine ae (aj ?_)
 refine aT (T:=28) Z Z Z (fun b => ?_)
 refine Cp (aa (ae (aj (Cm Z (Cm Z ?_)))))
 refine ea (wQ n n hn hn) Z ⟨H,H,Cq⟩ Z Z (fun s => ?_)
 obtain ⟨⟨bs,sv1,cap1⟩,hlen,hsv⟩:=s
 simp only at hlen hsv
 unfold kA
 refine aT (T:=28) Z Z Z (fun b => ?_)
 refine aR 0 Z Z Z Z (Cp (aa (ae (ae (aj (Cl (ai Z) (Cl (ak 0 Z Z Z) (Cl (f6 Z) (Cm Z ?_)))))))))
 refine Cp (aa (av ?_))
 rename_i b2
 refine cA (σ:=Nat) (fun i => [(2,one (.pointer (some ⟨b2,0,none⟩))),(3,one (.pointer (some ⟨b,0,none⟩))),(10,one (.int .i64 n)),(11,one (.int .i64 (i:Nat)))])
  (fun i => [aW b 28 3 [(0, .one,one (.int .i64 n)),(1, .one,one (.int .i64 n)),(2, .one,one (slV sv1 n cap1))],gq sv1 cap1 n n bs,fk n bs (fun q k=>if q<i then (if q=k then 1 else 0) else 0),
   aW b2 28 3 (de #[Value.int IntKind.i64 0,Value.int IntKind.i64 0,Value.slice none 0 0] [(0,Lay.one),(1,Lay.one),(2,Lay.one)])])
  (fun i=>i≤n) (fun i=>n - i) 0 (Nat.zero_le _) Ci (.keep Ck (.keep Ck (.keep (fz fun i j hi hj=>by simp) (SubM.refl _)))) (fun i hi => ?_)
 refine ae (aj (Cl (a9 Z Z) (Cp (aa (ae ?_)))))
 refine aZ Z (fun hc => ?_) (fun hc => ?_) <;> simp only [decide_eq_true_eq,decide_eq_false_iff_not,ne_eq,Decidable.not_not] at hc
 ·obtain ⟨bo,rfl⟩:=e9 hsv Y
  refine aw (aa (ae (av (ae (aj (Cm Z (Cn Z (Cp (aa ?_)))))))))
  refine a4 8 aU X W (Cl (ai Z) (Cl (ak 0 Z Z Z) (Cm Z ?_)))
  (refine Cl (an Z Z ?_) ?_;omega)
  (refine Cl (bn 1 Z Z ?_) ?_;omega)
  refine Cm Z ?_
  refine Cl (am (pn 1 W W) Z ⟨H,Cq⟩) ?_
  (refine Cl (an Z Z ?_) ?_;omega)
  refine Cp ?_
  (refine iB 2 Z Z Z (rD ?_) ?_ Z ?_;omega;omega)
  refine Cp (aA (aa (aj ?_)))
  (refine Cl (cj Z Z (aM ?_ ?_)) ?_;omega;omega)
  refine Cm Z (Cp ?_)
  refine bG (s:=i) (i+1) (show _ from by omega) Y Ci (.keep Ck (.keep Ck (.keep (iA fun q k hq hk => ?_) (SubM.refl _))))
  unfold dP
  by_cases h:q=i
  ·subst h
   by_cases h2:k=q
   ·subst h2;simp
   ·have h3 : ¬ q=k:=fun e=>h2 e.symm
    simp [h2,h3]
  ·have h3:q<i+1↔q<i:=by omega
   simp [h,h3]
 ·have hin:i=n:=by omega
  subst hin
  refine aX (au (au (aC (aa (ae (aj (Cl (aL 0 Z Z) (aR 3 Z Z Z Z (Cp ?_)))))))))
  refine aa (aD ?_)
  have hperm : ∀ (x y z u:Own), [x,y,z,u].Perm ([y,z] ++ [x,u]):=fun x y z u=>(List.Perm.swap y x _).trans (List.Perm.cons y (List.Perm.swap z x _))
  refine hJ [gq sv1 cap1 i i bs,fk i bs (fun q k=>if q<i then (if q=k then 1 else 0) else 0)] (hperm _ _ _ _) (.keep (yh.refl _) (.keep (yh.box (gx hlen ⟨by simp,by simp,by simp⟩)) .nil)) (v7.refl _) ?_
  refine aO Tryz.results72 (.cellW 1 Z Z ?_)
  exact jU fun a b ha hb=>by simp [ha]
end Tor
end
section
namespace Tor
open Go Go.RowKit Go.Proofs
def pt (ok:Bool) (e:Int) (r c:Nat) (F:Nat→Nat→Int):VT:=bL [cg (if ok then r else 0) (if ok then c else 0) F,one (.int .i64 (if ok then 0 else e))]
theorem nX (F:Nat→Nat→Int):VT.le (bB 3 (de #[Value.int IntKind.i64 0,Value.int IntKind.i64 0,Value.slice none 0 0] [(0,Lay.one),(1,Lay.one),(2,Lay.one)])) (cg 0 0 F):=by
 unfold cg
 refine e8 (fun q hq => ?_)
 rcases List.mem_cons.1 hq with rfl | hq
 ·exact ⟨_,List.mem_cons_self,H⟩
 rcases List.mem_cons.1 hq with rfl | hq
 ·exact ⟨_,List.mem_cons_of_mem _ List.mem_cons_self,H⟩
 rcases List.mem_cons.1 hq with rfl | hq
 ·exact ⟨_,List.mem_cons_of_mem _ (List.mem_cons_of_mem _ List.mem_cons_self),gi⟩
 ·cases hq
theorem vl:VT.le (bB 2 (de #[Value.bool false,Value.slice none 0 0] [(0,Lay.one),(1,Lay.one)])) (aK 0):=by
 unfold aK
 refine e8 (fun q hq => ?_)
 rcases List.mem_cons.1 hq with rfl | hq
 ·exact ⟨_,List.mem_cons_self,H⟩
 rcases List.mem_cons.1 hq with rfl | hq
 ·exact ⟨_,List.mem_cons_of_mem _ List.mem_cons_self,gi⟩
 ·cases hq
attribute [local irreducible] J PJ aJ one slT cv bB bL exT cp eP aW aN slV VT.le Ret bK
attribute [local irreducible] aK
theorem yx (n m:Nat) (f g:Nat→Int) (hn:n≤1048576) (hm:m≤1048576) (hf : ∀ i,ef (f i)) (hg : ∀ i,ef (g i)) :
  Ok Tryz.prog 79 [cH n f,cH m g] (bL [aK (if n=m then dL n (fun k=>f k*g k) else 0),one (.int .i64 (if n=m then 0 else 50))]):=by
 unfold cH
 refine Ok.enter Tryz.func79 Z Tryz.ntmps79 Z (fun w O => ?_)
 refine ae (aj ?_)
 refine aP (T:=43) Z (ltN Z) (fun b => ?_)
 refine Cn Z (Cp (aa (ae (ae (aj (Cm Z (Cl (aV Z) (Cm Z (Cl (aV Z) ?_)))))))))
 refine Cl (c8 Z Z) (Cp (aa ?_))
 refine aZ Z (fun hc => ?_) (fun hc => ?_) <;> simp only [decide_eq_true_eq,decide_eq_false_iff_not,ne_eq,Decidable.not_not] at hc
 ·have hne : ¬ n=m:=by omega
  refine ae (aj (stB Z Z Z (BuildK.nil (aB 0 Z Z Z Z Z (leN Z) Z (Cn Z (Cp (aa (aD (aE ?_)))))))))
  refine eX Tryz.results79 (.cellB 0 Z Z Z ?_) (.tmp Z (ao ?_))
  ·rw [if_neg hne]; exact vl
  ·rw [if_neg hne]
 ·have he:n=m:=by omega
  subst he
  refine aw (aa (ae (aj ?_)))
  refine aP (T:=43) Z (ltN Z) (fun b => ?_)
  refine Cp (aa (ae (ae (aj (Cm Z (Cm Z ?_))))))
  rename_i b4
  refine Cl (am (wN n (fun j=>aK (f j)) (fun j=>aK (g j)) (fun j=>aK (f j*g j)) (one (.func (.func 80) #[] #[])) hn (fun i hi=>kR.fn (dw _ _ (dC (hf i)) (dC (hg i))))) Z ⟨H,H,H,Cq⟩) ?_
  refine Cl (aV Z) (Cm Z (Cp (aa (av ?_))))
  refine cA (σ:=Nat) (fun i => [(4,one (.pointer (some ⟨b4,0,none⟩))),(6,one (.pointer (some ⟨b,0,none⟩))),(17,slT (.agg 2) n (fun j=>aK (f j*g j))),(18,one (.int .i64 n)),(19,one (.int .i64 (i:Nat)))])
   (fun i => [aW b 43 2 [(0, .agg 2,aK (dL i (fun k=>f k*g k)))],aW b4 43 2 [(0, .agg 2,one (.agg #[.bool false, .slice none 0 0]))]])
   (fun i=>i≤n) (fun i=>n - i) 0 (Nat.zero_le _) Ci (.keep (yf fun q hq=>by rcases List.mem_cons.1 hq with rfl | hq;exact ⟨_,List.mem_cons_self,iF⟩;cases hq) (SubM.refl _)) (fun i hi => ?_)
  refine ae (aj (Cl (a9 Z Z) (Cp (aa (ae ?_)))))
  refine aZ Z (fun hc => ?_) (fun hc => ?_) <;> simp only [decide_eq_true_eq,decide_eq_false_iff_not,Int.ofNat_lt] at hc
  ·refine aw (aa (ae (av (ae (aj ?_)))))
   (refine Cl (ax Z Z ?_) ?_;omega)
   refine Cl (aG Z) ?_
   refine aP (T:=43) Z (ltN Z) (fun b => ?_)
   refine aB 0 Z Z Z Z Z (leN Z) Z (Cp (aa (aj (Cl (ak 1 Z Z Z) (Cl (ak 0 Z Z Z) ?_)))))
   refine Cl (am (fO (dL i (fun k=>f k*g k)) (f i*g i) (kB Y (fun k=>ll (hf k) (hg k))) (iI (hf i) (hg i))) Z ⟨H,H,Cq⟩) ?_
   refine aB 1 Z Z Z Z Z (leN Z) Z (Cp (aA (aa (aj ?_))))
   (refine Cl (cj Z Z (aM ?_ ?_)) ?_;omega;omega)
   refine Cm Z (Cp ?_)
   exact bG (s:=i) (i+1) (show _ from by omega) (by show n - (i+1)<n - i;omega) Ci (.drop (.keep Ck (SubM.refl _)))
  ·have hin:i=n:=by omega
   subst hin
   refine aX (au (au (aC (aa (ae (aj (Cl (ak 0 Z Z Z) (aB 1 Z Z Z Z Z (leN Z) Z (Cn Z ?_)))))))))
   refine Cp (aa (aD ?_))
   refine eX Tryz.results79 (.cellB 1 Z Z Z ?_) (.tmp Z (ao ?_))
   ·rw [if_pos Z]; exact VT.le_refl _
   ·rw [if_pos Z]
end Tor
end
