/-
  Theorems that the proofs of laws of this seat rest on.
  No condition.
-/
import Derived.Test.YtpnkmoojhbjdfaaGreatLB3
set_option maxHeartbeats 16000000
set_option linter.unusedVariables false
set_option linter.unusedSimpArgs false
section
namespace Tor
open Go Go.RowKit Go.Proofs
def sgT (neg:Bool) (v:Nat):VT:=bA 2 [(0, .one,one (.bool neg)),(1, .one,cr (aL v))]
def sv (neg:Bool) (v:Nat):Int:=if neg then -(v:Int) else v
theorem eF (x:Int):VT.le (aO x) (sgT (decide (x<0)) x.natAbs):=VT.le_refl _
theorem fH (x:Int):sv (decide (x<0)) x.natAbs=x:=by
 unfold sv;by_cases h:x<0
 ·rw [decide_eq_true h,if_pos Z]; omega
 ·rw [decide_eq_false h]; simp only [Bool.false_eq_true,if_false]; omega
attribute [local irreducible] J PJ aP one slT cv bA bM exT cq eP aW aU slV VT.le Ret bO
attribute [local irreducible] aO
theorem kj (u:Nat) (hu:u<18446744073709551616):Ok Tryz.prog 116 [one (.int .u64 u)] (nq u):=by
 refine Ok.enter Tryz.func116 Z Tryz.ntmps116 Z (fun w O => ?_)
 refine ae (aj (Ea Z (Ec (aa (ae (aj (DZ Z (DY (cP Z) (DZ Z ?_)))))))))
 refine DY (gX Z) (DY (cP Z) (stS Z Z Z Z (PartsK.cons Z (PartsK.cons Z (PartsK.nil (Ea Z (Ec (aa (aD ?_)))))))))
 refine aK Tryz.results116 (.tmp Z (VT.le_trans (dg (m := [u % 4294967296,u / 4294967296 % 4294967296].length) (ψ:=fun i=>one (.int .u32 ([u % 4294967296,u / 4294967296 % 4294967296].getD i 0:Nat))) Z (fun q hq => ?_)) (gu (l := [u % 4294967296,u / 4294967296 % 4294967296]) ?_ ?_)))
 ·match q,hq with
  | 0, _ => rfl
  | 1, _ => rfl
 ·intro d hd;simp at hd;omega
 ·simp only [lv]; omega
theorem ql (n:Int) (h1 : -9223372036854775808≤n) (h2:n≤9223372036854775807):Ok Tryz.prog 78 [one (.int .i64 n)] (aO n):=by
 refine Ok.enter Tryz.func78 Z Tryz.ntmps78 Z (fun w O => ?_)
 by_cases hn:n<0
 ·refine ae (aj ?_)
  refine aX (T:=43) Z (ltN Z) (fun b => ?_)
  refine Ec (aa (ae (aj (DZ Z (DY (kb (r:=((18446744073709551616 - n.natAbs:Nat):Int)) Z (by rw [ek]; omega)) (Ea Z (Ec (aa (ae ?_)))))))))
  refine ae (aj (DZ Z (DY (a7 Z Z) (Ec (aa ?_)))))
  refine a4 Z (fun hc => ?_) (fun hc => ?_) <;> simp at hc
  ·refine aj (DZ Z (DY (Bp (r:=(n.natAbs:Int)) Z (by rw [ek]; omega)) (Ea Z (Ec (aa (ae (aj (DZ Z (DY (a7 Z Z) ?_)))))))))
   refine DZ Z ?_
   refine DY (am (kj _ Y) Z ⟨H,Ed⟩) ?_
   refine DY (am (eo _ _) Z ⟨H,H,Ed⟩) ?_
   refine aC 0 Z Z Z Z Z (leN Z) Z (Ec (aa (aD ?_)))
   exact aK Tryz.results78 (.cellB 0 Z Z Z (cj (by rw [decide_eq_true hn,if_pos Z]; omega)))
  ·omega
 ·refine ae (aj ?_)
  refine aX (T:=43) Z (ltN Z) (fun b => ?_)
  refine Ec (aa (ae (aj (DZ Z (DY (kb (r:=(n.natAbs:Int)) Z (by rw [ek]; omega)) (Ea Z (Ec (aa (ae ?_)))))))))
  refine ae (aj (DZ Z (DY (a7 Z Z) (Ec (aa ?_)))))
  refine a4 Z (fun hc => ?_) (fun hc => ?_) <;> simp at hc
  ·omega
  ·refine av (aa (ae (aj (DZ Z (DY (a7 Z Z) (DZ Z ?_))))))
   refine DY (am (kj _ Y) Z ⟨H,Ed⟩) ?_
   refine DY (am (eo _ _) Z ⟨H,H,Ed⟩) ?_
   refine aC 0 Z Z Z Z Z (leN Z) Z (Ec (aa (aD ?_)))
   exact aK Tryz.results78 (.cellB 0 Z Z Z (cj (by rw [decide_eq_false hn]; simp;omega)))
def dQ (x:Int):Int:=if x=0 then 0 else if x<0 then -1 else 1
theorem rd (neg:Bool) (v:Nat):Ok Tryz.prog 83 [sgT neg v] (one (.int .i64 (dQ (sv neg v)))):=by
 refine Ok.enter Tryz.func83 Z Tryz.ntmps83 Z (fun w O => ?_)
 refine ae (aj ?_)
 refine aM Z Z (ltN Z) (fun b => ?_)
 refine Ea Z (Ec (aa (ae (ar (ae (aj (DY (ah Z) (DY (ak 0 Z Z Z) ?_))))))))
 refine DY (am (dE _) Z ⟨cM _,Ed⟩) ?_
 refine DY (aZ Z) (DY (cn Z Z) (Ea Z (Ec (aa ?_))))
 refine a4 Z (fun hc => ?_) (fun hc => ?_) <;> simp at hc
 ·have hv:v=0:=by rw [← bY v,hc]; rfl
  refine ae (aj (Ea Z (Ec (aa (aD (a9 (aI ?_)))))))
  exact aK Tryz.results83 (.tmp Z (ao (by subst hv;simp [dQ,sv])))
 ·have hv:v≠0:=by intro e;subst e;exact hc Z
  refine ae (aj (DY (ah Z) (DY (ak 0 Z Z Z) (Ea Z (Ec (aa ?_))))))
  refine a4 Z (fun hc2 => ?_) (fun hc2 => ?_)
  ·subst hc2
   refine ae (aj (Ea Z (Ec (aa (aD (a9 (aI ?_)))))))
   exact aK Tryz.results83 (.tmp Z (ao (by congr 1;unfold dQ sv;simp only [if_true]; rw [if_neg Y,if_pos Y])))
  ·subst hc2
   refine av (aB (aa (ae (aj (Ea Z (Ec (aa (aD ?_))))))))
   exact aK Tryz.results83 (.tmp Z (ao (by congr 1;unfold dQ sv;simp only [Bool.false_eq_true,if_false]; rw [if_neg Y,if_neg Y])))
theorem x6 (n1 n2:Bool) (v1 v2:Nat) (h1:(aL v1).length≤1099511627776) (h2:(aL v2).length≤1099511627776):Ok Tryz.prog 88 [sgT n1 v1,sgT n2 v2] (aO (sv n1 v1+sv n2 v2)):=by
 refine Ok.enter Tryz.func88 Z Tryz.ntmps88 Z (fun w O => ?_)
 refine ae (aj ?_)
 refine aM Z Z (ltN Z) (fun b => ?_)
 refine aM Z Z (ltN Z) (fun b => ?_)
 refine aX (T:=43) Z (ltN Z) (fun b => ?_)
 refine Ec (aa (ae (aT 8 aS X S (DY (ah Z) (DY (ak 2 Z Z Z) ?_)))))
 refine DY (am (dE _) Z ⟨cM _,Ed⟩) ?_
 refine DY (ah Z) (DY (ak 1 Z Z Z) ?_)
 refine DY (am (dE _) Z ⟨cM _,Ed⟩) ?_
 refine Ea Z (Ea Z (Ec (Ec (aa (ae (ar (ae (aj (DY (ah Z) ?_)))))))))
 refine DY (ak 2 Z Z Z) (DY (ah Z) (DY (ak 1 Z Z Z) (DY (fv Z Z) (Ea Z (Ec (aa ?_))))))
 refine a4 Z (fun hc => ?_) (fun hc => ?_) <;> simp at hc
 ·subst hc
  refine ae (aT 6 aS X S (DY (ah Z) (DY (ak 2 Z Z Z) (DZ Z (DZ Z ?_)))))
  refine DY (am (vD _ _ h1 h2) Z ⟨H,H,Ed⟩) ?_
  refine DY (am (eo _ _) Z ⟨H,H,Ed⟩) ?_
  refine Ec (aC 0 Z Z Z Z Z (leN Z) Z (Ec (aa (aD (a9 (aI ?_))))))
  exact aK Tryz.results88 (.cellB 0 Z Z Z (cj (by unfold sv;split <;> omega)))
 ·refine ae (aj (DZ Z (DZ Z ?_)))
  refine DY (am (lG _ _) Z ⟨H,H,Ed⟩) ?_
  refine DY (a7 Z Z) (Ea Z (Ec (aa ?_)))
  refine a4 Z (fun hc2 => ?_) (fun hc2 => ?_) <;> simp at hc2
  ·have hlt:v1<v2:=by
    unfold np at hc2;split at hc2
    ·assumption
    ·split at hc2 <;> omega
   refine ae (aT 6 aS X S (DY (ah Z) (DY (ak 1 Z Z Z) (DZ Z (DZ Z ?_)))))
   refine DY (am (oR _ _ Y h2) Z ⟨H,H,Ed⟩) ?_
   refine DY (am (eo _ _) Z ⟨H,H,Ed⟩) ?_
   refine Ec (aC 0 Z Z Z Z Z (leN Z) Z (Ec (aa (aD (a9 (aI ?_))))))
   exact aK Tryz.results88 (.cellB 0 Z Z Z (cj (by unfold sv;cases n1 <;> cases n2 <;> simp at hc ⊢ <;> omega)))
  ·have hge:v2≤v1:=by
    unfold np at hc2;split at hc2 <;> omega
   refine av (aB (aa (ae (aT 6 aS X S (DY (ah Z) (DY (ak 2 Z Z Z) (DZ Z (DZ Z ?_))))))))
   refine DY (am (oR _ _ Y h1) Z ⟨H,H,Ed⟩) ?_
   refine DY (am (eo _ _) Z ⟨H,H,Ed⟩) ?_
   refine Ec (aC 0 Z Z Z Z Z (leN Z) Z (Ec (aa (aD ?_))))
   exact aK Tryz.results88 (.cellB 0 Z Z Z (cj (by unfold sv;cases n1 <;> cases n2 <;> simp at hc ⊢ <;> omega)))
theorem B4 (n1 n2:Bool) (v1 v2:Nat) (h1:(aL v1).length≤1099511627776) (h2:(aL v2).length≤1099511627776):Ok Tryz.prog 82 [sgT n1 v1,sgT n2 v2] (aO (sv n1 v1 - sv n2 v2)):=by
 refine Ok.enter Tryz.func82 Z Tryz.ntmps82 Z (fun w O => ?_)
 refine ae (aj ?_)
 refine aM Z Z (ltN Z) (fun b => ?_)
 refine aM Z Z (ltN Z) (fun b => ?_)
 refine aX (T:=43) Z (ltN Z) (fun b => ?_)
 refine Ec (aa (ae (aj (DY (ay 2 Z Z) (DY (ah Z) (DY (ak 1 Z Z Z) (DY (bF Z) (DY (ah Z) (DY (ak 1 Z Z Z) ?_)))))))))
 refine stB Z Z Z (BuildK.cons Z Z Z (BuildK.cons Z Z Z (BuildK.nil ?_)))
 refine DY (am (x6 n1 (!n2) v1 v2 h1 h2) Z ⟨H,H,Ed⟩) ?_
 refine aC 0 Z Z Z Z Z (leN Z) Z (Ec (aa (aD ?_)))
 exact aK Tryz.results82 (.cellB 0 Z Z Z (cj (by unfold sv;cases n2 <;> simp <;> omega)))
theorem B5 (n1 n2:Bool) (v1 v2:Nat) (h1:(aL v1).length≤1099511627776) (h2:(aL v2).length≤1099511627776):Ok Tryz.prog 80 [sgT n1 v1,sgT n2 v2] (aO (sv n1 v1*sv n2 v2)):=by
 refine Ok.enter Tryz.func80 Z Tryz.ntmps80 Z (fun w O => ?_)
 refine ae (aj ?_)
 refine aM Z Z (ltN Z) (fun b => ?_)
 refine aM Z Z (ltN Z) (fun b => ?_)
 refine aX (T:=43) Z (ltN Z) (fun b => ?_)
 refine Ec (aa (ae (aT 13 aS X S (DY (ah Z) (DY (ak 2 Z Z Z) (DY (ah Z) (DY (ak 1 Z Z Z) (DY (ka Z Z) (DY (ah Z) ?_)))))))))
 refine DY (ak 2 Z Z Z) ?_
 refine DY (am (dE _) Z ⟨cM _,Ed⟩) ?_
 refine DY (ah Z) (DY (ak 1 Z Z Z) ?_)
 refine DY (am (dE _) Z ⟨cM _,Ed⟩) ?_
 skip
 refine DY (am (x5 _ _ h1 h2) Z ⟨H,H,Ed⟩) ?_
 refine DY (am (eo _ _) Z ⟨H,H,Ed⟩) ?_
 refine Ec (aC 0 Z Z Z Z Z (leN Z) Z (Ec (aa (aD ?_))))
 exact aK Tryz.results80 (.cellB 0 Z Z Z (cj (by unfold sv;cases n1 <;> cases n2 <;> simp [Int.neg_mul,Int.mul_neg])))
theorem Ac {n1 n2:Bool} {v1 v2:Nat} (h:dQ (sv n1 v1)=dQ (sv n2 v2)):IntKind.i64.wrap (dQ (sv n1 v1)*np v1 v2)=fp (sv n1 v1) (sv n2 v2):=by
 have key:dQ (sv n1 v1)*np v1 v2=fp (sv n1 v1) (sv n2 v2):=by
  unfold dQ sv np fp at *
  cases n1 <;> cases n2 <;> simp only [if_true,if_false,Bool.false_eq_true] at * <;> (repeat' split at h) <;> (try omega) <;> (repeat' split) <;> omega
 rw [key]
 unfold fp;split
 ·decide
 ·split <;> decide
theorem B6 (n1 n2:Bool) (v1 v2:Nat):Ok Tryz.prog 87 [sgT n1 v1,sgT n2 v2] (one (.int .i64 (fp (sv n1 v1) (sv n2 v2)))):=by
 refine Ok.enter Tryz.func87 Z Tryz.ntmps87 Z (fun w O => ?_)
 refine ae (aj ?_)
 refine aM Z Z (ltN Z) (fun b => ?_)
 refine aM Z Z (ltN Z) (fun b => ?_)
 refine Ea Z (Ec (aa (ae (aT 6 aS X S (DY (ay 1 Z Z) ?_)))))
 refine DY (am (rd n1 v1) Z ⟨H,Ed⟩) ?_
 refine DY (ay 0 Z Z) ?_
 refine DY (am (rd n2 v2) Z ⟨H,Ed⟩) ?_
 refine Ea Z (Ea Z (Ec (Ec (aa (ae (ae (aj (DZ Z (DZ Z ?_)))))))))
 refine DY (cE Z Z) (Ec (aa ?_))
 refine a4 Z (fun hc => ?_) (fun hc => ?_) <;> simp only [decide_eq_true_eq,decide_eq_false_iff_not,ne_eq,Decidable.not_not] at hc
 ·refine ae (aj (DZ Z (DZ Z ?_)))
  refine DY (am (ki _ _) Z ⟨H,H,Ed⟩) ?_
  refine Ea Z (Ec (aa (aD (aI ?_))))
  exact aK Tryz.results87 (.tmp Z (ao (by congr 1;unfold dQ at *; unfold fp;split at hc <;> split at hc <;> (try split at hc) <;> (try split at hc) <;> simp at * <;> (repeat' split) <;> omega)))
 ·refine av (aa (ae (aT 10 aS X S (DZ Z (DY (ah Z) (DY (ak 1 Z Z Z) ?_))))))
  refine DY (am (dE _) Z ⟨cM _,Ed⟩) ?_
  refine DY (ah Z) (DY (ak 0 Z Z Z) ?_)
  refine DY (am (dE _) Z ⟨cM _,Ed⟩) ?_
  skip
  refine DY (am (lG _ _) Z ⟨H,H,Ed⟩) ?_
  refine DY (nG (r:=fp (sv n1 v1) (sv n2 v2)) Z Z (Ac hc)) (Ea Z (Ec (Ec (aa (aD ?_)))))
  exact aK Tryz.results87 (.tmp Z H)
end Tor
end
section
namespace Tor
open Go Go.RowKit Go.Proofs
theorem qm {nb neg:Bool} {v:Nat} (h:nb=(neg && decide (v≠0))):VT.le (bA 2 [(0, .one,one (.bool nb)),(1, .one,cr (aL v))]) (aO (if neg then -(v:Int) else v)):=by
 refine eY (fun q hq => ?_)
 simp only [List.mem_cons,List.not_mem_nil,or_false] at hq
 rcases hq with rfl | rfl
 ·have e:decide ((if neg then -(v:Int) else v)<0)=nb:=by rw [h]; cases neg <;> simp <;> (try omega) <;> (rw [Bool.eq_iff_iff]; simp;omega)
  exact ⟨_,List.mem_cons_self,lh (by rw [e])⟩
 ·refine ⟨_,List.mem_cons_of_mem _ List.mem_cons_self,ml ?_⟩
  cases neg <;> simp
theorem vE {b:Bool} {φ ψ:VT} (h:VT.le φ ψ):VT.le (bA 2 [(0, .one,one (.bool b)),(1, .one, φ)]) (bA 2 [(0, .one,one (.bool b)),(1, .one, ψ)]):=by
 refine eY (fun q hq => ?_)
 simp only [List.mem_cons,List.not_mem_nil,or_false] at hq
 rcases hq with rfl | rfl
 ·exact ⟨_,List.mem_cons_self,H⟩
 ·exact ⟨_,List.mem_cons_of_mem _ List.mem_cons_self,h⟩
attribute [local irreducible] J PJ aP one slT cv bA bM exT cq eP aW aU slV VT.le Ret bO
attribute [local irreducible] aO
theorem dJ (neg:Bool) (v:Nat):Ok Tryz.prog 76 [pQ v,one (.bool neg)] (aO (if neg then -(v:Int) else v)):=by
 refine Ok.enter Tryz.func76 Z Tryz.ntmps76 Z (fun w O => ?_)
 refine zU (t:=0) Z (fun l=>vf (t:=0) Z (fun ⟨hL,hv,hb⟩ => ?_))
 subst hv
 refine ae (aj ?_)
 refine aX (T:=43) Z (ltN Z) (fun b => ?_)
 refine Ec (aa (ae (aj (DZ Z (DY (aZ Z) (Ea Z (Ec (aa (ae ?_)))))))))
 refine ar ?_
 refine cC (σ:=Nat) (fun n => [(0,cr l),(1,one (.bool neg)),(4,one (.pointer (some ⟨b,0,none⟩))),(5,one (.int .i64 n))]) (fun _ => [aW b 43 2 [(0, .agg 2,one (.agg #[.bool false, .slice none 0 0]))]]) (fun n=>n≤l.length∧iy l n=iy l l.length) (fun n=>n) l.length ⟨Nat.le_refl _,rfl⟩ DV (SubM.refl _) (fun n ⟨hn,ht⟩ => ?_)
 have hd:=oP hL
 refine ae (ae ?_)
 refine gh (σ:=Unit) (fun _ => [(0,cr l),(1,one (.bool neg)),(4,one (.pointer (some ⟨b,0,none⟩))),(5,one (.int .i64 n)),(17,one (.bool (decide (0<n∧l.getD (n - 1) 0=0))))]) (fun _ => [aW b 43 2 [(0, .agg 2,one (.agg #[.bool false, .slice none 0 0]))]]) (fun _=>True) ?_ (fun _ _ => ?_)
 ·by_cases h0:0<n
  ·obtain ⟨n,rfl⟩ : ∃ m,n=m+1:=⟨n - 1,by omega⟩
   refine aj (DZ Z (DY (ej Z Z) (DZ Z ?_)))
   refine kY (t:=10) Z (fun b hb => ?_)
   rw [hb]
   have:b=true:=by rw [← hb]; simp
   subst this
   refine Eb (ab Z) (Eb (ab Z) ?_)
   (refine Eb (e9 Z Z (aR ?_ ?_)) ?_;omega;omega)
   (refine Eb (ei Z Z ?_ ?_) ?_;omega;omega)
   refine Eb (aJ Z) (Eb (cn Z Z) (DY (aV Z Z) (Ec ?_)))
   exact dh () trivial (.cons Z H (.cons Z H (.cons Z H (.cons Z H (.cons Z (ao (by simp)) .nil))))) (SubM.refl _)
  ·refine aj (DZ Z (DY (ej Z Z) (DZ Z ?_)))
   refine kY (t:=10) Z (fun b hb => ?_)
   rw [hb]
   have:b=false:=by rw [← hb]; simp;omega
   subst this
   refine sg0 Z Z Z Z (sg0 Z Z Z Z (sg0 Z Z Z Z (sg0 Z Z Z Z (sg0 Z Z Z Z (sg0 Z Z Z Z (DY (a6 Z Z) (Ec ?_)))))))
   exact dh () trivial (.cons Z H (.cons Z H (.cons Z H (.cons Z H (.cons Z (ao (by simp;omega)) .nil))))) (SubM.refl _)
 ·refine aa ?_
  refine a4 Z (fun hc => ?_) (fun hc => ?_) <;> simp only [decide_eq_true_eq,decide_eq_false_iff_not] at hc
  ·obtain ⟨n,rfl⟩ : ∃ m,n=m+1:=⟨n - 1,by omega⟩
   refine av (aa (ar (aj (DZ Z ?_))))
   (refine DY (e9 Z Z (aR ?_ ?_)) ?_;omega;omega)
   refine Ea Z (Ec (aB ?_))
   refine bK (s:=n+1) n ⟨by omega,by have h2:l.getD n 0=0:=hc.2;rw [← ht,iy,if_pos h2]⟩ Y DV (SubM.refl _)
  ·have hz:iy l n=n:=by
    cases n with
    | zero => rfl
    | succ n =>
     have h2 : ¬ l.getD n 0=0:=fun h=>hc ⟨by omega,h⟩
     rw [iy,if_neg h2]
   rw [ht] at hz
   rw [hz] at hd
   have hlen:(aL (lv l)).length=n:=by rw [← hd,List.length_take_of_le hn]
   have hnz:(0<n)↔lv l≠0:=by
    constructor
    ·intro h e;rw [e] at hlen;simp [ji] at hlen;omega
    ·intro h;rw [← hlen]; exact Nat.pos_of_ne_zero (fun e=>h (by rw [← bY (lv l),List.eq_nil_of_length_eq_zero e]; rfl))
   have hmag:VT.le (slT .one (0+((n:Int) - 0).toNat) fun q=>if q<0 then [].reverse.getD q bO else one (.int .u32 (l.getD (Int.toNat 0+(q - 0)) 0:Nat))) (cr (aL (lv l))) :=
    VT.le_trans (dg (m:=(l.take n).length) (ψ:=fun q=>one (.int .u32 ((l.take n).getD q 0:Nat))) (by rw [List.length_take_of_le hn]; omega) (fun q hq=>by
     simp only [Nat.not_lt_zero,if_false]
     rw [show Int.toNat 0+(q - 0)=q from by simp]
     simp [List.getElem?_take_of_lt (show q<n by omega)])) (ml hd)
   cases neg
   ·refine aY (aw (aw (aE (aa (ae (aj (DZ Z (DZ Z (sg0 Z Z Z Z ?_)))))))))
    refine sg0 Z Z Z Z (DY (a6 Z Z) (kZ (n:=0) Z Z Z Z Z ?_))
    refine PartsK.nil (fun b => ?_)
    refine DZ Z (DZ Z ?_)
    (refine DY (lY Z Z Z Z (fun _=>rfl) ?_ ?_ ?_ ?_) ?_;omega;omega;omega;omega)
    (refine de 0 Z Z Z (leN Z) ?_ ?_ Z (ltN Z) (fun sv cap => ?_);omega;omega)
    refine jy (t:=29) (j:=0) Z Z (stB Z Z Z (BuildK.cons Z Z Z (BuildK.cons Z Z Z (BuildK.nil (aC 0 Z Z Z Z Z (leN Z) Z (Ec (aa (aD ?_))))))))
    exact aK Tryz.results76 (.cellB 0 Z Z Z (VT.le_trans (vE hmag) (qm (by simp))))
   ·refine aY (aw (aw (aE (aa (ae (aj (DZ Z (DZ Z (Eb (ab Z) ?_)))))))))
    refine Eb (ej Z Z) (DY (aV Z Z) (kZ (n:=0) Z Z Z Z Z ?_))
    refine PartsK.nil (fun b => ?_)
    refine DZ Z (DZ Z ?_)
    (refine DY (lY Z Z Z Z (fun _=>rfl) ?_ ?_ ?_ ?_) ?_;omega;omega;omega;omega)
    (refine de 0 Z Z Z (leN Z) ?_ ?_ Z (ltN Z) (fun sv cap => ?_);omega;omega)
    refine jy (t:=29) (j:=0) Z Z (stB Z Z Z (BuildK.cons Z Z Z (BuildK.cons Z Z Z (BuildK.nil (aC 0 Z Z Z Z Z (leN Z) Z (Ec (aa (aD ?_))))))))
    exact aK Tryz.results76 (.cellB 0 Z Z Z (VT.le_trans (vE hmag) (qm (by rw [Bool.true_and]; exact decide_eq_decide.2 (by rw [← hnz]; omega)))))
end Tor
end
section
namespace Tor
open Go Go.RowKit Go.Proofs
attribute [local irreducible] J PJ aP one slT cv bA bM exT cq eP aW aU slV VT.le Ret bO
theorem mn (a b:Nat):Ok Tryz.prog 96 [cr (aL a),cr (aL b)] (one (.bool (decide (a<b)))):=by
 refine Ok.enter Tryz.func96 Z Tryz.ntmps96 Z (fun w O => ?_)
 refine iX (t:=0) Z (fun _ _=>fm) (fun hb => ?_)
 refine ae (aj (Ea Z (Ec (aa (ae (ae (aj (DZ Z (DY (aZ Z) ?_)))))))))
 refine DZ Z (DY (aZ Z) (DY (cE Z Z) (Ec (aa ?_))))
 refine a4 Z (fun hc => ?_) (fun hc => ?_) <;> simp only [decide_eq_true_eq,decide_eq_false_iff_not,ne_eq,Decidable.not_not] at hc
 ·refine ae (aj (DZ Z (DY (aZ Z) (DZ Z (DY (aZ Z) (DY (a7 Z Z) (Ea Z (Ec (aa ?_)))))))))
  refine aD (aI ?_)
  refine aK Tryz.results96 (.tmp Z (ao ?_))
  congr 1
  rw [decide_eq_decide]
  constructor
  ·intro h;exact i9 Y
  ·intro h;have:=bZ (Nat.le_of_lt h);omega
 ·have hlen:(aL a).length=(aL b).length:=by omega
  refine av (aa (ae (ae (aj (DZ Z (DY (aZ Z) ?_))))))
  (refine DY (e9 Z Z (aR ?_ ?_)) ?_;omega;omega)
  refine Ea Z (Ec (aa (ar ?_)))
  refine cC (σ:=Nat) (fun n => [(0,cr (aL a)),(1,cr (aL b)),(5,one (.int .i64 ((n:Int) - 1)))]) (fun _ => []) (fun n=>n≤(aL a).length∧(aL a).drop n=(aL b).drop n) (fun n=>n) (aL a).length
   ⟨Nat.le_refl _,by rw [List.drop_length,hlen,List.drop_length]⟩ DV (SubM.refl _) (fun n ⟨hn,hd⟩ => ?_)
  refine ae (ae (aj (DZ Z (DY (j9 Z Z) (Ec (aa ?_))))))
  refine a4 Z (fun hc2 => ?_) (fun hc2 => ?_) <;> simp only [decide_eq_true_eq,decide_eq_false_iff_not] at hc2
  ·obtain ⟨n,rfl⟩ : ∃ m,n=m+1:=⟨n - 1,by omega⟩
   have e:((n+1:Nat):Int) - 1=n:=by omega
   rw [e]
   refine av (aa (ae (ar (ae (aT 9 aS X S (DZ Z (DZ Z ?_)))))))
   (refine DY (ax Z Z ?_) ?_;omega)
   refine DY (aJ Z) (DZ Z (DZ Z ?_))
   (refine DY (ax Z Z ?_) ?_;omega)
   refine DY (aJ Z) (DY (cE Z Z) (Ec (Ec (aa ?_))))
   refine a4 Z (fun hc3 => ?_) (fun hc3 => ?_) <;> simp only [decide_eq_true_eq,decide_eq_false_iff_not,ne_eq,Decidable.not_not] at hc3
   ·refine ae (aT 10 aS X S (DZ Z (DZ Z ?_)))
    (refine DY (ax Z Z ?_) ?_;omega)
    refine DY (aJ Z) (DZ Z (DZ Z ?_))
    (refine DY (ax Z Z ?_) ?_;omega)
    refine DY (aJ Z) (DY (a7 Z Z) (Ea Z (Ec (Ec (aa (aD (a9 (aI (aI ?_)))))))))
    refine a9 (aI ?_)
    refine aK Tryz.results96 (.tmp Z (ao ?_))
    congr 1
    rw [decide_eq_decide]
    by_cases h1:(aL a).getD n 0<(aL b).getD n 0
    ·have:=rc (bf a) (bf b) hlen (i:=n) Y hd h1
     rw [bY,bY] at this
     exact ⟨fun _=>this,fun _=>by omega⟩
    ·have:=rc (bf b) (bf a) hlen.symm (i:=n) Y hd.symm Y
     rw [bY,bY] at this
     exact ⟨fun h=>by omega,fun h=>by omega⟩
   ·refine av (aB (aa (aj (DZ Z ?_))))
    (refine DY (e9 Z Z (aR ?_ ?_)) ?_;omega;omega)
    refine Ea Z (Ec ?_)
    refine bK (s:=n+1) n ⟨by omega,?_⟩ Y DV (SubM.refl _)
    have h3:(aL a).getD n 0=(aL b).getD n 0:=by omega
    have e1:=gm (l:=aL a) (k:=n) Y
    have e2:=gm (l:=aL b) (k:=n) Y
    rw [e1,e2,h3,hd]
  ·refine aY (aw (aw (aE (aa (ae (aj (Ea Z (Ec (aa ?_)))))))))
   refine aD ?_
   have h0:n=0:=by omega
   subst h0
   have h4:a=b:=sH (by simpa using hd)
   exact aK Tryz.results96 (.tmp Z (ao (by subst h4;simp)))
theorem sJ (neg:Bool) (v:Nat):Ok Tryz.prog 56 [sgT neg v] (one (.int .i64 (dQ (sv neg v)))):=by
 refine Ok.enter Tryz.func56 Z Tryz.ntmps56 Z (fun w O => ?_)
 refine ae (aj ?_)
 refine aM Z Z (ltN Z) (fun b => ?_)
 refine Ea Z (Ec (aa (ae (ae (aj (DY (ah Z) (DY (ak 0 Z Z Z) (DY (aZ Z) (DY (cn Z Z) ?_)))))))))
 refine Ec (aa ?_)
 refine a4 Z (fun hc => ?_) (fun hc => ?_) <;> simp at hc
 ·have hv:v=0:=by rw [← bY v,hc]; rfl
  refine ae (aj (Ea Z (Ec (aa (aD (aI ?_))))))
  exact aK Tryz.results56 (.tmp Z (ao (by subst hv;simp [dQ,sv])))
 ·have hv:v≠0:=by intro e;subst e;exact hc Z
  refine av (aa (ae (ae (aj (DY (ah Z) (DY (ak 0 Z Z Z) (Ec (aa ?_))))))))
  refine a4 Z (fun hc2 => ?_) (fun hc2 => ?_)
  ·subst hc2
   refine ae (aj (Ea Z (Ec (aa (aD (aI ?_))))))
   exact aK Tryz.results56 (.tmp Z (ao (by congr 1;unfold dQ sv;simp only [if_true]; rw [if_neg Y,if_pos Y])))
  ·subst hc2
   refine av (aa (ae (aj (Ea Z (Ec (aa (aD ?_)))))))
   exact aK Tryz.results56 (.tmp Z (ao (by congr 1;unfold dQ sv;simp only [Bool.false_eq_true,if_false]; rw [if_neg Y,if_neg Y])))
theorem oS (x y:Int):Ok Tryz.prog 60 [aO x,aO y] (one (.bool (decide (x=y)))):=by
 refine Ok.enter Tryz.func60 Z Tryz.ntmps60 Z (fun w O => ?_)
 refine ae (aj ?_)
 refine aM Z Z (ltN Z) (fun b => ?_)
 refine aM Z Z (ltN Z) (fun b => ?_)
 refine Ea Z (Ec (aa (ae (aj (DY (ah Z) (DY (ak 1 Z Z Z) (DY (ah Z) (DY (ak 0 Z Z Z) (DY (fv Z Z) ?_)))))))))
 refine DZ Z ?_
 refine kY (t:=10) Z (fun b hb => ?_)
 rw [hb]
 cases b
 ·refine sg0 Z Z Z Z (sg0 Z Z Z Z (sg0 Z Z Z Z (sg0 Z Z Z Z (sg0 Z Z Z Z (sg0 Z Z Z Z (DY (a6 Z Z) (DZ Z (sg0 Z Z Z Z (sg0 Z Z Z Z ?_)))))))))
  refine sg0 Z Z Z Z (sg0 Z Z Z Z (sg0 Z Z Z Z (sg0 Z Z Z Z (DY (a6 Z Z) (Ea Z (Ec (aa (aD ?_))))))))
  refine aK Tryz.results60 (.tmp Z (ao ?_))
  congr 1
  have : ¬ (x=y):=by intro e;subst e;simp at hb
  simp [this]
 ·have hs:(x<0)↔(y<0):=by simpa using hb
  refine Eb (ah Z) (Eb (ak 1 Z Z Z) (Eb (ah Z) (Eb (ak 0 Z Z Z) ?_)))
  refine Eb (am (mn _ _) Z ⟨H,H,Ed⟩) ?_
  refine Eb (bF Z) (DY (aV Z Z) (DZ Z ?_))
  refine kY (t:=18) Z (fun b hb2 => ?_)
  rw [hb2]
  cases b
  ·refine sg0 Z Z Z Z (sg0 Z Z Z Z (sg0 Z Z Z Z (sg0 Z Z Z Z (sg0 Z Z Z Z (sg0 Z Z Z Z (DY (a6 Z Z) (Ea Z (Ec (aa ?_)))))))))
   refine aD ?_
   refine aK Tryz.results60 (.tmp Z (ao ?_))
   congr 1
   simp at hb2
   have : ¬ (x=y):=by intro e;subst e;omega
   simp [this]
  ·simp at hb2
   refine Eb (ah Z) (Eb (ak 0 Z Z Z) (Eb (ah Z) (Eb (ak 1 Z Z Z) ?_)))
   refine Eb (am (mn _ _) Z ⟨H,H,Ed⟩) ?_
   refine Eb (bF Z) (DY (aV Z Z) (Ea Z (Ec (aa (aD ?_)))))
   refine aK Tryz.results60 (.tmp Z (ao ?_))
   congr 1
   rw [← decide_not,decide_eq_decide]
   omega
end Tor
end
section
namespace Tor
open Go Go.RowKit Go.Proofs
theorem iz (l:List Nat) (k:Nat):lv (l.take (k+1))=lv (l.take k)+4294967296^k*l.getD k 0:=by
 by_cases hk:k<l.length
 ·exact bL hk
 ·rw [List.take_of_length_le Y,List.take_of_length_le Y]; simp [List.getElem?_eq_none (Nat.le_of_not_lt hk)]
structure RPlus (lx ly zl:List Nat) (c:Nat):Prop where
 lim:bI zl
 c1:c≤1
 val:lv zl+4294967296^zl.length*c=lv (lx.take zl.length)+lv (ly.take zl.length)
 len:zl.length≤max lx.length ly.length+1
 big:max lx.length ly.length<zl.length→c=0
theorem RPlus.step {lx ly zl:List Nat} {c:Nat} (h:RPlus lx ly zl c) (hx:bI lx) (hy:bI ly) (hgo:zl.length<lx.length∨zl.length<ly.length∨0<c) :
  RPlus lx ly (zl ++ [(c+lx.getD zl.length 0+ly.getD zl.length 0) % 4294967296]) ((c+lx.getD zl.length 0+ly.getD zl.length 0) / 4294967296):=by
 have h1:=bh hx zl.length
 have h2:=bh hy zl.length
 have h3:=h.c1
 refine ⟨fun d hd => ?_,by omega,?_,?_,?_⟩
 ·rcases List.mem_append.1 hd with hd | hd
  ·exact h.lim d hd
  ·simp at hd;omega
 ·simp only [List.length_append,List.length_cons,List.length_nil,Nat.zero_add]
  rw [gl,iz,iz,Nat.pow_succ]
  have hv:=h.val
  generalize lx.getD zl.length 0=x at *
  generalize ly.getD zl.length 0=y at *
  generalize 4294967296^zl.length=B at *
  have e:(c+x+y)=4294967296*((c+x+y) / 4294967296)+(c+x+y) % 4294967296:=by omega
  generalize (c+x+y) / 4294967296=q at *
  generalize (c+x+y) % 4294967296=r at *
  simp only [lv,Nat.mul_zero,Nat.add_zero]
  have e2:B*(c+x+y)=B*(4294967296*q+r):=by rw [e]
  simp only [Nat.mul_add,Nat.mul_assoc] at e2 ⊢
  omega
 ·simp only [List.length_append,List.length_cons,List.length_nil,Nat.zero_add]
  have:=h.big;omega
 ·simp only [List.length_append,List.length_cons,List.length_nil,Nat.zero_add]
  intro hb
  have e1:lx.getD zl.length 0=0:=by simp [List.getElem?_eq_none (show lx.length≤zl.length by omega)]
  have e2:ly.getD zl.length 0=0:=by simp [List.getElem?_eq_none (show ly.length≤zl.length by omega)]
  rw [e1,e2]; omega
theorem sK (zl:List Nat) (v:Nat) : ∀ q,q<zl.length+1→(if q<zl.length then one (.int .u32 (zl.getD q 0:Nat)) else one (.int .u32 (v:Nat)))=one (.int .u32 ((zl ++ [v]).getD q 0:Nat)):=by
 intro q hq
 rw [kL]
 by_cases h:q<zl.length
 ·rw [if_pos h,if_neg Y]
 ·have:q=zl.length:=by omega
  subst this
  rw [if_neg h,if_pos Z]
theorem gC {sv:Option Nat} {T:TypeId} {L:Lay} {cap n m:Nat} {φ ψ:Nat→VT} (h:n=m) (DS : ∀ q,q<n→φ q=ψ q):Own.le (aU sv T L cap n φ) (aU sv T L cap m ψ):=by
 subst h;exact bQ DS
theorem jD {sv:Option Nat} {n m cap:Nat} (h:n=m):VT.le (one (slV sv n cap)) (one (slV sv m cap)):=h▸VT.le_refl _
attribute [local irreducible] J PJ aP one slT cv bA bM exT cq eP aW aU slV VT.le Ret bO
theorem x7 (a b:Nat) (ha:(aL a).length≤1099511627776) (hb:(aL b).length≤1099511627776):Ok Tryz.prog 95 [cr (aL a),cr (aL b)] (pQ (a+b)):=by
 refine Ok.enter Tryz.func95 Z Tryz.ntmps95 Z (fun w O => ?_)
 have hx:=bf a
 have hy:=bf b
 have hva:=bY a
 have hvb:=bY b
 generalize aL a=lx at *
 generalize aL b=ly at *
 refine ae (aj (Ea Z (Ec (aa (ae (aj (kZ (n:=0) Z Z Z Z Z ?_)))))))
 refine PartsK.nil (fun b => ?_)
 refine Ea Z (Ea Z (Ec (aa (ae (ae (aj (Ea Z (Ec (aa ?_)))))))))
 refine ar ?_
 refine cC (σ:=List Nat × Nat × Option Nat × Nat) (fun s => [(0,cr lx),(1,cr ly),(5,one (slV s.2.2.1 s.1.length s.2.2.2)),(6,one (.int .u64 (s.2.1:Nat))),(7,one (.int .i64 s.1.length))])
   (fun s => [aU s.2.2.1 116 .one s.2.2.2 s.1.length (fun q=>one (.int .u32 (s.1.getD q 0:Nat)))]) (fun s=>RPlus lx ly s.1 s.2.1) (fun s=>2*(max lx.length ly.length - s.1.length)+s.2.1) ([],0,some b,0)
   ⟨(fun d hd=>by cases hd),Nat.zero_le _,by simp [lv],by simp,by simp⟩ DV (.keep (bQ (fun q hq=>by omega)) .nil) (fun s hR => ?_)
 obtain ⟨zl,c,sv0,cap0⟩:=s
 simp only at hR ⊢
 have h3:=hR.c1
 have hlen:=hR.len
 refine ae (ae ?_)
 refine gh (σ:=Unit) (fun _ => [(0,cr lx),(1,cr ly),(5,one (slV sv0 zl.length cap0)),(6,one (.int .u64 (c:Nat))),(7,one (.int .i64 zl.length)),(22,one (.bool (decide (zl.length<lx.length∨zl.length<ly.length∨0<c))))])
  (fun _ => [aU sv0 116 .one cap0 zl.length (fun q=>one (.int .u32 (zl.getD q 0:Nat)))]) (fun _=>True) ?_ (fun _ _ => ?_)
 ·refine aj (DZ Z (DZ Z (DY (aZ Z) (DY (a7 Z Z) (DZ Z ?_)))))
  refine kY (t:=13) Z (fun b h1 => ?_)
  rw [h1]
  cases b
  ·simp at h1
   refine Eb (ab Z) (Eb (ab Z) (Eb (aZ Z) (Eb (a7 Z Z) (DY (a6 Z Z) (DZ Z ?_)))))
   refine kY (t:=19) Z (fun b h2 => ?_)
   rw [h2]
   cases b
   ·simp at h2
    refine Eb (ab Z) (Eb (ej Z Z) (DY (a6 Z Z) (Ec ?_)))
    exact dh () trivial (.cons Z H (.cons Z H (.cons Z H (.cons Z H (.cons Z H (.cons Z (ao (by congr 1;rw [decide_eq_decide]; omega)) .nil)))))) (SubM.refl _)
   ·simp at h2
    refine sg0 Z Z Z Z (sg0 Z Z Z Z (DY (aV Z Z) (Ec ?_)))
    exact dh () trivial (.cons Z H (.cons Z H (.cons Z H (.cons Z H (.cons Z H (.cons Z (ao (by simp;omega)) .nil)))))) (SubM.refl _)
  ·simp at h1
   refine sg0 Z Z Z Z (sg0 Z Z Z Z (sg0 Z Z Z Z (sg0 Z Z Z Z (DY (aV Z Z) (DZ Z (sg0 Z Z Z Z (sg0 Z Z Z Z (DY (aV Z Z) (Ec ?_)))))))))
   exact dh () trivial (.cons Z H (.cons Z H (.cons Z H (.cons Z H (.cons Z H (.cons Z (ao (by simp;omega)) .nil)))))) (SubM.refl _)
 ·refine aa ?_
  refine a4 Z (fun hc => ?_) (fun hc => ?_) <;> simp only [decide_eq_true_eq,decide_eq_false_iff_not] at hc
  ·have hstep:=hR.step hx hy hc
   have g1:=bh hx zl.length
   have g2:=bh hy zl.length
   refine av (aa (ae (ar (ae (ae (aj (DZ Z (DZ Z (DY (aZ Z) ?_)))))))))
   refine DY (a7 Z Z) (Ec (aa ?_))
   refine gh (σ:=Unit) (fun _ => [(0,cr lx),(1,cr ly),(5,one (slV sv0 zl.length cap0)),(6,one (.int .u64 (c+lx.getD zl.length 0:Nat))),(7,one (.int .i64 zl.length))])
    (fun _ => [aU sv0 116 .one cap0 zl.length (fun q=>one (.int .u32 (zl.getD q 0:Nat)))]) (fun _=>True) ?_ (fun _ _ => ?_)
   ·refine a4 Z (fun hc2 => ?_) (fun hc2 => ?_) <;> simp only [decide_eq_true_eq,decide_eq_false_iff_not] at hc2
    ·refine aj (DZ Z (DZ Z (DZ Z ?_)))
     (refine DY (ax Z Z ?_) ?_;omega)
     refine DY (aJ Z) ?_
     (refine DY (bS Z ?_) ?_;omega)
     (refine DY (eD Z Z ?_) ?_;omega)
     refine Ea Z (Ec ?_)
     exact dh () trivial DV (SubM.refl _)
    ·have e0:lx.getD zl.length 0=0:=by simp [List.getElem?_eq_none (show lx.length≤zl.length by omega)]
     refine av ?_
     exact dh () trivial DV (SubM.refl _)
   ·refine aa (ae (ae (aj (DZ Z (DZ Z (DY (aZ Z) (DY (a7 Z Z) (Ec (aa ?_)))))))))
    refine gh (σ:=Unit) (fun _ => [(0,cr lx),(1,cr ly),(5,one (slV sv0 zl.length cap0)),(6,one (.int .u64 (c+lx.getD zl.length 0+ly.getD zl.length 0:Nat))),(7,one (.int .i64 zl.length))])
     (fun _ => [aU sv0 116 .one cap0 zl.length (fun q=>one (.int .u32 (zl.getD q 0:Nat)))]) (fun _=>True) ?_ (fun _ _ => ?_)
    ·refine a4 Z (fun hc2 => ?_) (fun hc2 => ?_) <;> simp only [decide_eq_true_eq,decide_eq_false_iff_not] at hc2
     ·refine aj (DZ Z (DZ Z (DZ Z ?_)))
      (refine DY (ax Z Z ?_) ?_;omega)
      refine DY (aJ Z) ?_
      (refine DY (bS Z ?_) ?_;omega)
      (refine DY (eD Z Z ?_) ?_;omega)
      refine Ea Z (Ec ?_)
      exact dh () trivial DV (SubM.refl _)
     ·have e0:ly.getD zl.length 0=0:=by simp [List.getElem?_eq_none (show ly.length≤zl.length by omega)]
      refine av ?_
      exact dh () trivial DV (SubM.refl _)
    ·refine aa (ae (aj (DZ Z (DZ Z (DY (cP Z) (jf Z Z Z Z ?_))))))
     (refine de 0 Z Z Z (leN Z) ?_ ?_ Z (ltN Z) (fun sv cap => ?_);omega;omega)
     refine Ea Z (Ec (aa (aj (DZ Z ?_))))
     (refine DY (vg Z ?_) ?_;omega)
     refine Ea Z (Ec (aB (aa (aj (DZ Z ?_)))))
     (refine DY (ck Z Z (aR ?_ ?_)) ?_;omega;omega)
     refine Ea Z (Ec ?_)
     refine bK (s:=(zl,c,sv0,cap0)) (zl ++ [(c+lx.getD zl.length 0+ly.getD zl.length 0) % 4294967296],(c+lx.getD zl.length 0+ly.getD zl.length 0) / 4294967296,sv,cap) hstep ?_ (.cons Z H (.cons Z H (.cons Z (jD (by simp)) (.cons Z H (.cons Z (ao (by simp)) .nil))))) (.keep (gC (by simp) (fun q hq=>sK zl _ q (by simpa using hq))) .nil)
     have h8:=hstep.c1
     have h9:=hstep.big
     have h10:=hR.big
     simp only [List.length_append,List.length_cons,List.length_nil,Nat.zero_add] at *
     omega
  ·refine aY (aw (aw (aE (aa (ae (aj (DZ Z (Ea Z (Ec ?_)))))))))
   refine aa (aD (cR (t:=4) (i:=0) Z Z ?_))
   refine aK Tryz.results95 (.tmp Z (iT (l:=zl) hR.lim ?_ Y))
   have h4:=hR.val
   have h5:c=0:=by omega
   rw [h5,List.take_of_length_le Y,List.take_of_length_le Y,hva,hvb] at h4
   omega
end Tor
end
section
namespace Tor
open Go Go.RowKit Go.Proofs
theorem RMinus.step {lx ly zl:List Nat} {c:Nat} (h:MinusR lx ly zl c) (hx:bI lx) (hy:bI ly) (hl:ly.length≤lx.length) (hlt:zl.length<lx.length) :
  MinusR lx ly (zl ++ [(lx.getD zl.length 0+4294967296 - c - ly.getD zl.length 0) % 4294967296]) (if lx.getD zl.length 0<c+ly.getD zl.length 0 then 1 else 0):=by
 have h1:=bh hx zl.length
 have h2:=bh hy zl.length
 have h3:=h.c1
 have:=h.step hx hy hl hlt Z
 generalize lx.getD zl.length 0=x at *
 generalize ly.getD zl.length 0=y at *
 have e1:((x+18446744073709551616 - c) % 18446744073709551616+18446744073709551616 - y) % 18446744073709551616 % 4294967296=(x+4294967296 - c - y) % 4294967296:=by omega
 have e2:((x+18446744073709551616 - c) % 18446744073709551616+18446744073709551616 - y) % 18446744073709551616 / 9223372036854775808=if x<c+y then 1 else 0:=by split <;> omega
 rw [e1,e2] at this
 exact this
theorem wQ (zl:List Nat) (v:Nat) : ∀ q,q<zl.length+1→v<4294967296→(if q<zl.length then one (.int .u32 (zl.getD q 0:Nat)) else one (.int .u32 (v % 4294967296:Nat)))=one (.int .u32 ((zl ++ [v]).getD q 0:Nat)):=by
 intro q hq hv
 rw [Nat.mod_eq_of_lt hv]
 exact sK zl v q hq
attribute [local irreducible] J PJ aP one slT cv bA bM exT cq eP aW aU slV VT.le Ret bO
theorem qo (a b:Nat) (hab:b≤a) (ha:(aL a).length≤1099511627776):Ok Tryz.prog 97 [cr (aL a),cr (aL b)] (pQ (a - b)):=by
 refine Ok.enter Tryz.func97 Z Tryz.ntmps97 Z (fun w O => ?_)
 have hx:=bf a
 have hy:=bf b
 have hl:=bZ hab
 have hva:=bY a
 have hvb:=bY b
 generalize aL a=lx at *
 generalize aL b=ly at *
 refine ae (aj (Ea Z (Ec (aa (ae (aj (kZ (n:=0) Z Z Z Z Z ?_)))))))
 refine PartsK.nil (fun b => ?_)
 refine Ea Z (Ea Z (Ec (aa (ae (ae (aj (Ea Z (Ec (aa ?_)))))))))
 refine ar ?_
 refine cC (σ:=List Nat × Nat × Option Nat × Nat) (fun s => [(0,cr lx),(1,cr ly),(5,one (slV s.2.2.1 s.1.length s.2.2.2)),(6,one (.int .i64 (s.2.1:Nat))),(7,one (.int .i64 s.1.length))])
   (fun s => [aU s.2.2.1 116 .one s.2.2.2 s.1.length (fun q=>one (.int .u32 (s.1.getD q 0:Nat)))]) (fun s=>MinusR lx ly s.1 s.2.1) (fun s=>lx.length - s.1.length) ([],0,some b,0)
   ⟨by simp,(fun d hd=>by cases hd),Nat.zero_le _,by simp [lv]⟩ DV (.keep (bQ (fun q hq=>by omega)) .nil) (fun s hR => ?_)
 obtain ⟨zl,c,sv0,cap0⟩:=s
 simp only at hR ⊢
 have h3:=hR.c1
 have hlen:=hR.len
 refine ae (ae (aj (DZ Z (DZ Z (DY (aZ Z) (DY (a7 Z Z) (Ec (aa ?_))))))))
 refine a4 Z (fun hc => ?_) (fun hc => ?_) <;> simp at hc
 ·have hstep:=RMinus.step hR hx hy hl hc
  have g1:=bh hx zl.length
  have g2:=bh hy zl.length
  refine av (aa (ae (ar (ae (aj (DZ Z (DZ Z ?_)))))))
  (refine DY (ax Z Z ?_) ?_;omega)
  refine DY (aJ Z) ?_
  (refine DY (eZ Z ?_ ?_) ?_;omega;omega)
  refine DZ Z ?_
  (refine DY (e9 Z Z (aR ?_ ?_)) ?_;omega;omega)
  refine Ea Z (Ec (aa (ae (ae (aj (DZ Z (DZ Z (DY (aZ Z) (DY (a7 Z Z) ?_)))))))))
  refine Ec (aa ?_)
  refine gh (σ:=Unit) (fun _ => [(0,cr lx),(1,cr ly),(5,one (slV sv0 zl.length cap0)),(8,one (.int .i64 ((lx.getD zl.length 0:Nat) - (c:Nat) - (ly.getD zl.length 0:Nat)))),(7,one (.int .i64 zl.length))])
   (fun _ => [aU sv0 116 .one cap0 zl.length (fun q=>one (.int .u32 (zl.getD q 0:Nat)))]) (fun _=>True) ?_ (fun _ _ => ?_)
  ·refine a4 Z (fun hc => ?_) (fun hc => ?_) <;> simp at hc
   ·refine aj (DZ Z (DZ Z (DZ Z ?_)))
    (refine DY (ax Z Z ?_) ?_;omega)
    refine DY (aJ Z) ?_
    (refine DY (eZ Z ?_ ?_) ?_;omega;omega)
    (refine DY (e9 Z Z (aR ?_ ?_)) ?_;omega;omega)
    refine Ea Z (Ec ?_)
    exact dh () trivial DV (SubM.refl _)
   ·have e0:ly.getD zl.length 0=0:=by simp [List.getElem?_eq_none (show ly.length≤zl.length by omega)]
    refine av ?_
    exact dh () trivial DV (SubM.refl _)
  ·generalize lx.getD zl.length 0=x at *
   generalize ly.getD zl.length 0=y at *
   refine aa (ae (aj (Ea Z (Ec (aa (ae (ae (aj (DZ Z ?_)))))))))
   refine DY (a7 Z Z) (Ec (aa ?_))
   refine gh (σ:=Unit) (fun _ => [(0,cr lx),(1,cr ly),(5,one (slV sv0 zl.length cap0)),(6,one (.int .i64 ((if x<c+y then 1 else 0:Nat)))),(8,one (.int .i64 ((x+4294967296 - c - y) % 4294967296:Nat))),(7,one (.int .i64 zl.length))])
    (fun _ => [aU sv0 116 .one cap0 zl.length (fun q=>one (.int .u32 (zl.getD q 0:Nat)))]) (fun _=>True) ?_ (fun _ _ => ?_)
   ·refine a4 Z (fun hc => ?_) (fun hc => ?_) <;> simp at hc
    ·refine ae (aj (DZ Z ?_))
     (refine DY (ck Z Z (aR ?_ ?_)) ?_;omega;omega)
     refine Ea Z (Ec (aa (aj (Ea Z (Ec ?_)))))
     rw [if_pos Y]
     exact dh () trivial (.cons Z H (.cons Z H (.cons Z H (.cons Z H (.cons Z (ao (by congr 1;omega)) (.cons Z H .nil)))))) (SubM.refl _)
    ·refine av ?_
     rw [if_neg Y]
     exact dh () trivial (.cons Z H (.cons Z H (.cons Z H (.cons Z H (.cons Z (ao (by congr 1;omega)) (.cons Z H .nil)))))) (SubM.refl _)
   ·generalize (x+4294967296 - c - y) % 4294967296=d at *
    generalize (if x<c+y then 1 else 0)=c2 at *
    refine aa (aj (DZ Z (DZ Z (DY (cP Z) (jf Z Z Z Z ?_)))))
    (refine de 0 Z Z Z (leN Z) ?_ ?_ Z (ltN Z) (fun sv cap => ?_);omega;omega)
    refine Ea Z (Ec (aB (aa (aj (DZ Z ?_)))))
    (refine DY (ck Z Z (aR ?_ ?_)) ?_;omega;omega)
    refine Ea Z (Ec ?_)
    refine bK (s:=(zl,c,sv0,cap0)) (zl ++ [d],c2,sv,cap) hstep ?_ (.cons Z H (.cons Z H (.cons Z (jD (by simp)) (.cons Z H (.cons Z (ao (by simp)) .nil))))) (.keep (gC (by simp) (fun q hq=>wQ zl _ q (by simpa using hq) (hstep.lim d (by simp)))) .nil)
    simp only [List.length_append,List.length_cons,List.length_nil,Nat.zero_add] at *
    omega
 ·have hlen:zl.length=lx.length:=by have:=hR.len;omega
  refine aY (aw (aw (aE (aa (ae (aj (DZ Z (Ea Z (Ec ?_)))))))))
  refine aa (aD (cR (t:=4) (i:=0) Z Z ?_))
  refine aK Tryz.results97 (.tmp Z (iT (l:=zl) hR.lim ?_ Y))
  have h4:=hR.val
  rw [hlen,List.take_length,List.take_of_length_le Y,hva,hvb] at h4
  have h5:=ix hR.lim
  rw [hlen] at h5
  have h6:=ix hx
  rcases Nat.le_one_iff_eq_zero_or_eq_one.1 hR.c1 with h7 | h7 <;> simp only [h7,Nat.mul_zero,Nat.mul_one,Nat.add_zero] at h4 <;> omega
end Tor
end
section
namespace Tor
open Go Go.RowKit Go.Proofs
theorem sM (u:Nat) (h:u<18446744073709551616):VT.le (slT .one 2 (fun q => [one (.int .u32 ((u / 4294967296 % 4294967296:Nat):Int)),one (.int .u32 ((u % 4294967296:Nat):Int))].reverse.getD q bO)) (pQ u):=by
 refine VT.le_trans (dg (m:=2) (ψ:=fun i=>one (.int .u32 ([u % 4294967296,u / 4294967296 % 4294967296].getD i 0:Nat))) Z (fun q hq => ?_)) (iT (l := [u % 4294967296,u / 4294967296 % 4294967296]) (fun d hd => ?_) ?_ (by simp))
 ·match q,hq with
  | 0, _ => rfl
  | 1, _ => rfl
 ·simp at hd;omega
 ·simp only [lv]; omega
attribute [local irreducible] J PJ aP one slT cv bA bM exT cq eP aW aU slV VT.le Ret bO
theorem fZ (n:Int) (h1 : -9223372036854775808≤n) (h2:n≤9223372036854775807):Ok Tryz.prog 38 [one (.int .i64 n)] (aO n):=by
 refine Ok.enter Tryz.func38 Z Tryz.ntmps38 Z (fun w O => ?_)
 by_cases hn:n<0
 ·refine ae (aj ?_)
  refine aX (T:=43) Z (ltN Z) (fun b => ?_)
  refine Ec (aa (ae (aj (DZ Z (DY (kb (r:=((18446744073709551616 - n.natAbs:Nat):Int)) Z (by rw [ek]; omega)) (Ea Z (Ec (aa (ae ?_)))))))))
  refine ae (aj (DZ Z (DY (a7 Z Z) (Ec (aa ?_)))))
  refine a4 Z (fun hc => ?_) (fun hc => ?_) <;> simp at hc
  ·refine aj (DZ Z (DY (Bp (r:=(n.natAbs:Int)) Z (by rw [ek]; omega)) (Ea Z (Ec (aa (ae (aj (DZ Z (DY (cP Z) ?_)))))))))
   refine DZ Z (DY (gX Z) (DY (cP Z) (stS Z Z Z Z (PartsK.cons Z (PartsK.cons Z (PartsK.nil (DZ Z (DY (a7 Z Z) ?_))))))))
   refine DY (am (dJ (decide (n<0)) n.natAbs) Z ⟨sM _ Y,H,Ed⟩) ?_
   refine aC 0 Z Z Z Z Z (leN Z) Z (Ec (aa (aD ?_)))
   exact aK Tryz.results38 (.cellB 0 Z Z Z (cj (by rw [decide_eq_true hn,if_pos Z]; omega)))
  ·omega
 ·refine ae (aj ?_)
  refine aX (T:=43) Z (ltN Z) (fun b => ?_)
  refine Ec (aa (ae (aj (DZ Z (DY (kb (r:=(n.natAbs:Int)) Z (by rw [ek]; omega)) (Ea Z (Ec (aa (ae ?_)))))))))
  refine ae (aj (DZ Z (DY (a7 Z Z) (Ec (aa ?_)))))
  refine a4 Z (fun hc => ?_) (fun hc => ?_) <;> simp at hc
  ·omega
  ·refine av (aa (ae (aj (DZ Z (DY (cP Z) (DZ Z (DY (gX Z) (DY (cP Z) (stS Z Z Z Z ?_)))))))))
   refine PartsK.cons Z (PartsK.cons Z (PartsK.nil (DZ Z (DY (a7 Z Z) ?_))))
   refine DY (am (dJ (decide (n<0)) n.natAbs) Z ⟨sM _ Y,H,Ed⟩) ?_
   refine aC 0 Z Z Z Z Z (leN Z) Z (Ec (aa (aD ?_)))
   exact aK Tryz.results38 (.cellB 0 Z Z Z (cj (by rw [decide_eq_false hn]; simp;omega)))
theorem Ad (n1 n2:Bool) (v1 v2:Nat) (h1:(aL v1).length≤1099511627776) (h2:(aL v2).length≤1099511627776):Ok Tryz.prog 59 [sgT n1 v1,sgT n2 v2] (aO (sv n1 v1+sv n2 v2)):=by
 refine Ok.enter Tryz.func59 Z Tryz.ntmps59 Z (fun w O => ?_)
 refine ae (aj ?_)
 refine aM Z Z (ltN Z) (fun b => ?_)
 refine aM Z Z (ltN Z) (fun b => ?_)
 refine aX (T:=43) Z (ltN Z) (fun b => ?_)
 refine Ec (aa (ae (ae (aj (DY (ah Z) (DY (ak 2 Z Z Z) (DY (ah Z) (DY (ak 1 Z Z Z) (DY (fv Z Z) ?_)))))))))
 refine Ec (aa ?_)
 refine a4 Z (fun hc => ?_) (fun hc => ?_) <;> simp at hc
 ·subst hc
  refine ae (aT 8 aS X S (DY (ah Z) (DY (ak 2 Z Z Z) (DY (ah Z) (DY (ak 1 Z Z Z) ?_)))))
  refine DY (am (x7 _ _ h1 h2) Z ⟨H,H,Ed⟩) ?_
  refine DY (ah Z) (DY (ak 2 Z Z Z) ?_)
  refine DY (am (dJ _ _) Z ⟨H,H,Ed⟩) ?_
  refine Ec (aC 0 Z Z Z Z Z (leN Z) Z (Ec (aa (aD (aI ?_)))))
  exact aK Tryz.results59 (.cellB 0 Z Z Z (cj (by unfold sv;split <;> omega)))
 ·refine av (aa (ae (ae (aj (DY (ah Z) (DY (ak 2 Z Z Z) (DY (ah Z) (DY (ak 1 Z Z Z) ?_))))))))
  refine DY (am (mn _ _) Z ⟨H,H,Ed⟩) ?_
  refine Ec (aa ?_)
  refine a4 Z (fun hc2 => ?_) (fun hc2 => ?_) <;> simp at hc2
  ·refine ae (aT 8 aS X S (DY (ah Z) (DY (ak 1 Z Z Z) (DY (ah Z) (DY (ak 2 Z Z Z) ?_)))))
   refine DY (am (qo _ _ Y h2) Z ⟨H,H,Ed⟩) ?_
   refine DY (ah Z) (DY (ak 1 Z Z Z) ?_)
   refine DY (am (dJ _ _) Z ⟨H,H,Ed⟩) ?_
   refine Ec (aC 0 Z Z Z Z Z (leN Z) Z (Ec (aa (aD (aI ?_)))))
   exact aK Tryz.results59 (.cellB 0 Z Z Z (cj (by unfold sv;cases n1 <;> cases n2 <;> simp at hc ⊢ <;> omega)))
  ·refine av (aa (ae (aT 8 aS X S (DY (ah Z) (DY (ak 2 Z Z Z) (DY (ah Z) (DY (ak 1 Z Z Z) ?_)))))))
   refine DY (am (qo _ _ Y h1) Z ⟨H,H,Ed⟩) ?_
   refine DY (ah Z) (DY (ak 2 Z Z Z) ?_)
   refine DY (am (dJ _ _) Z ⟨H,H,Ed⟩) ?_
   refine Ec (aC 0 Z Z Z Z Z (leN Z) Z (Ec (aa (aD ?_))))
   exact aK Tryz.results59 (.cellB 0 Z Z Z (cj (by unfold sv;cases n1 <;> cases n2 <;> simp at hc ⊢ <;> omega)))
end Tor
end
section
namespace Tor
open Go Go.RowKit Go.Proofs
structure RTimesR (lx ly zz:List Nat) (i:Nat):Prop where
 le:i≤lx.length
 len:zz.length=lx.length+ly.length+1
 lim:bI zz
 zero : ∀ k,i+ly.length≤k→zz.getD k 0=0
 val:lv zz=lv (lx.take i)*lv ly
structure RTimesI (lx ly z0 zz:List Nat) (i j c:Nat):Prop where
 le:j≤ly.length+1
 top:ly.length<j→c=0
 len:zz.length=lx.length+ly.length+1
 lim:bI zz
 zero : ∀ k,i+ly.length<k→zz.getD k 0=0
 zer1:j≤ly.length→zz.getD (i+ly.length) 0=0
 c1:c<4294967296
 val:lv zz+4294967296^(i+j)*c=lv z0+4294967296^i*(lx.getD i 0*lv (ly.take j))
theorem RTimesI.step {lx ly z0 zz:List Nat} {i j c:Nat} (h:RTimesI lx ly z0 zz i j c) (hx:bI lx) (hy:bI ly) (hi:i<lx.length) (hgo:j<ly.length∨0<c) :
  RTimesI lx ly z0 (zz.set (i+j) ((c+zz.getD (i+j) 0+lx.getD i 0*ly.getD j 0) % 4294967296)) i (j+1) ((c+zz.getD (i+j) 0+lx.getD i 0*ly.getD j 0) / 4294967296):=by
 have hj:j≤ly.length:=by have:=h.le;have:=h.top;omega
 have hlim:=n7 (bh hx i) (bh hy j) (bh h.lim (i+j)) h.c1
 have hlt:i+j<zz.length:=by rw [h.len]; omega
 refine ⟨by omega,fun ht => ?_,by rw [List.length_set]; exact h.len,h.lim.set Y,fun k hk => ?_,fun hk => ?_,by omega,?_⟩
 ·have e:j=ly.length:=by omega
  subst e
  rw [h.zer1 (Nat.le_refl _)]
  have e2:ly.getD ly.length 0=0:=by simp
  rw [e2,Nat.mul_zero]
  have:=h.c1;omega
 ·rw [ev hlt,if_neg Y]; exact h.zero k hk
 ·rw [ev hlt,if_neg Y]; exact h.zer1 Y
 ·have hs:=gM (l:=zz) (k:=i+j) (v:=(c+zz.getD (i+j) 0+lx.getD i 0*ly.getD j 0) % 4294967296) hlt
  have hv:=h.val
  rw [iz]
  generalize lx.getD i 0=x at *
  generalize ly.getD j 0=y at *
  generalize zz.getD (i+j) 0=z at *
  have e:c+z+x*y=4294967296*((c+z+x*y) / 4294967296)+(c+z+x*y) % 4294967296:=by omega
  generalize (c+z+x*y) / 4294967296=q at *
  generalize (c+z+x*y) % 4294967296=r at *
  rw [show i+(j+1)=(i+j)+1 by omega,Nat.pow_succ]
  have eB:4294967296^i*4294967296^j=4294967296^(i+j):=(Nat.pow_add _ _ _).symm
  have e3:4294967296^i*(x*(lv (ly.take j)+4294967296^j*y))=4294967296^i*(x*lv (ly.take j))+4294967296^(i+j)*(x*y):=by
   rw [Nat.mul_add,Nat.mul_add, ← eB]
   congr 1
   rw [Nat.mul_assoc]; congr 1
   rw [Nat.mul_left_comm]
  rw [e3]
  generalize 4294967296^(i+j)=B at *
  have e2:B*(c+z+x*y)=B*(4294967296*q+r):=by rw [e]
  simp only [Nat.mul_add, ← Nat.mul_assoc] at e2 ⊢ hs hv
  omega
theorem RTimesR.start {lx ly z0:List Nat} {i:Nat} (h:RTimesR lx ly z0 i):RTimesI lx ly z0 z0 i 0 0 :=
 ⟨Nat.zero_le _,fun _=>rfl,h.len,h.lim,fun k hk=>h.zero k Y,fun _=>h.zero _ (Nat.le_refl _),by omega,by simp [lv]⟩
theorem RTimesI.finish {lx ly z0 zz:List Nat} {i j:Nat} (h0:RTimesR lx ly z0 i) (h:RTimesI lx ly z0 zz i j 0) (hj:ly.length≤j) (hi:i<lx.length):RTimesR lx ly zz (i+1):=by
 refine ⟨hi,h.len,h.lim,fun k hk=>h.zero k Y,?_⟩
 have hv:=h.val
 rw [Nat.mul_zero,Nat.add_zero,List.take_of_length_le hj,h0.val] at hv
 rw [hv,bL hi,Nat.add_mul,Nat.mul_assoc]
attribute [local irreducible] J PJ aP one slT cv bA bM exT cq eP aW aU slV VT.le Ret bO
attribute [local irreducible] aO
theorem Ae (n1 n2:Bool) (v1 v2:Nat) (h1:(aL v1).length≤1099511627776) (h2:(aL v2).length≤1099511627776):Ok Tryz.prog 58 [sgT n1 v1,sgT n2 v2] (aO (sv n1 v1*sv n2 v2)):=by
 unfold sgT
 refine Ok.enter Tryz.func58 Z Tryz.ntmps58 Z (fun w O => ?_)
 have hx:=bf v1
 have hy:=bf v2
 have hva:=bY v1
 have hvb:=bY v2
 generalize aL v1=lx at *
 generalize aL v2=ly at *
 refine ae (aj ?_)
 refine aM Z Z (ltN Z) (fun b => ?_)
 refine aM Z Z (ltN Z) (fun b => ?_)
 refine aX (T:=43) Z (ltN Z) (fun b => ?_)
 refine Ec (aa (ae (aj (DY (ah Z) (DY (ak 2 Z Z Z) (DY (aZ Z) (DY (ah Z) (DY (ak 1 Z Z Z) (DY (aZ Z) ?_)))))))))
 (refine DY (ck Z Z (aR ?_ ?_)) ?_;omega;omega)
 (refine DY (ck Z Z (aR ?_ ?_)) ?_;omega;omega)
 rename_i ba bb
 refine ci (lx.length+ly.length+1) (lx.length+ly.length+1) Z Z (by simp) (by simp) (Nat.le_refl _) Z Z Y Z Z (fun bz => ?_)
 refine Ea Z (Ec (aa (ae (ae (aj (Ea Z (Ec (aa (ar ?_)))))))))
 refine cC (σ:=List Nat × Nat) (fun s => [(2,one (.pointer (some ⟨ba,0,none⟩))),(3,one (.pointer (some ⟨bb,0,none⟩))),(4,one (.pointer (some ⟨b,0,none⟩))),(5,one (slV (some bz) (lx.length+ly.length+1) (lx.length+ly.length+1))),(6,one (.int .i64 (s.2:Nat)))])
   (fun s => [aU (some bz) 116 .one (lx.length+ly.length+1) (lx.length+ly.length+1) (fun q=>one (.int .u32 (s.1.getD q 0:Nat))),aW b 43 2 [(0, .agg 2,one (.agg #[.bool false, .slice none 0 0]))],aW bb 43 2 [(0, .one,one (.bool n2)),(1, .one,cr ly)],aW ba 43 2 [(0, .one,one (.bool n1)),(1, .one,cr lx)]])
   (fun s=>RTimesR lx ly s.1 s.2) (fun s=>lx.length - s.2) (List.replicate (lx.length+ly.length+1) 0,0)
   ⟨Nat.zero_le _,by simp,bI.replicate _,fun k _=>cL _ _,by simp [eE,lv]⟩ DV (.keep (bQ (fun q _=>by rw [cL]; rfl)) (SubM.refl _)) (fun s hR => ?_)
 obtain ⟨z0,i⟩:=s
 simp only at hR ⊢
 refine ae (ae (aj (DZ Z (DY (ah Z) (DY (ak 3 Z Z Z) (DY (aZ Z) (DY (a7 Z Z) (Ec (aa ?_)))))))))
 refine a4 Z (fun hc => ?_) (fun hc => ?_) <;> simp at hc
 ·have g1:=bh hx i
  refine av (aa (ae (ar (ae (aj (Ea Z (Ec (aa (ae ?_)))))))))
  refine aj (Ea Z (Ec (aa (ar ?_))))
  refine cC (σ:=List Nat × Nat × Nat) (fun s => [(2,one (.pointer (some ⟨ba,0,none⟩))),(3,one (.pointer (some ⟨bb,0,none⟩))),(4,one (.pointer (some ⟨b,0,none⟩))),(5,one (slV (some bz) (lx.length+ly.length+1) (lx.length+ly.length+1))),(6,one (.int .i64 (i:Nat))),(7,one (.int .u64 (s.2.2:Nat))),(8,one (.int .i64 (s.2.1:Nat)))])
   (fun s => [aU (some bz) 116 .one (lx.length+ly.length+1) (lx.length+ly.length+1) (fun q=>one (.int .u32 (s.1.getD q 0:Nat))),aW b 43 2 [(0, .agg 2,one (.agg #[.bool false, .slice none 0 0]))],aW bb 43 2 [(0, .one,one (.bool n2)),(1, .one,cr ly)],aW ba 43 2 [(0, .one,one (.bool n1)),(1, .one,cr lx)]])
   (fun s=>RTimesI lx ly z0 s.1 i s.2.1 s.2.2) (fun s=>ly.length+1 - s.2.1) (z0,0,0)
   hR.start DV (SubM.refl _) (fun s hI => ?_)
  obtain ⟨zz,j,c⟩:=s
  simp only at hI ⊢
  have g0:=hI.c1
  have gj:=hI.le
  refine ae (ae ?_)
  refine gh (σ:=Unit) (fun _ => [(2,one (.pointer (some ⟨ba,0,none⟩))),(3,one (.pointer (some ⟨bb,0,none⟩))),(4,one (.pointer (some ⟨b,0,none⟩))),(5,one (slV (some bz) (lx.length+ly.length+1) (lx.length+ly.length+1))),(6,one (.int .i64 (i:Nat))),(7,one (.int .u64 (c:Nat))),(8,one (.int .i64 (j:Nat))),(33,one (.bool (decide (j<ly.length∨0<c))))])
   (fun _ => [aU (some bz) 116 .one (lx.length+ly.length+1) (lx.length+ly.length+1) (fun q=>one (.int .u32 (zz.getD q 0:Nat))),aW b 43 2 [(0, .agg 2,one (.agg #[.bool false, .slice none 0 0]))],aW bb 43 2 [(0, .one,one (.bool n2)),(1, .one,cr ly)],aW ba 43 2 [(0, .one,one (.bool n1)),(1, .one,cr lx)]]) (fun _=>True) ?_ (fun _ _ => ?_)
  ·refine aj (DZ Z (DY (ah Z) (DY (ak 2 Z Z Z) (DY (aZ Z) (DY (a7 Z Z) (DZ Z ?_))))))
   refine kY (t:=29) Z (fun bo hb => ?_)
   rw [hb]
   cases bo
   ·simp at hb
    refine Eb (ab Z) (Eb (ej Z Z) (DY (a6 Z Z) (Ec ?_)))
    exact dh () trivial (.cons Z H (.cons Z H (.cons Z H (.cons Z H (.cons Z H (.cons Z H (.cons Z H (.cons Z (ao (by congr 1;rw [decide_eq_decide]; omega)) .nil)))))))) (SubM.refl _)
   ·simp at hb
    refine sg0 Z Z Z Z (sg0 Z Z Z Z (DY (aV Z Z) (Ec ?_)))
    exact dh () trivial (.cons Z H (.cons Z H (.cons Z H (.cons Z H (.cons Z H (.cons Z H (.cons Z H (.cons Z (ao (by simp;omega)) .nil)))))))) (SubM.refl _)
  ·refine aa ?_
   refine a4 Z (fun hc2 => ?_) (fun hc2 => ?_) <;> simp only [decide_eq_true_eq,decide_eq_false_iff_not] at hc2
   ·have hstep:=hI.step hx hy hc hc2
    have hjl:j≤ly.length:=by have:=hI.top;omega
    have g2:=bh hy j
    have g3:=bh hI.lim (i+j)
    have g4:=n7 g1 g2 g3 g0
    have hlt:i+j<zz.length:=by rw [hI.len]; omega
    refine av (aa (ae (ar (ae (aj (DZ Z (DZ Z (DZ Z (DZ Z ?_)))))))))
    (refine DY (ck Z Z (aR ?_ ?_)) ?_;omega;omega)
    (refine DY (an Z Z ?_) ?_;omega)
    (refine DY (bk 0 Z Z ?_) ?_;omega)
    (refine DY (bS Z ?_) ?_;omega)
    (refine DY (eD Z Z ?_) ?_;omega)
    refine Ea Z (Ec (aa (ae (ae (aj (DZ Z (DY (ah Z) (DY (ak 2 Z Z Z) (DY (aZ Z) ?_)))))))))
    refine DY (a7 Z Z) (Ec (aa ?_))
    refine gh (σ:=Unit) (fun _ => [(2,one (.pointer (some ⟨ba,0,none⟩))),(3,one (.pointer (some ⟨bb,0,none⟩))),(4,one (.pointer (some ⟨b,0,none⟩))),(5,one (slV (some bz) (lx.length+ly.length+1) (lx.length+ly.length+1))),(6,one (.int .i64 (i:Nat))),(7,one (.int .u64 (c+zz.getD (i+j) 0+lx.getD i 0*ly.getD j 0:Nat))),(8,one (.int .i64 (j:Nat)))])
     (fun _ => [aU (some bz) 116 .one (lx.length+ly.length+1) (lx.length+ly.length+1) (fun q=>one (.int .u32 (zz.getD q 0:Nat))),aW b 43 2 [(0, .agg 2,one (.agg #[.bool false, .slice none 0 0]))],aW bb 43 2 [(0, .one,one (.bool n2)),(1, .one,cr ly)],aW ba 43 2 [(0, .one,one (.bool n1)),(1, .one,cr lx)]]) (fun _=>True) ?_ (fun _ _ => ?_)
    ·refine a4 Z (fun hc3 => ?_) (fun hc3 => ?_) <;> simp only [decide_eq_true_eq,decide_eq_false_iff_not] at hc3
     ·skip
      refine aT 16 aS X S (DZ Z (DY (ah Z) (DY (ak 3 Z Z Z) (DZ Z ?_))))
      (refine DY (ax Z Z ?_) ?_;omega)
      refine DY (aJ Z) ?_
      (refine DY (bS Z ?_) ?_;omega)
      refine DY (ah Z) (DY (ak 2 Z Z Z) (DZ Z ?_))
      (refine DY (ax Z Z ?_) ?_;omega)
      refine DY (aJ Z) ?_
      (refine DY (bS Z ?_) ?_;omega)
      (refine DY (i6 Z Z ?_) ?_;omega)
      (refine DY (eD Z Z ?_) ?_;omega)
      refine Ea Z (Ec (Ec ?_))
      exact dh () trivial DV (SubM.refl _)
     ·have e0:ly.getD j 0=0:=by simp [List.getElem?_eq_none (show ly.length≤j by omega)]
      refine av ?_
      refine dh () trivial ?_ (SubM.refl _)
      rw [e0,Nat.mul_zero,Nat.add_zero]
      exact DV
    ·refine aa (ae (aj (DZ Z (DZ Z (DZ Z ?_)))))
     (refine DY (ck Z Z (aR ?_ ?_)) ?_;omega;omega)
     refine DZ Z (DY (cP Z) ?_)
     (refine DY (an Z Z ?_) ?_;omega)
     (refine aA 0 Z Z Z ?_ Z ?_;omega)
     refine Ec (aa (aj (DZ Z ?_)))
     (refine DY (vg Z ?_) ?_;omega)
     refine Ea Z (Ec (aB (aa (aj (DZ Z ?_)))))
     (refine DY (ck Z Z (aR ?_ ?_)) ?_;omega;omega)
     refine Ea Z (Ec ?_)
     refine bK (s:=(zz,j,c)) (zz.set (i+j) ((c+zz.getD (i+j) 0+lx.getD i 0*ly.getD j 0) % 4294967296),j+1,(c+zz.getD (i+j) 0+lx.getD i 0*ly.getD j 0) / 4294967296) hstep (by show ly.length+1 - (j+1)<ly.length+1 - j;omega) DV (.keep (bQ (fun q hq => ?_)) (SubM.refl _))
     unfold upd;rw [ev hlt]; split <;> rfl
   ·have hc0:c=0:=by omega
    subst hc0
    have hfin:=hI.finish hR Y hc
    refine aY (aw (aw (aE (aB (aa (aj (DZ Z ?_)))))))
    (refine DY (ck Z Z (aR ?_ ?_)) ?_;omega;omega)
    refine Ea Z (Ec ?_)
    exact bK (s:=(z0,i)) (zz,i+1) hfin (by show lx.length - (i+1)<lx.length - i;omega) DV (SubM.refl _)
 ·have hi:i=lx.length:=by have:=hR.le;omega
  refine aY (aw (aw (aE (aa (ae (aj (DZ Z (DY (ah Z) (DY (ak 3 Z Z Z) ?_)))))))))
  refine DY (ah Z) (DY (ak 2 Z Z Z) (DY (ka Z Z) (jy (t:=74) (j:=0) Z Z ?_)))
  skip
  refine DY (am (dJ _ (v1*v2)) Z ⟨VT.le_trans (dg (m:=z0.length) (ψ:=fun i=>one (.int .u32 (z0.getD i 0:Nat))) hR.len.symm (fun q hq=>rfl)) (iT (l:=z0) hR.lim ?_ ?_),H,Ed⟩) ?_
  ·rw [hR.val,hi,List.take_length,hva,hvb]
  ·rw [hR.len]; omega
  refine aC 0 Z Z Z Z Z (leN Z) Z (Ec (aa (aD ?_)))
  exact aK Tryz.results58 (.cellB 0 Z Z Z (cj (by cases n1 <;> cases n2 <;> simp [sv,Int.neg_mul,Int.mul_neg])))
end Tor
end
section
namespace Tor
open Go Go.RowKit Go.Proofs
def lH (neg:Bool) (l:List Nat):VT:=bA 2 [(0, .one,one (.bool neg)),(1, .one,cr l)]
def fJ (neg:Bool) (l:List Nat):Bool:=if l.length=0 then !neg else decide (l.getD (l.length - 1) 0≠0)
theorem x8 (x:Int):VT.le (aO x) (lH (decide (x<0)) (aL x.natAbs)):=VT.le_refl _
attribute [local irreducible] J PJ aP one slT cv bA bM exT cq eP aW aU slV VT.le Ret bO
theorem qp (neg:Bool) (l:List Nat) (hl:l.length≤4398046511104):Ok Tryz.prog 92 [lH neg l] (one (.bool (fJ neg l))):=by
 unfold lH
 refine Ok.enter Tryz.func92 Z Tryz.ntmps92 Z (fun w O => ?_)
 by_cases h0:l.length=0
 ·refine ae (aj ?_)
  refine aM Z Z (ltN Z) (fun b => ?_)
  refine Ea Z (Ec (aa (ae (ae (aj (DY (ah Z) (DY (ak 0 Z Z Z) (DY (aZ Z) (DY (cn Z Z) ?_)))))))))
  refine Ec (aa ?_)
  refine a4 Z (fun hc => ?_) (fun hc => ?_) <;> simp only [decide_eq_true_eq,decide_eq_false_iff_not] at hc
  ·refine ae (aj (DY (ah Z) (DY (ak 0 Z Z Z) (DY (bF Z) (Ea Z (Ec (aa (aD (aI ?_)))))))))
   exact aK Tryz.results92 (.tmp Z (ao (by unfold fJ;rw [if_pos h0])))
  ·omega
 ·refine ae (aj ?_)
  refine aM Z Z (ltN Z) (fun b => ?_)
  refine Ea Z (Ec (aa (ae (ae (aj (DY (ah Z) (DY (ak 0 Z Z Z) (DY (aZ Z) (DY (cn Z Z) ?_)))))))))
  refine Ec (aa ?_)
  refine a4 Z (fun hc => ?_) (fun hc => ?_) <;> simp only [decide_eq_true_eq,decide_eq_false_iff_not] at hc
  ·omega
  ·refine av (aa (ae (aj (DY (ah Z) (DY (ak 0 Z Z Z) (DY (ah Z) (DY (ak 0 Z Z Z) (DY (aZ Z) ?_))))))))
   (refine DY (e9 Z Z (aR ?_ ?_)) ?_;omega;omega)
   (refine DY (ei Z Z ?_ ?_) ?_;omega;omega)
   refine DY (aJ Z) (DY (cE Z Z) (Ea Z (Ec (aa (aD ?_)))))
   refine aK Tryz.results92 (.tmp Z (ao ?_))
   have e:(↑l.length - 1:Int).toNat=l.length - 1:=by omega
   unfold fJ;rw [if_neg h0,e]; congr 1;rw [decide_eq_decide]; omega
end Tor
end
section
namespace Tor
open Go Go.RowKit Go.Proofs
def ko (v:List Int):VT:=slT (.agg 2) v.length (fun i=>aO (v.getD i 0))
theorem re {u v:List Int} {i:Nat} (h:u.take i=v.take i) (hl:u.length=v.length) (hi:i<u.length) (he:u.getD i 0=v.getD i 0):u.take (i+1)=v.take (i+1):=by
 rw [List.take_add_one,List.take_add_one,h,List.getElem?_eq_getElem hi,List.getElem?_eq_getElem (hl▸hi)]
 simp only [List.getD,List.getElem?_eq_getElem hi,List.getElem?_eq_getElem (hl▸hi),Option.getD_some] at he
 rw [he]
attribute [local irreducible] J PJ aP one slT cv bA bM exT cq eP aW aU slV VT.le Ret bO
attribute [local irreducible] aO
theorem sN (u v:List Int):Ok Tryz.prog 66 [ko u,ko v] (one (.bool (decide (u=v)))):=by
 unfold ko
 refine Ok.enter Tryz.func66 Z Tryz.ntmps66 Z (fun w O => ?_)
 refine iX (t:=0) Z (fun _ _=>fm) (fun hb => ?_)
 refine ae (aj (Ea Z (Ec (aa (ae (ae (aj (DZ Z (DY (aZ Z) ?_)))))))))
 refine DZ Z (DY (aZ Z) (DY (cE Z Z) (Ec (aa ?_))))
 refine a4 Z (fun hc => ?_) (fun hc => ?_) <;> simp only [decide_eq_true_eq,decide_eq_false_iff_not,ne_eq,Decidable.not_not] at hc
 ·refine ae (aj (Ea Z (Ec (aa (aD (aI ?_))))))
  refine aK Tryz.results66 (.tmp Z (ao ?_))
  have : ¬ (u=v):=by intro e;subst e;exact hc Z
  simp [this]
 ·have hlen:u.length=v.length:=by omega
  refine av (aa (ae (ae (aj (Ea Z (Ec (aa (ar ?_))))))))
  refine cC (σ:=Nat) (fun i => [(0,ko u),(1,ko v),(5,one (.int .i64 (i:Nat)))]) (fun _ => []) (fun i=>i≤u.length∧u.take i=v.take i) (fun i=>u.length - i) 0 ⟨Nat.zero_le _,rfl⟩ DV (SubM.refl _) (fun i ⟨hi,ht⟩ => ?_)
  unfold ko
  refine ae (ae (aj (DZ Z (DZ Z (DY (aZ Z) (DY (a7 Z Z) (Ec (aa ?_))))))))
  refine a4 Z (fun hc => ?_) (fun hc => ?_) <;> simp at hc
  ·refine av (aa (ae (ar (ae (aT 10 aS X S (DZ Z (DZ Z ?_)))))))
   (refine DY (ax Z Z ?_) ?_;omega)
   refine DY (aJ Z) (DZ Z (DZ Z ?_))
   (refine DY (ax Z Z ?_) ?_;omega)
   refine DY (aJ Z) ?_
   refine DY (am (oS _ _) Z ⟨H,H,Ed⟩) ?_
   refine DY (bF Z) (Ec (Ec (aa ?_)))
   refine a4 Z (fun hc2 => ?_) (fun hc2 => ?_)
   ·simp at hc2
    refine ae (aj (Ea Z (Ec (aa (aD (a9 (aI (aI (a9 ?_)))))))))
    refine aI ?_
    refine aK Tryz.results66 (.tmp Z (ao ?_))
    have : ¬ (u=v):=by intro e;subst e;exact hc2 Z
    simp [this]
   ·have he:u.getD i 0=v.getD i 0:=by simpa using hc2
    refine av (aB (aa (aj (DZ Z ?_))))
    (refine DY (ck Z Z (aR ?_ ?_)) ?_;omega;omega)
    refine Ea Z (Ec ?_)
    exact bK (s:=i) (i+1) ⟨by omega,re ht hlen Y he⟩ (by show u.length - (i+1)<u.length - i;omega) DV (SubM.refl _)
  ·refine aY (aw (aw (aE (aa (ae (aj (Ea Z (Ec (aa ?_)))))))))
   refine aD ?_
   refine aK Tryz.results66 (.tmp Z (ao ?_))
   rw [List.take_of_length_le Y,List.take_of_length_le Y] at ht
   simp [ht]
end Tor
end
section
namespace Tor
open Go Go.RowKit Go.Proofs
def oT (a:List (List Int)):VT:=slT .one a.length (fun i=>ko (a.getD i []))
def wR (r c:Int) (a:List (List Int)):VT:=bA 3 [(0, .one,one (.int .i64 r)),(1, .one,one (.int .i64 c)),(2, .one,oT a)]
theorem pR {u v:List (List Int)} {i:Nat} (h:u.take i=v.take i) (hl:u.length=v.length) (hi:i<u.length) (he:u.getD i []=v.getD i []):u.take (i+1)=v.take (i+1):=by
 rw [List.take_add_one,List.take_add_one,h,List.getElem?_eq_getElem hi,List.getElem?_eq_getElem (hl▸hi)]
 simp only [List.getD,List.getElem?_eq_getElem hi,List.getElem?_eq_getElem (hl▸hi),Option.getD_some] at he
 rw [he]
attribute [local irreducible] J PJ aP one slT cv bA bM exT cq eP aW aU slV VT.le Ret bO
attribute [local irreducible] aO ko
theorem sO (r c r' c':Int) (u v:List (List Int)) (hu:u.length≤281474976710656):Ok Tryz.prog 27 [wR r c u,wR r' c' v] (one (.bool (decide (r=r'∧c=c'∧u=v)))):=by
 unfold wR oT
 refine Ok.enter Tryz.func27 Z Tryz.ntmps27 Z (fun w O => ?_)
 refine ae (aj ?_)
 refine aM Z Z (ltN Z) (fun b => ?_)
 refine aM Z Z (ltN Z) (fun b => ?_)
 refine Ea Z (Ec (aa (ae (ae (aj (DY (ah Z) (DY (ak 1 Z Z Z) (DY (ah Z) (DY (ak 0 Z Z Z) ?_)))))))))
 refine DY (cE Z Z) (DZ Z ?_)
 rename_i ba
 refine kY (t:=10) Z (fun bo hb => ?_)
 rw [hb]
 cases bo
 ·have e1:r=r':=by simpa using hb
  refine Eb (ah Z) (Eb (ak 1 Z Z Z) (Eb (ah Z) (Eb (ak 0 Z Z Z) (Eb (cE Z Z) (DY (a6 Z Z) (DZ Z ?_))))))
  refine kY (t:=17) Z (fun bo hb2 => ?_)
  rw [hb2]
  cases bo
  ·have e2:c=c':=by simpa using hb2
   subst e1 e2
   refine Eb (ah Z) (Eb (ak 1 Z Z Z) (Eb (aZ Z) (Eb (ah Z) (Eb (ak 0 Z Z Z) (Eb (aZ Z) (Eb (cE Z Z) (DY (a6 Z Z) (Ec (aa ?_)))))))))
   refine a4 Z (fun hc => ?_) (fun hc => ?_) <;> simp only [decide_eq_true_eq,decide_eq_false_iff_not,ne_eq,Decidable.not_not] at hc
   ·refine ae (aj (Ea Z (Ec (aa (aD (aI ?_))))))
    refine aK Tryz.results27 (.tmp Z (ao ?_))
    have : ¬ (u=v):=by intro e;subst e;exact hc Z
    simp [this]
   ·have hlen:u.length=v.length:=by omega
    refine av (aa (ae (ae (aj (Ea Z (Ec (aa (ar ?_))))))))
    refine cC (σ:=Nat) (fun i => [(2,one (.pointer (some ⟨ba,0,none⟩))),(3,one (.pointer (some ⟨b,0,none⟩))),(5,one (.int .i64 (i:Nat)))])
     (fun _ => [aW b 28 3 [(0, .one,one (.int .i64 r)),(1, .one,one (.int .i64 c)),(2, .one,oT v)],aW ba 28 3 [(0, .one,one (.int .i64 r)),(1, .one,one (.int .i64 c)),(2, .one,oT u)]])
     (fun i=>i≤u.length∧u.take i=v.take i) (fun i=>u.length - i) 0 ⟨Nat.zero_le _,rfl⟩ DV (SubM.refl _) (fun i ⟨hi,ht⟩ => ?_)
    unfold oT
    refine ae (ae (aj (DZ Z (DY (ah Z) (DY (ak 1 Z Z Z) (DY (aZ Z) (DY (a7 Z Z) (Ec (aa ?_)))))))))
    refine a4 Z (fun hc => ?_) (fun hc => ?_) <;> simp at hc
    ·refine av (aa (ae (ar (ae (aT 12 aS X S (DY (ah Z) (DY (ak 1 Z Z Z) (DZ Z ?_))))))))
     (refine DY (ax Z Z ?_) ?_;omega)
     refine DY (aJ Z) (DY (ah Z) (DY (ak 0 Z Z Z) (DZ Z ?_)))
     (refine DY (ax Z Z ?_) ?_;omega)
     refine DY (aJ Z) ?_
     refine DY (am (sN _ _) Z ⟨H,H,Ed⟩) ?_
     refine DY (bF Z) (Ec (Ec (aa ?_)))
     refine a4 Z (fun hc2 => ?_) (fun hc2 => ?_)
     ·simp at hc2
      refine ae (aj (Ea Z (Ec (aa (aD (a9 (aI (aI (a9 ?_)))))))))
      refine aI ?_
      refine aK Tryz.results27 (.tmp Z (ao ?_))
      have : ¬ (u=v):=by intro e;subst e;exact hc2 Z
      simp [this]
     ·have he:u.getD i []=v.getD i []:=by simpa using hc2
      refine av (aB (aa (aj (DZ Z ?_))))
      (refine DY (ck Z Z (aR ?_ ?_)) ?_;omega;omega)
      refine Ea Z (Ec ?_)
      exact bK (s:=i) (i+1) ⟨by omega,pR ht hlen Y he⟩ (by show u.length - (i+1)<u.length - i;omega) DV (SubM.refl _)
    ·refine aY (aw (aw (aE (aa (ae (aj (Ea Z (Ec (aa ?_)))))))))
     refine aD ?_
     refine aK Tryz.results27 (.tmp Z (ao ?_))
     rw [List.take_of_length_le Y,List.take_of_length_le Y] at ht
     simp [ht]
  ·have e2 : ¬ c=c':=by simpa using hb2
   refine sg0 Z Z Z Z (sg0 Z Z Z Z (sg0 Z Z Z Z (sg0 Z Z Z Z (sg0 Z Z Z Z (sg0 Z Z Z Z (sg0 Z Z Z Z (DY (aV Z Z) (Ec (aa ?_)))))))))
   refine a4 Z (fun hc => ?_) (fun hc => ?_)
   ·refine ae (aj (Ea Z (Ec (aa (aD (aI ?_))))))
    refine aK Tryz.results27 (.tmp Z (ao ?_))
    simp [e2]
   ·cases hc
 ·have e1 : ¬ r=r':=by simpa using hb
  refine sg0 Z Z Z Z (sg0 Z Z Z Z (sg0 Z Z Z Z (sg0 Z Z Z Z (sg0 Z Z Z Z (DY (aV Z Z) (DZ Z (sg0 Z Z Z Z (sg0 Z Z Z Z (sg0 Z Z Z Z ?_)))))))))
  refine sg0 Z Z Z Z (sg0 Z Z Z Z (sg0 Z Z Z Z (sg0 Z Z Z Z (DY (aV Z Z) (Ec (aa ?_))))))
  refine a4 Z (fun hc => ?_) (fun hc => ?_)
  ·refine ae (aj (Ea Z (Ec (aa (aD (aI ?_))))))
   refine aK Tryz.results27 (.tmp Z (ao ?_))
   simp [e1]
  ·cases hc
end Tor
end
section
namespace Tor
open Go Go.RowKit Go.Proofs
def ea (v:List (Bool × List Nat)):VT:=slT (.agg 2) v.length (fun i=>lH (v.getD i (false, [])).1 (v.getD i (false, [])).2)
def lj (x:Int):Bool × List Nat:=(decide (x<0),aL x.natAbs)
theorem sP (v:List Int):VT.le (ko v) (ea (v.map lj)):=by
 unfold ko ea
 refine VT.le_trans (er (ψ:=fun i=>lH ((v.map lj).getD i (false, [])).1 ((v.map lj).getD i (false, [])).2) (fun i hi => ?_)) (by rw [List.length_map]; exact VT.le_refl _)
 simp only [List.getD,List.getElem?_map,List.getElem?_eq_getElem hi,Option.map_some,Option.getD_some]
 exact x8 _
theorem mo : ∀ {l:List Nat},gZ l→0<l.length→l.getD (l.length - 1) 0≠0
 | [], _, h => absurd h S
 | [d], h, _ => h
 | _ :: d :: l, h, _ => mo (l := d :: l) h (by simp)
theorem um (x:Int):fJ (lj x).1 (lj x).2=true:=by
 unfold fJ lj
 simp only
 split
 ·rename_i h
  have e:=List.eq_nil_of_length_eq_zero h
  have:x.natAbs=0:=by rw [← bY x.natAbs,e]; rfl
  have : ¬ x<0:=by omega
  simp [this]
 ·rename_i h
  have:=mo (mj x.natAbs) Y
  simpa using this
theorem fM (x:Int):dQ x=0↔x=0:=by
 unfold dQ
 constructor
 ·intro h;split at h
  ·assumption
  ·split at h <;> omega
 ·intro h;rw [if_pos h]
theorem mp {α:Type} {p:α→Bool} {v:List α} {d:α} {i:Nat} (h:(v.take i).all p=true) (hi:i<v.length) (he:p (v.getD i d)=true):(v.take (i+1)).all p=true:=by
 rw [List.take_add_one,List.all_append,h,List.getElem?_eq_getElem hi]
 simp only [List.getD,List.getElem?_eq_getElem hi,Option.getD_some] at he
 simp [he]
theorem lI {α:Type} {p:α→Bool} {v:List α} {d:α} {i:Nat} (hi:i<v.length) (he:p (v.getD i d)=false):v.all p=false:=by
 simp only [List.getD,List.getElem?_eq_getElem hi,Option.getD_some] at he
 rw [List.all_eq_false]; exact ⟨_,List.getElem_mem hi,by simp [he]⟩
attribute [local irreducible] J PJ aP one slT cv bA bM exT cq eP aW aU slV VT.le Ret bO
attribute [local irreducible] aO lH
theorem rf (v:List (Bool × List Nat)) (hv : ∀ p∈v,p.2.length≤4398046511104):Ok Tryz.prog 103 [ea v] (one (.bool (v.all fun p=>fJ p.1 p.2))):=by
 unfold ea
 refine Ok.enter Tryz.func103 Z Tryz.ntmps103 Z (fun w O => ?_)
 refine iX (t:=0) Z (fun _ _=>fm) (fun hb => ?_)
 refine ae (aj (Ea Z (Ec (aa (ae (ae (aj (Ea Z (Ec ?_)))))))))
 refine aa (ar ?_)
 refine cC (σ:=Nat) (fun i => [(0,ea v),(3,one (.int .i64 (i:Nat)))]) (fun _ => []) (fun i=>i≤v.length∧(v.take i).all (fun p=>fJ p.1 p.2)=true) (fun i=>v.length - i) 0 ⟨Nat.zero_le _,rfl⟩ DV (SubM.refl _) (fun i ⟨hi,ht⟩ => ?_)
 unfold ea
 refine ae (ae (aj (DZ Z (DZ Z (DY (aZ Z) (DY (a7 Z Z) (Ec (aa ?_))))))))
 refine a4 Z (fun hc => ?_) (fun hc => ?_) <;> simp at hc
 ·have hm:(v.getD i (false, [])).2.length≤4398046511104:=by
   simp only [List.getD,List.getElem?_eq_getElem hc,Option.getD_some]
   exact hv _ (List.getElem_mem hc)
  refine av (aa (ae (ar (ae (aj (DZ Z (DZ Z ?_)))))))
  (refine DY (ax Z Z ?_) ?_;omega)
  refine DY (aJ Z) ?_
  refine DY (am (qp _ _ hm) Z ⟨H,Ed⟩) ?_
  refine DY (bF Z) (Ec (aa ?_))
  refine a4 Z (fun hc2 => ?_) (fun hc2 => ?_)
  ·refine ae (aj (Ea Z (Ec (aa (aD (a9 (aI (aI (a9 ?_)))))))))
   refine aI ?_
   refine aK Tryz.results103 (.tmp Z (ao ?_))
   rw [lI (d:=(false, [])) hc (by simpa using hc2)]
  ·refine av (aB (aa (aj (DZ Z ?_))))
   (refine DY (ck Z Z (aR ?_ ?_)) ?_;omega;omega)
   refine Ea Z (Ec ?_)
   exact bK (s:=i) (i+1) ⟨by omega,mp (d:=(false, [])) ht hc (by simpa using hc2)⟩ (by show v.length - (i+1)<v.length - i;omega) DV (SubM.refl _)
 ·refine aY (aw (aw (aE (aa (ae (aj (Ea Z (Ec (aa ?_)))))))))
  refine aD ?_
  refine aK Tryz.results103 (.tmp Z (ao ?_))
  rw [List.take_of_length_le Y] at ht
  rw [ht]
theorem x9 (v:List Int):Ok Tryz.prog 35 [ko v] (one (.bool (v.all fun x=>decide (x=0)))):=by
 unfold ko
 refine Ok.enter Tryz.func35 Z Tryz.ntmps35 Z (fun w O => ?_)
 refine iX (t:=0) Z (fun _ _=>fm) (fun hb => ?_)
 refine ae (aj (Ea Z (Ec (aa (ae (ae (aj (Ea Z (Ec ?_)))))))))
 refine aa (ar ?_)
 refine cC (σ:=Nat) (fun i => [(0,ko v),(3,one (.int .i64 (i:Nat)))]) (fun _ => []) (fun i=>i≤v.length∧(v.take i).all (fun x=>decide (x=0))=true) (fun i=>v.length - i) 0 ⟨Nat.zero_le _,rfl⟩ DV (SubM.refl _) (fun i ⟨hi,ht⟩ => ?_)
 unfold ko
 refine ae (ae (aj (DZ Z (DZ Z (DY (aZ Z) (DY (a7 Z Z) (Ec (aa ?_))))))))
 refine a4 Z (fun hc => ?_) (fun hc => ?_) <;> simp at hc
 ·refine av (aa (ae (ar (ae (aj (DZ Z (DZ Z ?_)))))))
  (refine DY (ax Z Z ?_) ?_;omega)
  refine DY (aJ Z) ?_
  refine DY (am (sJ (decide (v.getD i 0<0)) (v.getD i 0).natAbs) Z ⟨eF _,Ed⟩) ?_
  rw [fH]
  refine DY (cE Z Z) (Ec (aa ?_))
  have hs : ∀ x:Int,dQ x=0↔x=0:=fM
  refine a4 Z (fun hc2 => ?_) (fun hc2 => ?_) <;> simp only [decide_eq_true_eq,decide_eq_false_iff_not,ne_eq,Decidable.not_not,hs] at hc2
  ·refine ae (aj (Ea Z (Ec (aa (aD (a9 (aI (aI (a9 ?_)))))))))
   refine aI ?_
   refine aK Tryz.results35 (.tmp Z (ao ?_))
   rw [lI (d:=0) hc (decide_eq_false hc2)]
  ·refine av (aB (aa (aj (DZ Z ?_))))
   (refine DY (ck Z Z (aR ?_ ?_)) ?_;omega;omega)
   refine Ea Z (Ec ?_)
   exact bK (s:=i) (i+1) ⟨by omega,mp (d:=0) ht hc (decide_eq_true hc2)⟩ (by show v.length - (i+1)<v.length - i;omega) DV (SubM.refl _)
 ·refine aY (aw (aw (aE (aa (ae (aj (Ea Z (Ec (aa ?_)))))))))
  refine aD ?_
  refine aK Tryz.results35 (.tmp Z (ao ?_))
  rw [List.take_of_length_le Y] at ht
  rw [ht]
end Tor
end
section
namespace Tor
open Go Go.RowKit Go.Proofs
abbrev sQ:=List (Bool × List Nat)
def d8 (a:List sQ):VT:=slT .one a.length (fun i=>ea (a.getD i []))
def g7 (r c:Int) (a:List sQ):VT:=bA 3 [(0, .one,one (.int .i64 r)),(1, .one,one (.int .i64 c)),(2, .one,d8 a)]
def ga (c:Int) (v:sQ):Bool:=decide ((v.length:Int)=c) && v.all fun p=>fJ p.1 p.2
def eU (r c:Int) (a:List sQ):Bool:=decide (0≤r∧0≤c∧(a.length:Int)=r) && a.all (ga c)
attribute [local irreducible] J PJ aP one slT cv bA bM exT cq eP aW aU slV VT.le Ret bO
attribute [local irreducible] aO lH ea
theorem rg (r c:Int) (a:List sQ) (ha:a.length≤281474976710656) (hv : ∀ v∈a, ∀ p∈v,p.2.length≤4398046511104):Ok Tryz.prog 67 [g7 r c a] (one (.bool (eU r c a))):=by
 unfold g7 d8
 refine Ok.enter Tryz.func67 Z Tryz.ntmps67 Z (fun w O => ?_)
 refine ae (aj ?_)
 refine aM Z Z (ltN Z) (fun b => ?_)
 refine Ea Z (Ec (aa (ae (ae (aj (DY (ah Z) (DY (ak 0 Z Z Z) (DY (a7 Z Z) (DZ Z ?_)))))))))
 refine kY (t:=6) Z (fun bo hb => ?_)
 rw [hb]
 cases bo
 ·have e1:0≤r:=by simpa using hb
  refine Eb (ah Z) (Eb (ak 0 Z Z Z) (Eb (a7 Z Z) (DY (a6 Z Z) (DZ Z ?_))))
  refine kY (t:=11) Z (fun bo hb2 => ?_)
  rw [hb2]
  cases bo
  ·have e2:0≤c:=by simpa using hb2
   refine Eb (ah Z) (Eb (ak 0 Z Z Z) (Eb (aZ Z) (Eb (ah Z) (Eb (ak 0 Z Z Z) (Eb (cE Z Z) (DY (a6 Z Z) (Ec (aa ?_))))))))
   refine a4 Z (fun hc => ?_) (fun hc => ?_) <;> simp only [decide_eq_true_eq,decide_eq_false_iff_not,ne_eq,Decidable.not_not] at hc
   ·refine ae (aj (Ea Z (Ec (aa (aD (aI ?_))))))
    refine aK Tryz.results67 (.tmp Z (ao ?_))
    simp [eU,hc]
   ·have e3:(a.length:Int)=r:=hc
    refine av (aa (ae (ae (aj (Ea Z (Ec (aa (ar ?_))))))))
    refine cC (σ:=Nat) (fun i => [(1,one (.pointer (some ⟨b,0,none⟩))),(3,one (.int .i64 (i:Nat)))])
     (fun _ => [aW b 28 3 [(0, .one,one (.int .i64 r)),(1, .one,one (.int .i64 c)),(2, .one,d8 a)]])
     (fun i=>i≤a.length∧(a.take i).all (ga c)=true) (fun i=>a.length - i) 0 ⟨Nat.zero_le _,rfl⟩ DV (SubM.refl _) (fun i ⟨hi,ht⟩ => ?_)
    unfold d8
    refine ae (ae (aj (DZ Z (DY (ah Z) (DY (ak 0 Z Z Z) (DY (aZ Z) (DY (a7 Z Z) (Ec (aa ?_)))))))))
    refine a4 Z (fun hc => ?_) (fun hc => ?_) <;> simp at hc
    ·have hm : ∀ p∈a.getD i [],p.2.length≤4398046511104:=by
      simp only [List.getD,List.getElem?_eq_getElem hc,Option.getD_some]
      exact hv _ (List.getElem_mem hc)
     refine av (aa (ae (ar (ae (aT 18 aS X S ?_)))))
     unfold ea
     refine DY (ah Z) (DY (ak 0 Z Z Z) (DZ Z ?_))
     (refine DY (ax Z Z ?_) ?_;omega)
     refine DY (aJ Z) (DY (aZ Z) (DY (ah Z) (DY (ak 0 Z Z Z) (DY (cE Z Z) (DZ Z ?_)))))
     refine kY (t:=35) Z (fun bo hb3 => ?_)
     rw [hb3]
     cases bo
     ·refine Eb (ah Z) (Eb (ak 0 Z Z Z) (Eb (ab Z) ?_))
      (refine Eb (ax Z Z ?_) ?_;omega)
      refine Eb (aJ Z) ?_
      refine Eb (am (rf _ hm) Z ⟨(by unfold ea;exact VT.le_refl _),Ed⟩) ?_
      refine Eb (bF Z) (DY (a6 Z Z) (Ec (Ec (aa ?_))))
      refine a4 Z (fun hc2 => ?_) (fun hc2 => ?_)
      ·refine ae (aj (Ea Z (Ec (aa (aD (a9 (aI (aI (a9 ?_)))))))))
       refine aI ?_
       refine aK Tryz.results67 (.tmp Z (ao ?_))
       have:=lI (p:=ga c) (d := []) hc (by simp only [ga,Bool.and_eq_false_iff]; right;simpa using hc2)
       simp [eU,this]
      ·refine av (aB (aa (aj (DZ Z ?_))))
       (refine DY (ck Z Z (aR ?_ ?_)) ?_;omega;omega)
       refine Ea Z (Ec ?_)
       exact bK (s:=i) (i+1) ⟨by omega,mp (d := []) ht hc (by simp only [ga,Bool.and_eq_true]; exact ⟨by simpa using hb3,by simpa using hc2⟩)⟩ (by show a.length - (i+1)<a.length - i;omega) DV (SubM.refl _)
     ·refine sg0 Z Z Z Z (sg0 Z Z Z Z (sg0 Z Z Z Z (sg0 Z Z Z Z (sg0 Z Z Z Z (sg0 Z Z Z Z (sg0 Z Z Z Z (DY (aV Z Z) (Ec (Ec ?_)))))))))
      refine aa ?_
      refine a4 Z (fun hc2 => ?_) (fun hc2 => ?_)
      ·refine ae (aj (Ea Z (Ec (aa (aD (a9 (aI (aI (a9 ?_)))))))))
       refine aI ?_
       refine aK Tryz.results67 (.tmp Z (ao ?_))
       have:=lI (p:=ga c) (d := []) hc (by simp only [ga,Bool.and_eq_false_iff]; left;simpa using hb3)
       simp [eU,this]
      ·cases hc2
    ·refine aY (aw (aw (aE (aa (ae (aj (Ea Z (Ec (aa ?_)))))))))
     refine aD ?_
     refine aK Tryz.results67 (.tmp Z (ao ?_))
     rw [List.take_of_length_le Y] at ht
     simp [eU,ht,e1,e2,e3]
  ·have e2 : ¬ 0≤c:=by simpa using hb2
   refine sg0 Z Z Z Z (sg0 Z Z Z Z (sg0 Z Z Z Z (sg0 Z Z Z Z (sg0 Z Z Z Z (sg0 Z Z Z Z (DY (aV Z Z) (Ec (aa ?_))))))))
   refine a4 Z (fun hc => ?_) (fun hc => ?_)
   ·refine ae (aj (Ea Z (Ec (aa (aD (aI ?_))))))
    refine aK Tryz.results67 (.tmp Z (ao ?_))
    simp [eU,e2]
   ·cases hc
 ·have e1 : ¬ 0≤r:=by simpa using hb
  refine sg0 Z Z Z Z (sg0 Z Z Z Z (sg0 Z Z Z Z (DY (aV Z Z) (DZ Z (sg0 Z Z Z Z (sg0 Z Z Z Z (sg0 Z Z Z Z (sg0 Z Z Z Z (sg0 Z Z Z Z ?_)))))))))
  refine sg0 Z Z Z Z (DY (aV Z Z) (Ec (aa ?_)))
  refine a4 Z (fun hc => ?_) (fun hc => ?_)
  ·refine ae (aj (Ea Z (Ec (aa (aD (aI ?_))))))
   refine aK Tryz.results67 (.tmp Z (ao ?_))
   simp [eU,e1]
  ·cases hc
end Tor
end
section
namespace Tor
open Go Go.RowKit Go.Proofs
def tab (r c:Nat) (F:Nat→Nat→Int):List (List Int):=(List.range r).map fun i=>(List.range c).map (F i)
@[simp] theorem tab_length (r c:Nat) (F:Nat→Nat→Int):(tab r c F).length=r:=by simp [tab]
theorem vF {r c i:Nat} (F:Nat→Nat→Int) (hi:i<r):(tab r c F).getD i []=(List.range c).map (F i):=by simp [tab,List.getD,hi]
theorem ya {c j:Nat} (f:Nat→Int) (hj:j<c):((List.range c).map f).getD j 0=f j:=by simp [List.getD,hj]
theorem nr {r c:Nat} {F G:Nat→Nat→Int} (h : ∀ i j,i<r→j<c→F i j=G i j):tab r c F=tab r c G:=by
 unfold tab
 refine List.map_congr_left fun i hi=>List.map_congr_left fun j hj => ?_
 exact h i j (List.mem_range.1 hi) (List.mem_range.1 hj)
theorem Af {r c:Nat} {F G:Nat→Nat→Int} (h:tab r c F=tab r c G) {i j:Nat} (hi:i<r) (hj:j<c):F i j=G i j:=by
 have h1:=congrArg (fun l=>l.getD i []) h
 simp only [vF _ hi] at h1
 have h2:=congrArg (fun l=>l.getD j 0) h1
 simpa only [ya _ hj] using h2
def cu (c:Nat) (f:Nat→Int):VT:=slT (.agg 2) c (fun j=>aO (f j))
theorem oU (c:Nat) (f:Nat→Int):VT.le (cu c f) (ko ((List.range c).map f)):=by
 unfold cu ko
 refine VT.le_trans (er (ψ:=fun j=>aO (((List.range c).map f).getD j 0)) (fun j hj => ?_)) (lh (by simp))
 rw [ya f hj]; exact VT.le_refl _
def bG (r c:Nat) (F:Nat→Nat→Int):VT:=bA 3 [(0, .one,one (.int .i64 r)),(1, .one,one (.int .i64 c)),(2, .one,slT .one r (fun i=>cu c (F i)))]
theorem oV (r c:Nat) (F:Nat→Nat→Int):VT.le (bG r c F) (wR r c (tab r c F)):=by
 unfold bG wR oT
 refine eY (fun q hq => ?_)
 rcases List.mem_cons.1 hq with rfl | hq
 ·exact ⟨_,List.mem_cons_self,H⟩
 rcases List.mem_cons.1 hq with rfl | hq
 ·exact ⟨_,List.mem_cons_of_mem _ List.mem_cons_self,H⟩
 rcases List.mem_cons.1 hq with rfl | hq
 ·refine ⟨_,List.mem_cons_of_mem _ (List.mem_cons_of_mem _ List.mem_cons_self),VT.le_trans (er (ψ:=fun i=>ko ((tab r c F).getD i [])) (fun i hi => ?_)) (lh (by simp))⟩
  rw [vF F hi]; exact oU _ _
 ·cases hq
theorem g8 {r c:Nat} {F G:Nat→Nat→Int} (h : ∀ i j,i<r→j<c→F i j=G i j):VT.le (bG r c F) (bG r c G):=by
 unfold bG
 refine eY (fun q hq => ?_)
 rcases List.mem_cons.1 hq with rfl | hq
 ·exact ⟨_,List.mem_cons_self,H⟩
 rcases List.mem_cons.1 hq with rfl | hq
 ·exact ⟨_,List.mem_cons_of_mem _ List.mem_cons_self,H⟩
 rcases List.mem_cons.1 hq with rfl | hq
 ·refine ⟨_,List.mem_cons_of_mem _ (List.mem_cons_of_mem _ List.mem_cons_self),er fun i hi=>er fun j hj=>lh (by rw [h i j hi hj])⟩
 ·cases hq
theorem jj:VT.le (one (.agg #[.bool false, .slice none 0 0])) (aO 0):=by
 intro v h e
 have e:v = .agg #[.bool false, .slice none 0 0]:=e
 subst e
 refine ⟨_,rfl,rfl,by simp [Value.oneCell'],fun q hq => ?_⟩
 rcases List.mem_cons.1 hq with rfl | hq
 ·exact ⟨.bool false,rfl,rfl⟩
 ·rcases List.mem_cons.1 hq with rfl | hq
  ·exact ⟨.slice none 0 0,rfl,⟨none,0,rfl,Nat.le_refl _,by decide,fun i hi=>absurd hi (Nat.not_lt_zero _)⟩⟩
  ·cases hq
theorem fN {sv:Option Nat} {T:TypeId} {L:Lay} {cap n:Nat} {φ:Nat→VT} {g:RH} {h:Hp} (hp:(aU sv T L cap n φ).p g h) (he:sv=none):n=0:=by
 obtain ⟨h1,h2,h3,_⟩:=hp;have:=h3 he;omega
theorem nT {bs:List Nat} {i:Nat} (h:i<bs.length):bs[i]? = some (bs.getD i 0):=by simp [List.getD,h]
def fC (sv:Option Nat) (cap r c:Nat) (bs:List Nat):Own:=aU sv 50 .one cap r (fun q=>one (slV (some (bs.getD q 0)) c c))
def ew (c:Nat) (bs:List Nat) (F:Nat→Nat→Int):Own:=c8 43 (.agg 2) c bs (fun q k=>aO (F q k))
theorem e6 {c:Nat} {bs:List Nat} {F G:Nat→Nat→Int} (h : ∀ i j,i<bs.length→j<c→F i j=G i j):Own.le (ew c bs F) (ew c bs G):=gA fun i j hi hj=>by rw [h i j hi hj]
abbrev CZ (r:Nat) := {s:List Nat × Option Nat × Nat // s.1.length=r∧(s.2.1=none→r=0)}
def jE (r c:Nat) (s:CZ r):VT:=bA 3 [(0, .one,one (.int .i64 r)),(1, .one,one (.int .i64 c)),(2, .one,one (slV s.1.2.1 r s.1.2.2))]
theorem eR {r c:Nat} {sv:Option Nat} {cap:Nat} {bs:List Nat} {F:Nat→Nat→Int} {cs:cD} (hb:bs.length=r) (hc:(0,Lay.one,one (.int .i64 r))∈cs∧(1,Lay.one,one (.int .i64 c))∈cs∧(2,Lay.one,one (slV sv r cap))∈cs) :
  ub [fC sv cap r c bs,ew c bs F] cs [(0, .one,one (.int .i64 r)),(1, .one,one (.int .i64 c)),(2, .one,slT .one r (fun i=>cu c (F i)))]:=by
 refine .cons hc.1 (Ent.refl _) (.cons hc.2.1 (Ent.refl _) (.cons hc.2.2 ?_ .nil))
 refine Ent.slE List.mem_cons_self fun q hq => ?_
 exact Ent.row (List.mem_cons_of_mem _ List.mem_cons_self) (nT Y)
attribute [local irreducible] J PJ aP one slT cv bA bM exT cq eP aW aU slV VT.le Ret bO
attribute [local irreducible] c8
theorem jF (r c:Nat) (hr:r≤1048576) (hc:c≤1048576):OkM Tryz.prog 41 [one (.int .i64 r),one (.int .i64 c)] (jE r c) (fun s => [fC s.1.2.1 s.1.2.2 r c s.1.1,ew c s.1.1 (fun _ _=>0)]):=by
 refine OkM.enter Tryz.func41 Z Tryz.ntmps41 Z (fun w O => ?_)
 refine ae (aj ?_)
 refine aF (T:=28) Z Z Z (fun b => ?_)
 refine Ec (aa (ae (aj (kZ (n:=0) Z Z Z Z Z ?_))))
 refine PartsK.nil (fun b => ?_)
 refine Ea Z (Ec (aa (ae (ae (aj (Ea Z (Ec (aa (ar ?_)))))))))
 rename_i bc
 refine et (ConvM.rows0 (T:=43) (L := .agg 2) (c:=c) (φ:=fun _ _=>aO 0) _) ?_
 refine cC (σ:=List Nat × Option Nat × Nat) (fun s => [(0,one (.int .i64 r)),(1,one (.int .i64 c)),(4,one (.pointer (some ⟨bc,0,none⟩))),(5,one (slV s.2.1 s.1.length s.2.2)),(6,one (.int .i64 s.1.length))])
  (fun s => [aU s.2.1 50 .one s.2.2 s.1.length (fun q=>one (slV (some (s.1.getD q 0)) c c)),aW bc 28 3 (dt #[Value.int IntKind.i64 0,Value.int IntKind.i64 0,Value.slice none 0 0] [(0,Lay.one),(1,Lay.one),(2,Lay.one)]),ew c s.1 (fun _ _=>0)])
  (fun s=>s.1.length≤r) (fun s=>r - s.1.length) ([],some b,0) (Nat.zero_le _) DV (.keep (bQ (fun q hq=>by omega)) (SubM.refl _)) (fun s hk => ?_)
 obtain ⟨bs,sv0,cap0⟩:=s
 simp only at hk ⊢
 refine ae (ae (aj (DZ Z (DZ Z (DY (a7 Z Z) (Ec (aa ?_)))))))
 refine a4 Z (fun hc => ?_) (fun hc => ?_) <;> simp at hc
 ·refine av (aa (ae (ar (aj (DZ Z (DZ Z ?_))))))
  refine ci c c Z Z Z Z (Nat.le_refl _) Z Z Y Z Z (fun bz => ?_)
  refine jf Z Z Z Z ?_
  (refine de 1 Z Z Z (leN Z) ?_ ?_ Z (ltN Z) (fun sv cap => ?_);omega;omega)
  refine Ea Z (Ec (aB (aa (aj (DZ Z ?_)))))
  (refine DY (ck Z Z (aR ?_ ?_)) ?_;omega;omega)
  refine Ea Z (Ec (gq (ConvM.row (k:=2) Z) (bK (s:=(bs,sv0,cap0)) (bs ++ [bz],sv,cap) (by simp;omega) (by simp;omega) (.cons Z H (.cons Z H (.cons Z H (.cons Z (jD (by simp)) (.cons Z (ao (by simp)) .nil))))) ?_)))
  refine .keep (gC (by simp) (fun q hq => ?_)) (.keep DX (.keep (oC fun i j hi hj => ?_) .nil))
  ·by_cases h:q<bs.length
   ·rw [if_pos h]; simp [List.getElem?_append_left h]
   ·have:q=bs.length:=by omega
    subst this;rw [if_neg h]; simp
  ·simp only
   split
   ·exact VT.le_refl _
   ·exact jj
 ·have hlen:bs.length=r:=by omega
  subst hlen
  refine kG (i:=0) (F:=sv0=none→bs.length=0) Z (fun g h hp he=>fN hp he) (fun hF => ?_)
  refine aY (aw (aw (aE (aa (ae (aj (DZ Z (DZ Z (DZ Z ?_)))))))))
  refine stB Z Z Z (BuildK.cons Z Z Z (BuildK.cons Z Z Z (BuildK.cons Z Z Z (BuildK.nil (aH 1 Z Z Z Z (Ec (aa (aD ?_))))))))
  refine l7 ⟨(bs,sv0,cap0),rfl,hF⟩ Tryz.results41 (.cellW 1 Z Z H) ?_
  exact .keep DX (.drop (SubM.refl _))
end Tor
end
section
namespace Tor
open Go Go.RowKit Go.Proofs
attribute [local irreducible] J PJ aP one slT cv bA bM exT cq eP aW aU slV VT.le Ret bO
attribute [local irreducible] aO c8
theorem jG (n:Nat) (hn:n≤1048576):Ok Tryz.prog 39 [one (.int .i64 n)] (bG n n (fun i j=>if i=j then 1 else 0)):=by
 refine Ok.enter Tryz.func39 Z Tryz.ntmps39 Z (fun w O => ?_)
 refine ae (aj ?_)
 refine aF (T:=28) Z Z Z (fun b => ?_)
 refine Ec (aa (ae (aj (DZ Z (DZ Z ?_)))))
 refine di (jF n n hn hn) Z ⟨H,H,Ed⟩ Z Z (fun s => ?_)
 obtain ⟨⟨bs,sv1,cap1⟩,hlen,hsv⟩:=s
 simp only at hlen hsv
 unfold jE
 refine aF (T:=28) Z Z Z (fun b => ?_)
 refine aH 0 Z Z Z Z (Ec (aa (ae (ae (aj (Ea Z (Ec (aa (ar ?_)))))))))
 rename_i b2
 refine cC (σ:=Nat) (fun i => [(0,one (.int .i64 n)),(2,one (.pointer (some ⟨b2,0,none⟩))),(3,one (.pointer (some ⟨b,0,none⟩))),(4,one (.int .i64 (i:Nat)))])
  (fun i => [aW b 28 3 [(0, .one,one (.int .i64 n)),(1, .one,one (.int .i64 n)),(2, .one,one (slV sv1 n cap1))],fC sv1 cap1 n n bs,ew n bs (fun q k=>if q<i then (if q=k then 1 else 0) else 0),
   aW b2 28 3 (dt #[Value.int IntKind.i64 0,Value.int IntKind.i64 0,Value.slice none 0 0] [(0,Lay.one),(1,Lay.one),(2,Lay.one)])])
  (fun i=>i≤n) (fun i=>n - i) 0 (Nat.zero_le _) DV (.keep DX (.keep DX (.keep (e6 fun i j hi hj=>by simp) (SubM.refl _)))) (fun i hi => ?_)
 refine ae (ae (aj (DZ Z (DZ Z (DY (a7 Z Z) (Ec (aa ?_)))))))
 refine a4 Z (fun hc => ?_) (fun hc => ?_) <;> simp at hc
 ·obtain ⟨bo,rfl⟩ : ∃ bo,sv1=some bo:=by
   cases sv1 with
   | none => have := hsv Z; omega
   | some bo => exact ⟨bo, rfl⟩
  refine av (aa (ae (ar (aT 8 aS X S (DY (ah Z) (DY (ak 0 Z Z Z) (DZ Z ?_)))))))
  (refine DY (an Z Z ?_) ?_;omega)
  (refine DY (bk 1 Z Z ?_) ?_;omega)
  refine DZ Z ?_
  refine DY (am (fZ 1 S S) Z ⟨H,Ed⟩) ?_
  (refine DY (an Z Z ?_) ?_;omega)
  refine Ec ?_
  (refine fW 2 Z Z Z (nT ?_) ?_ Z ?_;omega;omega)
  refine Ec (aB (aa (aj (DZ Z ?_))))
  (refine DY (ck Z Z (aR ?_ ?_)) ?_;omega;omega)
  refine Ea Z (Ec ?_)
  refine bK (s:=i) (i+1) (show _ from by omega) Y DV (.keep DX (.keep DX (.keep (gA fun q k hq hk => ?_) (SubM.refl _))))
  unfold dT
  by_cases h:q=i
  ·subst h
   by_cases h2:k=q
   ·subst h2;simp
   ·have h3 : ¬ q=k:=fun e=>h2 e.symm
    simp [h2,h3]
  ·have h3:q<i+1↔q<i:=by omega
   simp [h,h3]
 ·have hin:i=n:=by omega
  subst hin
  refine aY (aw (aw (aE (aa (ae (aj (DY (ay 0 Z Z) (aH 3 Z Z Z Z (Ec ?_)))))))))
  refine aa (aD ?_)
  have hperm : ∀ (x y z u:Own), [x,y,z,u].Perm ([y,z] ++ [x,u]):=fun x y z u=>(List.Perm.swap y x _).trans (List.Perm.cons y (List.Perm.swap z x _))
  refine fD [fC sv1 cap1 i i bs,ew i bs (fun q k=>if q<i then (if q=k then 1 else 0) else 0)] (hperm _ _ _ _) (.keep (zY.refl _) (.keep (zY.box (eR hlen ⟨by simp,by simp,by simp⟩)) .nil)) (xD.refl _) ?_
  refine aK Tryz.results39 (.cellW 1 Z Z ?_)
  exact g8 fun a b ha hb=>by simp [ha]
end Tor
end
section
namespace Tor
open Go Go.RowKit Go.Proofs
def jY (k:IntKind) (l:List Int):VT:=slT .one l.length (fun i=>one (.int k (l.getD i 0)))
theorem eG {sv:Option Nat} {r:Nat} (h:sv=none→r=0) (hr:0<r) : ∃ b,sv=some b:=by
 cases sv with
 | none => have := h Z; omega
 | some b => exact ⟨b, rfl⟩
theorem pS (i c j:Nat):((i:Int)*c+j).toNat=i*c+j:=by
 have:((i:Int)*c+j)=((i*c+j:Nat):Int):=by simp
 rw [this,Int.toNat_natCast]
def gR (f:Nat→Int) (c i j:Nat):Nat→Nat→Int:=fun q k=>if q<i∨(q=i∧k<j) then f (q*c+k) else 0
theorem yb {l:List Int} {i:Nat} {p:Int→Prop} (h : ∀ x∈l,p x) (h0:p 0):p (l.getD i 0):=by
 rcases Nat.lt_or_ge i l.length with hi | hi
 ·simp only [List.getD,List.getElem?_eq_getElem hi,Option.getD_some]; exact h _ (List.getElem_mem hi)
 ·simp only [List.getD,List.getElem?_eq_none hi,Option.getD_none]; exact h0
theorem sR {T:TypeId} {c:Nat} {bs:List Nat} {f:Nat→Int} {i j:Nat} (x:Int) (hx:x=f (i*c+j)) :
  Own.le (c8 T (.agg 2) c bs (dT (fun q k=>aO (gR f c i j q k)) i j (aO x))) (c8 T (.agg 2) c bs (fun q k=>aO (gR f c i (j+1) q k))):=by
 subst hx
 refine gA fun q k hq hk => ?_
 unfold dT gR
 by_cases h:q=i∧k=j
 ·obtain ⟨rfl,rfl⟩:=h;simp
 ·rw [if_neg h]
  have e:(q<i∨q=i∧k<j+1)↔(q<i∨q=i∧k<j):=by omega
  simp only [e]
attribute [local irreducible] J PJ aP one slT cv bA bM exT cq eP aW aU slV VT.le Ret bO
attribute [local irreducible] aO c8
theorem yc (r c:Nat) (l:List Int) (hr0:r≤1048576) (hc0:c≤1048576) (hl : ∀ x∈l, -9223372036854775808≤x∧x≤9223372036854775807):Ok Tryz.prog 40 [one (.int .i64 r),one (.int .i64 c),jY .i64 l] (bG r c (fun i j=>l.getD (i*c+j) 0)):=by
 unfold jY
 refine Ok.enter Tryz.func40 Z Tryz.ntmps40 Z (fun w O => ?_)
 refine ae (aj ?_)
 refine aF (T:=28) Z Z Z (fun b => ?_)
 refine Ec (aa (ae (aj (DZ Z (DZ Z ?_)))))
 refine di (jF r c hr0 hc0) Z ⟨H,H,Ed⟩ Z Z (fun s => ?_)
 obtain ⟨⟨bs,sv1,cap1⟩,hlen,hsv⟩:=s
 simp only at hlen hsv
 unfold jE
 refine aF (T:=28) Z Z Z (fun b => ?_)
 refine aH 0 Z Z Z Z (Ec (aa (ae (ae (aj (Ea Z (Ec (aa (ar ?_)))))))))
 rename_i b2
 refine cC (σ:=Nat) (fun i => [(0,one (.int .i64 r)),(1,one (.int .i64 c)),(2,slT .one l.length (fun i=>one (.int .i64 (l.getD i 0)))),(6,one (.pointer (some ⟨b2,0,none⟩))),(7,one (.pointer (some ⟨b,0,none⟩))),(8,one (.int .i64 (i:Nat)))])
  (fun i => [aW b 28 3 [(0, .one,one (.int .i64 r)),(1, .one,one (.int .i64 c)),(2, .one,one (slV sv1 r cap1))],fC sv1 cap1 r c bs,ew c bs (gR (fun n=>l.getD n 0) c i 0),
   aW b2 28 3 (dt #[Value.int IntKind.i64 0,Value.int IntKind.i64 0,Value.slice none 0 0] [(0,Lay.one),(1,Lay.one),(2,Lay.one)])])
  (fun i=>i≤r) (fun i=>r - i) 0 (Nat.zero_le _) DV (.keep DX (.keep DX (.keep (e6 fun i j hi hj=>by simp [gR]) (SubM.refl _)))) (fun i hi => ?_)
 refine ae (ae (aj (DZ Z (DZ Z (DY (a7 Z Z) (Ec (aa ?_)))))))
 refine a4 Z (fun hc => ?_) (fun hc => ?_) <;> simp at hc
 ·have hir:i<r:=by omega
  obtain ⟨bo,rfl⟩:=eG hsv Y
  refine av (aa (ae (ar (ae (aj (Ea Z (Ec (aa (ar ?_)))))))))
  refine cC (σ:=Nat) (fun j => [(0,one (.int .i64 r)),(1,one (.int .i64 c)),(2,slT .one l.length (fun i=>one (.int .i64 (l.getD i 0)))),(6,one (.pointer (some ⟨b2,0,none⟩))),(7,one (.pointer (some ⟨b,0,none⟩))),(8,one (.int .i64 (i:Nat))),(9,one (.int .i64 (j:Nat)))])
   (fun j => [aW b 28 3 [(0, .one,one (.int .i64 r)),(1, .one,one (.int .i64 c)),(2, .one,one (slV (some bo) r cap1))],fC (some bo) cap1 r c bs,ew c bs (gR (fun n=>l.getD n 0) c i j),
   aW b2 28 3 (dt #[Value.int IntKind.i64 0,Value.int IntKind.i64 0,Value.slice none 0 0] [(0,Lay.one),(1,Lay.one),(2,Lay.one)])])
   (fun j=>j≤c) (fun j=>c - j) 0 (Nat.zero_le _) DV (SubM.refl _) (fun j hj => ?_)
  have hm:i*c≤1048576*1048576:=Nat.mul_le_mul Y hc0
  have hm2:(i:Int)*c≤1099511627776:=by omega
  have hm3:0≤(i:Int)*c:=by have:=Nat.zero_le (i*c);omega
  refine ae (ae ?_)
  refine gh (σ:=Unit) (fun _ => [(0,one (.int .i64 r)),(1,one (.int .i64 c)),(2,slT .one l.length (fun i=>one (.int .i64 (l.getD i 0)))),(6,one (.pointer (some ⟨b2,0,none⟩))),(7,one (.pointer (some ⟨b,0,none⟩))),(8,one (.int .i64 (i:Nat))),(9,one (.int .i64 (j:Nat))),(30,one (.bool (decide (j<c∧i*c+j<l.length))))])
   (fun _ => [aW b 28 3 [(0, .one,one (.int .i64 r)),(1, .one,one (.int .i64 c)),(2, .one,one (slV (some bo) r cap1))],fC (some bo) cap1 r c bs,ew c bs (gR (fun n=>l.getD n 0) c i j),
   aW b2 28 3 (dt #[Value.int IntKind.i64 0,Value.int IntKind.i64 0,Value.slice none 0 0] [(0,Lay.one),(1,Lay.one),(2,Lay.one)])]) (fun _=>True) ?_ (fun _ _ => ?_)
  ·refine aj (DZ Z (DZ Z (DY (a7 Z Z) (DZ Z ?_))))
   refine kY (t:=21) Z (fun b h1 => ?_)
   rw [h1]
   cases b
   ·simp at h1
    refine sg0 Z Z Z Z (sg0 Z Z Z Z (sg0 Z Z Z Z (sg0 Z Z Z Z (sg0 Z Z Z Z (sg0 Z Z Z Z (sg0 Z Z Z Z (sg0 Z Z Z Z (DY (a6 Z Z) (Ec ?_)))))))))
    refine dh () trivial (.cons Z H (.cons Z H (.cons Z H (.cons Z H (.cons Z H (.cons Z H (.cons Z H (.cons Z (ao ?_) .nil)))))))) (SubM.refl _)
    congr 1;symm;rw [decide_eq_false_iff_not]; omega
   ·simp at h1
    refine Eb (ab Z) (Eb (ab Z) ?_)
    (refine Eb (nG Z Z (aR ?_ ?_)) ?_;omega;omega)
    refine Eb (ab Z) ?_
    (refine Eb (ck Z Z (aR ?_ ?_)) ?_;omega;omega)
    refine Eb (ab Z) (Eb (aZ Z) (Eb (a7 Z Z) (DY (aV Z Z) (Ec ?_))))
    refine dh () trivial (.cons Z H (.cons Z H (.cons Z H (.cons Z H (.cons Z H (.cons Z H (.cons Z H (.cons Z (ao ?_) .nil)))))))) (SubM.refl _)
    congr 1;rw [decide_eq_decide]
    have:((i*c:Nat):Int)=(i:Int)*c:=by simp
    omega
  ·refine aa ?_
   refine a4 Z (fun hc2 => ?_) (fun hc2 => ?_) <;> simp only [decide_eq_true_eq,decide_eq_false_iff_not] at hc2
   ·have hm4:((i*c:Nat):Int)=(i:Int)*c:=by simp
    refine av (aa (ae (ar (aT 16 aS X S (DY (ah Z) (DY (ak 0 Z Z Z) (DZ Z ?_)))))))
    (refine DY (an Z Z ?_) ?_;omega)
    (refine DY (bk 1 Z Z ?_) ?_;omega)
    refine DZ Z (DZ Z (DZ Z (DZ Z ?_)))
    (refine DY (nG Z Z (aR ?_ ?_)) ?_;omega;omega)
    refine DZ Z ?_
    (refine DY (ck Z Z (aR ?_ ?_)) ?_;omega;omega)
    (refine DY (ax Z Z ?_) ?_;omega)
    refine DY (aJ Z) ?_
    have hv:=yb (i:=((i:Int)*c+j).toNat) hl S
    refine DY (am (fZ _ hv.1 hv.2) Z ⟨H,Ed⟩) ?_
    (refine DY (an Z Z ?_) ?_;omega)
    refine Ec ?_
    (refine fW 2 Z Z Z (nT ?_) ?_ Z ?_;omega;omega)
    refine Ec (aB (aa (aj (DZ Z ?_))))
    (refine DY (ck Z Z (aR ?_ ?_)) ?_;omega;omega)
    refine Ea Z (Ec ?_)
    refine bK (s:=j) (j+1) (show _ from by omega) Y DV (.keep DX (.keep DX (.keep (sR _ (by rw [pS])) (SubM.refl _))))
   ·refine aY (aw (aw (aE (aB (aa (aj (DZ Z ?_)))))))
    (refine DY (ck Z Z (aR ?_ ?_)) ?_;omega;omega)
    refine Ea Z (Ec ?_)
    refine bK (s:=i) (i+1) (show _ from by omega) Y DV (.keep DX (.keep DX (.keep (e6 fun q k hq hk => ?_) (SubM.refl _))))
    unfold gR
    by_cases h:q<i∨(q=i∧k<j)
    ·rw [if_pos h,if_pos Y]
    ·rw [if_neg h]
     by_cases h2:q=i
     ·subst h2;rw [if_pos Y]
      have:l.length≤q*c+k:=by omega
      simp [List.getD,List.getElem?_eq_none this]
     ·rw [if_neg Y]
 ·have hin:i=r:=by omega
  subst hin
  refine aY (aw (aw (aE (aa (ae (aj (DY (ay 0 Z Z) (aH 3 Z Z Z Z (Ec ?_)))))))))
  refine aa (aD ?_)
  have hperm : ∀ (x y z u:Own), [x,y,z,u].Perm ([y,z] ++ [x,u]):=fun x y z u=>(List.Perm.swap y x _).trans (List.Perm.cons y (List.Perm.swap z x _))
  refine fD [fC sv1 cap1 i c bs,ew c bs (gR (fun n=>l.getD n 0) c i 0)] (hperm _ _ _ _) (.keep (zY.refl _) (.keep (zY.box (eR hlen ⟨by simp,by simp,by simp⟩)) .nil)) (xD.refl _) ?_
  refine aK Tryz.results40 (.cellW 1 Z Z ?_)
  exact g8 fun a b ha hb=>by simp [gR,ha]
end Tor
end
section
namespace Tor
open Go Go.RowKit Go.Proofs
theorem B7 (x:Int) : -10<x.tmod 10∧x.tmod 10<10:=⟨by
 have:=Int.tmod_lt_of_pos (-x) (show (0:Int)<10 by decide)
 rw [Int.neg_tmod] at this;omega,Int.tmod_lt_of_pos x S⟩
def dig (l:List Int) (n:Nat):Int:=(l.getD n 0).tmod 10
attribute [local irreducible] J PJ aP one slT cv bA bM exT cq eP aW aU slV VT.le Ret bO
attribute [local irreducible] aO c8
theorem nK (r c:Nat) (l:List Int) (hr0:r≤16) (hc0:c≤16):OkM Tryz.prog 43 [one (.int .i64 r),one (.int .i64 c),jY .i8 l] (jE r c) (fun s => [fC s.1.2.1 s.1.2.2 r c s.1.1,ew c s.1.1 (fun i j=>dig l (i*c+j))]):=by
 unfold jY
 refine OkM.enter Tryz.func43 Z Tryz.ntmps43 Z (fun w O => ?_)
 refine ae (aj ?_)
 refine aF (T:=28) Z Z Z (fun b => ?_)
 refine Ec (aa (ae (aj (DZ Z (DY (om Z Z) (DY (Bq Z Z) (DZ Z (DY (om Z Z) (DY (Bq Z Z) ?_)))))))))
 refine di (jF r c Y Y) Z ⟨ao (by congr 1;omega),ao (by congr 1;omega),Ed⟩ Z Z (fun s => ?_)
 obtain ⟨⟨bs,sv1,cap1⟩,hlen,hsv⟩:=s
 simp only at hlen hsv
 unfold jE
 refine aF (T:=28) Z Z Z (fun b => ?_)
 refine aH 0 Z Z Z Z (Ec (aa (ae (ae (aj (Ea Z (Ec (aa (ar ?_)))))))))
 rename_i b2
 refine cC (σ:=Nat) (fun i => [(2,slT .one l.length (fun i=>one (.int .i8 (l.getD i 0)))),(6,one (.pointer (some ⟨b2,0,none⟩))),(7,one (.pointer (some ⟨b,0,none⟩))),(8,one (.int .i64 (i:Nat)))])
  (fun i => [aW b 28 3 [(0, .one,one (.int .i64 r)),(1, .one,one (.int .i64 c)),(2, .one,one (slV sv1 r cap1))],fC sv1 cap1 r c bs,ew c bs (gR (dig l) c i 0),
   aW b2 28 3 (dt #[Value.int IntKind.i64 0,Value.int IntKind.i64 0,Value.slice none 0 0] [(0,Lay.one),(1,Lay.one),(2,Lay.one)])])
  (fun i=>i≤r) (fun i=>r - i) 0 (Nat.zero_le _) DV (.keep DX (.keep DX (.keep (e6 fun i j hi hj=>by simp [gR]) (SubM.refl _)))) (fun i hi => ?_)
 refine ae (ae (aj (DZ Z (DY (ah Z) (DY (ak 0 Z Z Z) (DY (a7 Z Z) (Ec (aa ?_))))))))
 refine a4 Z (fun hc => ?_) (fun hc => ?_) <;> simp at hc
 ·have hir:i<r:=by omega
  obtain ⟨bo,rfl⟩:=eG hsv Y
  refine av (aa (ae (ar (ae (aj (Ea Z (Ec (aa (ar ?_)))))))))
  refine cC (σ:=Nat) (fun j => [(2,slT .one l.length (fun i=>one (.int .i8 (l.getD i 0)))),(6,one (.pointer (some ⟨b2,0,none⟩))),(7,one (.pointer (some ⟨b,0,none⟩))),(8,one (.int .i64 (i:Nat))),(9,one (.int .i64 (j:Nat)))])
   (fun j => [aW b 28 3 [(0, .one,one (.int .i64 r)),(1, .one,one (.int .i64 c)),(2, .one,one (slV (some bo) r cap1))],fC (some bo) cap1 r c bs,ew c bs (gR (dig l) c i j),
   aW b2 28 3 (dt #[Value.int IntKind.i64 0,Value.int IntKind.i64 0,Value.slice none 0 0] [(0,Lay.one),(1,Lay.one),(2,Lay.one)])])
   (fun j=>j≤c) (fun j=>c - j) 0 (Nat.zero_le _) DV (SubM.refl _) (fun j hj => ?_)
  have hm:i*c≤16*16:=Nat.mul_le_mul Y hc0
  have hm2:(i:Int)*c≤256:=by omega
  have hm3:0≤(i:Int)*c:=by have:=Nat.zero_le (i*c);omega
  refine ae (ae ?_)
  refine gh (σ:=Unit) (fun _ => [(2,slT .one l.length (fun i=>one (.int .i8 (l.getD i 0)))),(6,one (.pointer (some ⟨b2,0,none⟩))),(7,one (.pointer (some ⟨b,0,none⟩))),(8,one (.int .i64 (i:Nat))),(9,one (.int .i64 (j:Nat))),(37,one (.bool (decide (j<c∧i*c+j<l.length))))])
   (fun _ => [aW b 28 3 [(0, .one,one (.int .i64 r)),(1, .one,one (.int .i64 c)),(2, .one,one (slV (some bo) r cap1))],fC (some bo) cap1 r c bs,ew c bs (gR (dig l) c i j),
   aW b2 28 3 (dt #[Value.int IntKind.i64 0,Value.int IntKind.i64 0,Value.slice none 0 0] [(0,Lay.one),(1,Lay.one),(2,Lay.one)])]) (fun _=>True) ?_ (fun _ _ => ?_)
  ·refine aj (DZ Z (DY (ah Z) (DY (ak 0 Z Z Z) (DY (a7 Z Z) (DZ Z ?_)))))
   refine kY (t:=27) Z (fun b h1 => ?_)
   rw [h1]
   cases b
   ·simp at h1
    refine sg0 Z Z Z Z (sg0 Z Z Z Z (sg0 Z Z Z Z (sg0 Z Z Z Z (sg0 Z Z Z Z (sg0 Z Z Z Z (sg0 Z Z Z Z (sg0 Z Z Z Z (sg0 Z Z Z Z (DY (a6 Z Z) ?_)))))))))
    refine Ec ?_
    refine dh () trivial (.cons Z H (.cons Z H (.cons Z H (.cons Z H (.cons Z H (.cons Z (ao ?_) .nil)))))) (SubM.refl _)
    congr 1;symm;rw [decide_eq_false_iff_not]; omega
   ·simp at h1
    refine Eb (ab Z) (Eb (ah Z) (Eb (ak 0 Z Z Z) ?_))
    (refine Eb (nG Z Z (aR ?_ ?_)) ?_;omega;omega)
    refine Eb (ab Z) ?_
    (refine Eb (ck Z Z (aR ?_ ?_)) ?_;omega;omega)
    refine Eb (ab Z) (Eb (aZ Z) (Eb (a7 Z Z) (DY (aV Z Z) (Ec ?_))))
    refine dh () trivial (.cons Z H (.cons Z H (.cons Z H (.cons Z H (.cons Z H (.cons Z (ao ?_) .nil)))))) (SubM.refl _)
    congr 1;rw [decide_eq_decide]
    have:((i*c:Nat):Int)=(i:Int)*c:=by simp
    omega
  ·refine aa ?_
   refine a4 Z (fun hc2 => ?_) (fun hc2 => ?_) <;> simp only [decide_eq_true_eq,decide_eq_false_iff_not] at hc2
   ·have hm4:((i*c:Nat):Int)=(i:Int)*c:=by simp
    refine av (aa (ae (ar (aT 19 aS X S (DY (ah Z) (DY (ak 0 Z Z Z) (DZ Z ?_)))))))
    (refine DY (an Z Z ?_) ?_;omega)
    (refine DY (bk 1 Z Z ?_) ?_;omega)
    refine DZ Z (DZ Z (DZ Z (DY (ah Z) (DY (ak 0 Z Z Z) ?_))))
    (refine DY (nG Z Z (aR ?_ ?_)) ?_;omega;omega)
    refine DZ Z ?_
    (refine DY (ck Z Z (aR ?_ ?_)) ?_;omega;omega)
    (refine DY (ax Z Z ?_) ?_;omega)
    refine DY (aJ Z) (DY (jX Z Z S Z) ?_)
    have hv:=B7 (l.getD (i*c+j) 0)
    refine DY (eZ Z ?_ ?_) ?_; · omega
    ·omega
    refine DY (am (fZ _ Y Y) Z ⟨H,Ed⟩) ?_
    (refine DY (an Z Z ?_) ?_;omega)
    refine Ec ?_
    (refine fW 2 Z Z Z (nT ?_) ?_ Z ?_;omega;omega)
    refine Ec (aB (aa (aj (DZ Z ?_))))
    (refine DY (ck Z Z (aR ?_ ?_)) ?_;omega;omega)
    refine Ea Z (Ec ?_)
    refine bK (s:=j) (j+1) (show _ from by omega) Y DV (.keep DX (.keep DX (.keep (sR _ Z) (SubM.refl _))))
   ·refine aY (aw (aw (aE (aB (aa (aj (DZ Z ?_)))))))
    (refine DY (ck Z Z (aR ?_ ?_)) ?_;omega;omega)
    refine Ea Z (Ec ?_)
    refine bK (s:=i) (i+1) (show _ from by omega) Y DV (.keep DX (.keep DX (.keep (e6 fun q k hq hk => ?_) (SubM.refl _))))
    unfold gR
    by_cases h:q<i∨(q=i∧k<j)
    ·rw [if_pos h,if_pos Y]
    ·rw [if_neg h]
     by_cases h2:q=i
     ·subst h2;rw [if_pos Y]
      have:l.length≤q*c+k:=by omega
      simp [dig,List.getD,List.getElem?_eq_none this]
     ·rw [if_neg Y]
 ·have hin:i=r:=by omega
  subst hin
  refine aY (aw (aw (aE (aa (ae (aj (DY (ay 0 Z Z) (aH 3 Z Z Z Z (Ec ?_)))))))))
  refine aa (aD ?_)
  refine l7 ⟨(bs,sv1,cap1),hlen,hsv⟩ Tryz.results43 (.cellW 3 Z Z ?_) ?_
  ·show VT.le _ (jE i c _)
   unfold jE
   exact VT.le_refl _
  ·refine .drop (.keep DX (.keep (e6 fun a b ha hb => ?_) (.drop .nil)))
   have:a<i:=by have:a<bs.length:=ha;omega
   simp [gR,this]
theorem oW {r c:Nat} (F:Nat→Nat→Int) (s:CZ r):Ent [fC s.1.2.1 s.1.2.2 r c s.1.1,ew c s.1.1 F] (jE r c s) (bG r c F):=by
 unfold jE bG
 exact Ent.agg (eR s.2.1 ⟨by simp,by simp,by simp⟩)
theorem un (r c:Nat) (l:List Int) (hr0:r≤16) (hc0:c≤16):Ok Tryz.prog 43 [one (.int .i64 r),one (.int .i64 c),jY .i8 l] (bG r c (fun i j=>dig l (i*c+j))) :=
 (nK r c l hr0 hc0).ok fun s=>oW _ s
end Tor
end
section
namespace Tor
open Go Go.RowKit Go.Proofs
instance {neg:Bool} {l:List Nat} : Flat (lH neg l) (.agg 2):=by unfold lH;infer_instance
theorem uo {neg:Bool} {l:List Nat} {v:Value} {h:Hp} (DS:(lH neg l).p v h):l.length≤281474976710656:=by
 obtain ⟨c,_,_,_,h4⟩:=DS
 obtain ⟨x,_,hp⟩:=h4 _ (List.mem_cons_of_mem _ List.mem_cons_self)
 exact fm hp
theorem pT {r c:Int} {a:List sQ} {v:Value} {h:Hp} (DS:(g7 r c a).p v h):a.length≤2^48:=by
 obtain ⟨c,_,_,_,h4⟩:=DS
 obtain ⟨x,_,hp⟩:=h4 _ (List.mem_cons_of_mem _ (List.mem_cons_of_mem _ List.mem_cons_self))
 exact fm hp
def gn (r c:Nat) (F:Nat→Nat→Int):List sQ:=(tab r c F).map (·.map lj)
theorem sS (r c:Nat) (F:Nat→Nat→Int):VT.le (bG r c F) (g7 r c (gn r c F)):=by
 refine VT.le_trans (oV r c F) ?_
 unfold wR g7
 refine eY (fun q hq => ?_)
 rcases List.mem_cons.1 hq with rfl | hq
 ·exact ⟨_,List.mem_cons_self,H⟩
 rcases List.mem_cons.1 hq with rfl | hq
 ·exact ⟨_,List.mem_cons_of_mem _ List.mem_cons_self,H⟩
 rcases List.mem_cons.1 hq with rfl | hq
 ·refine ⟨_,List.mem_cons_of_mem _ (List.mem_cons_of_mem _ List.mem_cons_self),?_⟩
  unfold oT d8 gn
  refine VT.le_trans (er (ψ:=fun i=>ea (((tab r c F).map (·.map lj)).getD i [])) (fun i hi => ?_)) (lh (by simp))
  refine VT.le_trans (sP _) (lh ?_)
  simp [List.getD,List.getElem?_eq_getElem hi]
 ·cases hq
theorem oX (r c:Nat) (F:Nat→Nat→Int):eU r c (gn r c F)=true:=by
 unfold eU gn
 simp only [List.length_map,tab_length,Bool.and_eq_true,decide_eq_true_eq,List.all_map]
 refine ⟨⟨by omega,by omega,Ed⟩,?_⟩
 rw [List.all_eq_true]
 intro x hx
 simp only [tab,List.mem_map,List.mem_range] at hx
 obtain ⟨i,hi,rfl⟩:=hx
 simp only [ga,Function.comp,List.length_map,List.length_range,List.all_map,Bool.and_eq_true,decide_eq_true_eq]
 refine ⟨trivial,?_⟩
 rw [List.all_eq_true]
 intro y hy
 exact um _
attribute [local irreducible] J PJ aP one slT cv bA bM exT cq eP aW aU slV VT.le Ret bO
theorem yd (neg:Bool) (l:List Nat):Ok Tryz.prog 77 [lH neg l] (one (.bool (fJ neg l))):=by
 refine Ok.enter Tryz.func77 Z Tryz.ntmps77 Z (fun w O => ?_)
 refine iX (t:=0) Z (fun _ _=>uo) (fun hl => ?_)
 unfold lH
 by_cases h0:l.length=0
 ·refine ae (aj ?_)
  refine aM Z Z (ltN Z) (fun b => ?_)
  refine Ea Z (Ec (aa (ae (ae (aj (DY (ah Z) (DY (ak 0 Z Z Z) (DY (aZ Z) (Ea Z ?_)))))))))
  refine Ec (aa (ae (aj (DZ Z (DY (ej Z Z) (Ec (aa ?_)))))))
  refine a4 Z (fun hc => ?_) (fun hc => ?_) <;> simp only [decide_eq_true_eq,decide_eq_false_iff_not,ne_eq,Decidable.not_not] at hc
  ·omega
  ·refine av (aa (ae (aj (DY (ah Z) (DY (ak 0 Z Z Z) (DY (bF Z) (Ea Z (Ec (aa ?_)))))))))
   refine aD ?_
   exact aK Tryz.results77 (.tmp Z (ao (by unfold fJ;rw [if_pos h0])))
 ·refine ae (aj ?_)
  refine aM Z Z (ltN Z) (fun b => ?_)
  refine Ea Z (Ec (aa (ae (ae (aj (DY (ah Z) (DY (ak 0 Z Z Z) (DY (aZ Z) (Ea Z ?_)))))))))
  refine Ec (aa (ae (aj (DZ Z (DY (ej Z Z) (Ec (aa ?_)))))))
  refine a4 Z (fun hc => ?_) (fun hc => ?_) <;> simp only [decide_eq_true_eq,decide_eq_false_iff_not,ne_eq,Decidable.not_not] at hc
  ·refine ae (aj (DY (ah Z) (DY (ak 0 Z Z Z) (DZ Z ?_))))
   (refine DY (e9 Z Z (aR ?_ ?_)) ?_;omega;omega)
   (refine DY (ei Z Z ?_ ?_) ?_;omega;omega)
   refine DY (aJ Z) (DY (cE Z Z) (Ea Z (Ec (aa (aD (aI ?_))))))
   refine aK Tryz.results77 (.tmp Z (ao ?_))
   have e:(↑l.length - 1:Int).toNat=l.length - 1:=by omega
   unfold fJ;rw [if_neg h0,e]; congr 1;rw [decide_eq_decide]; omega
  ·omega
attribute [local irreducible] aO lH
attribute [local irreducible] ea
theorem nL (r c:Int) (a:List sQ):Ok Tryz.prog 44 [g7 r c a] (one (.bool (eU r c a))):=by
 refine Ok.enter Tryz.func44 Z Tryz.ntmps44 Z (fun w O => ?_)
 refine iX (t:=0) Z (fun _ _=>pT) (fun ha => ?_)
 unfold g7
 unfold d8
 refine ae (aj ?_)
 refine aM Z Z (ltN Z) (fun b => ?_)
 refine Ea Z (Ec (aa (ae (ae (aj (DY (ah Z) (DY (ak 0 Z Z Z) (DY (a7 Z Z) (DZ Z ?_)))))))))
 refine kY (t:=10) Z (fun bo hb => ?_)
 rw [hb]
 cases bo
 ·have e1:0≤r:=by simpa using hb
  refine Eb (ah Z) (Eb (ak 0 Z Z Z) (Eb (a7 Z Z) (DY (a6 Z Z) (DZ Z ?_))))
  refine kY (t:=15) Z (fun bo hb2 => ?_)
  rw [hb2]
  cases bo
  ·have e2:0≤c:=by simpa using hb2
   refine Eb (ah Z) (Eb (ak 0 Z Z Z) (Eb (aZ Z) (Eb (ah Z) (Eb (ak 0 Z Z Z) (Eb (cE Z Z) (DY (a6 Z Z) (Ec (aa ?_))))))))
   refine a4 Z (fun hc => ?_) (fun hc => ?_) <;> simp only [decide_eq_true_eq,decide_eq_false_iff_not,ne_eq,Decidable.not_not] at hc
   ·refine ae (aj (Ea Z (Ec (aa (aD (aI ?_))))))
    refine aK Tryz.results44 (.tmp Z (ao ?_))
    simp [eU,hc]
   ·have e3:(a.length:Int)=r:=hc
    refine av (aa (ae (ae (aj (DY (ah Z) (DY (ak 0 Z Z Z) (DY (aZ Z) (DZ Z (Ec ?_)))))))))
    refine aa (ar ?_)
    refine cC (σ:=Nat) (fun i => [(1,one (.pointer (some ⟨b,0,none⟩))),(24,d8 a),(25,one (.int .i64 a.length)),(26,one (.int .i64 (i:Nat)))])
     (fun _ => [aW b 28 3 [(0, .one,one (.int .i64 r)),(1, .one,one (.int .i64 c)),(2, .one,d8 a)]])
     (fun i=>i≤a.length∧(a.take i).all (ga c)=true) (fun i=>a.length - i) 0 ⟨Nat.zero_le _,rfl⟩ DV (SubM.refl _) (fun i ⟨hi,ht⟩ => ?_)
    unfold d8
    refine ae (aj (DY (a7 Z Z) (Ec (aa (ae ?_)))))
    refine a4 Z (fun hc => ?_) (fun hc => ?_) <;> simp at hc
    ·refine av (aa (ae (ar (ae (aj ?_)))))
     (refine DY (ax Z Z ?_) ?_;omega)
     refine DY (aJ Z) (Ea Z (Ec (aa (ae (ae (aj (DZ Z ?_)))))))
     unfold ea
     refine DY (aZ Z) (DY (ah Z) (DY (ak 0 Z Z Z) (DY (cE Z Z) (Ec (aa ?_)))))
     refine a4 Z (fun hc2 => ?_) (fun hc2 => ?_) <;> simp only [decide_eq_true_eq,decide_eq_false_iff_not,ne_eq,Decidable.not_not] at hc2
     ·refine ae (aj (Ea Z (Ec (aa (aD (aI (a9 (aI (aI ?_)))))))))
      refine a9 (aI ?_)
      refine aK Tryz.results44 (.tmp Z (ao ?_))
      have:=lI (p:=ga c) (d := []) hc (by simp only [ga,Bool.and_eq_false_iff]; left;simpa using hc2)
      simp [eU,this]
     ·refine iX (t:=29) Z (fun _ _=>fm) (fun hlb => ?_)
      refine av (aa (ae (aj (DZ Z (DY (aZ Z) (DZ Z (Ec (aa (ar ?_)))))))))
      refine cC (σ:=Nat) (fun j => [(1,one (.pointer (some ⟨b,0,none⟩))),(24,d8 a),(25,one (.int .i64 a.length)),(26,one (.int .i64 (i:Nat))),(35,ea (a.getD i [])),(36,one (.int .i64 (a.getD i []).length)),(37,one (.int .i64 (j:Nat)))])
       (fun _ => [aW b 28 3 [(0, .one,one (.int .i64 r)),(1, .one,one (.int .i64 c)),(2, .one,d8 a)]])
       (fun j=>j≤(a.getD i []).length∧((a.getD i []).take j).all (fun p=>fJ p.1 p.2)=true) (fun j=>(a.getD i []).length - j) 0 ⟨Nat.zero_le _,rfl⟩ (by unfold d8 ea;repeat (first | exact fU.nil | refine fU.cons Z H ?_ | (refine fU.cons Z (ao ?_) ?_;(congr 1;first | omega | (simp;omega) | simp)))) (by unfold d8 ea;exact SubM.refl _) (fun j ⟨hj,hu⟩ => ?_)
      unfold d8 ea
      refine ae (aj (DY (a7 Z Z) (Ec (aa (ae ?_)))))
      refine a4 Z (fun hc3 => ?_) (fun hc3 => ?_) <;> simp only [decide_eq_true_eq,decide_eq_false_iff_not,Int.ofNat_lt] at hc3
      ·refine av (aa (ae (ar (ae (aj ?_)))))
       (refine DY (ax Z Z ?_) ?_;omega)
       refine DY (aJ Z) ?_
       refine aX (T:=43) Z (ltN Z) (fun b => ?_)
       refine aC 0 Z Z Z Z Z (leN Z) Z (Ec (aa (ae (aj (DY (ak 0 Z Z Z) ?_)))))
       refine DY (am (yd ((a.getD i []).getD j (false, [])).1 ((a.getD i []).getD j (false, [])).2) Z ⟨H,Ed⟩) ?_
       refine DY (bF Z) (Ec (aa ?_))
       refine a4 Z (fun hc4 => ?_) (fun hc4 => ?_)
       ·refine ae (aj (Ea Z (Ec (aa (aD (a9 (aI (aI (a9 ?_)))))))))
        refine a9 (aI (aI (a9 (aI ?_))))
        refine aK Tryz.results44 (.tmp Z (ao ?_))
        have h1:=lI (p:=fun p:Bool × List Nat=>fJ p.1 p.2) (d:=(false, [])) (v:=a.getD i []) hc3 (by simpa using hc4)
        have h2:=lI (p:=ga c) (d := []) hc (by simp only [ga,Bool.and_eq_false_iff]; right;exact h1)
        simp [eU,h2]
       ·refine av (aB (aa (aj ?_)))
        (refine DY (ck Z Z (aR ?_ ?_)) ?_;omega;omega)
        refine DZ Z (Ec ?_)
        exact bK (s:=j) (j+1) ⟨by omega,mp (d:=(false, [])) hu hc3 (by simpa using hc4)⟩ (by show (a.getD i []).length - (j+1)<(a.getD i []).length - j;omega) DV (.drop (SubM.refl _))
      ·refine aY (aw (aw (aE (aB (aa (aj ?_))))))
       (refine DY (ck Z Z (aR ?_ ?_)) ?_;omega;omega)
       refine DZ Z (Ec ?_)
       rw [List.take_of_length_le Y] at hu
       exact bK (s:=i) (i+1) ⟨by omega,mp (d := []) ht hc (by simp only [ga,Bool.and_eq_true]; exact ⟨by simpa using hc2,hu⟩)⟩ (by show a.length - (i+1)<a.length - i;omega) DV (SubM.refl _)
    ·refine aY (aw (aw (aE (aa (ae (aj (Ea Z (Ec (aa ?_)))))))))
     refine aD ?_
     refine aK Tryz.results44 (.tmp Z (ao ?_))
     rw [List.take_of_length_le Y] at ht
     simp [eU,ht,e1,e2,e3]
  ·have e2 : ¬ (0≤r∧0≤c):=by simp at hb2;omega
   refine sg0 Z Z Z Z (sg0 Z Z Z Z (sg0 Z Z Z Z (sg0 Z Z Z Z (sg0 Z Z Z Z (sg0 Z Z Z Z (DY (aV Z Z) (Ec (aa ?_))))))))
   refine a4 Z (fun hc => ?_) (fun hc => ?_)
   ·refine ae (aj (Ea Z (Ec (aa (aD (aI ?_))))))
    refine aK Tryz.results44 (.tmp Z (ao ?_))
    simp only [eU]; rw [decide_eq_false Y]; rfl
   ·cases hc
 ·have e1 : ¬ 0≤r:=by simpa using hb
  refine sg0 Z Z Z Z (sg0 Z Z Z Z (sg0 Z Z Z Z (DY (aV Z Z) (DZ Z (sg0 Z Z Z Z (sg0 Z Z Z Z (sg0 Z Z Z Z (sg0 Z Z Z Z (sg0 Z Z Z Z ?_)))))))))
  refine sg0 Z Z Z Z (DY (aV Z Z) (Ec (aa ?_)))
  refine a4 Z (fun hc => ?_) (fun hc => ?_)
  ·refine ae (aj (Ea Z (Ec (aa (aD (aI ?_))))))
   refine aK Tryz.results44 (.tmp Z (ao ?_))
   simp [eU,e1]
  ·cases hc
end Tor
end
section
namespace Tor
open Go Go.RowKit Go.Proofs
def bJ (x:Int):Prop:=(aL x.natAbs).length≤1099511627776
theorem gb {x:Int} (h:x.natAbs<2^2048):bJ x:=by
 have:(aL x.natAbs).length≤64:=cG (Nat.lt_of_lt_of_le h W)
 unfold bJ;omega
theorem gv (x y:Int) (hx:bJ x) (hy:bJ y):Ok Tryz.prog 88 [aO x,aO y] (aO (x+y)):=by
 have h:=x6 (decide (x<0)) (decide (y<0)) x.natAbs y.natAbs hx hy
 rw [fH,fH] at h
 exact h.le ⟨eF _,eF _,Ed⟩ H
theorem mq (x y:Int) (hx:bJ x) (hy:bJ y):Ok Tryz.prog 82 [aO x,aO y] (aO (x - y)):=by
 have h:=B4 (decide (x<0)) (decide (y<0)) x.natAbs y.natAbs hx hy
 rw [fH,fH] at h
 exact h.le ⟨eF _,eF _,Ed⟩ H
theorem dM (x y:Int) (hx:bJ x) (hy:bJ y):Ok Tryz.prog 80 [aO x,aO y] (aO (x*y)):=by
 have h:=B5 (decide (x<0)) (decide (y<0)) x.natAbs y.natAbs hx hy
 rw [fH,fH] at h
 exact h.le ⟨eF _,eF _,Ed⟩ H
theorem iA (x:Int):Ok Tryz.prog 83 [aO x] (one (.int .i64 (dQ x))):=by
 have h:=rd (decide (x<0)) x.natAbs
 rw [fH] at h
 exact h.le ⟨eF _,Ed⟩ H
theorem rh (x y:Int):Ok Tryz.prog 87 [aO x,aO y] (one (.int .i64 (fp x y))):=by
 have h:=B6 (decide (x<0)) (decide (y<0)) x.natAbs y.natAbs
 rw [fH,fH] at h
 exact h.le ⟨eF _,eF _,Ed⟩ H
theorem iB (x y:Int) (hx:bJ x) (hy:bJ y):Ok Tryz.prog 59 [aO x,aO y] (aO (x+y)):=by
 have h:=Ad (decide (x<0)) (decide (y<0)) x.natAbs y.natAbs hx hy
 rw [fH,fH] at h
 exact h.le ⟨eF _,eF _,Ed⟩ H
theorem dR (x y:Int) (hx:bJ x) (hy:bJ y):Ok Tryz.prog 58 [aO x,aO y] (aO (x*y)):=by
 have h:=Ae (decide (x<0)) (decide (y<0)) x.natAbs y.natAbs hx hy
 rw [fH,fH] at h
 exact h.le ⟨eF _,eF _,Ed⟩ H
def cX (x:Int):Prop:=x.natAbs≤2^400
theorem ye {x y:Int} (hx:cX x) (hy:cX y):(x*y).natAbs≤2^800:=by
 rw [Int.natAbs_mul]
 exact Nat.le_trans (Nat.mul_le_mul hx hy) W
theorem sU {x:Int} {n:Nat} (h:x.natAbs≤n) (hn:n<2^2048):bJ x:=gb (Nat.lt_of_le_of_lt h hn)
theorem bE {x:Int} (hx:cX x):bJ x:=sU hx W
def dA (x:Int):Prop:=(aL x.natAbs).length≤274877906944
theorem cX.L {x:Int} (h:cX x):dA x:=Nat.le_trans (cG (k:=64) (Nat.lt_of_le_of_lt h W)) S
theorem cI {x:Int} (h:dA x):bJ x:=Nat.le_trans h S
theorem B8 {x:Int} {k:Nat} (h:(aL x.natAbs).length≤k):x.natAbs<4294967296^k:=Nat.lt_of_lt_of_le (da _) (Nat.pow_le_pow_right S h)
theorem yf {x y:Int} {j k:Nat} (hx:(aL x.natAbs).length≤j) (hy:(aL y.natAbs).length≤k):(aL (x*y).natAbs).length≤j+k:=cG (by
 rw [Int.natAbs_mul,Nat.pow_add]
 have h1:=B8 hx
 have h2:=B8 hy
 exact Nat.lt_of_le_of_lt (Nat.mul_le_mul_left _ (Nat.le_of_lt h2)) (Nat.mul_lt_mul_of_pos_right h1 (Nat.pow_pos S)))
theorem mr {x y:Int} (hx:dA x) (hy:dA y):(aL (x*y).natAbs).length≤549755813888:=yf hx hy
theorem jk {x y:Int} (hx:dA x) (hy:dA y):bJ (x*y):=Nat.le_trans (mr hx hy) S
theorem wS:bJ 1:=gb W
theorem kM {x:Int} (h:bJ x):bJ (-x):=by unfold bJ at *; rw [Int.natAbs_neg]; exact h
theorem ri (φ:VT):VT.le φ bO:=fun _ _ _=>trivial
instance {neg:Bool} {l:List Nat} : Flat (lH neg l) (.agg 2):=by unfold lH;infer_instance
attribute [local irreducible] J PJ aP one slT cv bA bM exT cq eP aW aU slV VT.le Ret bO
theorem kp (l:List Nat) (hl:l.length≤1099511627776):Ok Tryz.prog 121 [cr l] (cr l):=by
 unfold cr
 refine Ok.enter Tryz.func121 Z Tryz.ntmps121 Z (fun w O => ?_)
 refine ae (aj (Ea Z (Ec (aa (ae (ae (aj (DZ Z (DY (vn Z) ?_)))))))))
 refine Ec (aa ?_)
 refine zU (t:=4) Z (fun b => ?_)
 refine vf (t:=4) Z (fun hb => ?_)
 refine a4 Z (fun hc => ?_) (fun hc => ?_)
 ·have h0:=hb hc
  refine ae (aj (Ea Z (Ec (aa (aD (aI ?_))))))
  refine aK Tryz.results121 (.tmp Z (by (rw [h0]; exact gV)))
 ·refine av (aa (ae (aj (kZ (n:=0) Z Z Z Z Z ?_))))
  refine PartsK.nil (fun bl => ?_)
  refine DZ Z ?_
  (refine de 0 Z Z Z (leN Z) ?_ ?_ Z (ltN Z) (fun sv7 cap7 => ?_);omega;omega)
  refine Ea Z (Ec (aa (aD (cR (t:=2) (i:=0) Z Z ?_))))
  refine aK Tryz.results121 (.tmp Z (dg (by simp) (fun i hi=>by simp)))
theorem vG (x:Int) (hx:bJ x):Ok Tryz.prog 99 [aO x] (aO (-x)):=by
 have hcl:=kp (aL x.natAbs) hx
 have hv:=(eo (!decide (x<0)) x.natAbs).le (ip _) (cj (y := -x) (by by_cases h:x<0 <;> simp [h] <;> omega))
 unfold aO at *
 refine Ok.enter Tryz.func99 Z Tryz.ntmps99 Z (fun w O => ?_)
 refine ae (aj ?_)
 refine aM Z Z (ltN Z) (fun b1 => ?_)
 refine aX (T:=43) Z (ltN Z) (fun b2 => ?_)
 refine Ec (aa (ae (aT 7 aS X S (DY (ah Z) (DY (ak 1 Z Z Z) (DY (bF Z) (DY (ah Z) (DY (ak 1 Z Z Z) ?_))))))))
 refine DY (am (hcl) Z ⟨H,Ed⟩) ?_
 refine DY (am (hv) Z ⟨H,(cM _),Ed⟩) ?_
 refine Ec (aC 0 Z Z Z Z Z (leN Z) Z (Ec (aa (aD ?_))))
 refine aK Tryz.results99 (.cellB 0 Z Z Z H)
theorem Ag (x:Int) (hx:bJ x):Ok Tryz.prog 86 [aO x] (aO x.natAbs):=by
 have hcl:=kp (aL x.natAbs) hx
 have hv:=(eo false x.natAbs).le (ip _) (cj (y:=(x.natAbs:Int)) (by simp))
 unfold aO at *
 refine Ok.enter Tryz.func86 Z Tryz.ntmps86 Z (fun w O => ?_)
 refine ae (aj ?_)
 refine aM Z Z (ltN Z) (fun b1 => ?_)
 refine aX (T:=43) Z (ltN Z) (fun b2 => ?_)
 refine Ec (aa (ae (aj (DY (ah Z) (DY (ak 1 Z Z Z) ?_)))))
 refine DY (am (hcl) Z ⟨H,Ed⟩) ?_
 refine DY (am (hv) Z ⟨H,(cM _),Ed⟩) ?_
 refine aC 0 Z Z Z Z Z (leN Z) Z (Ec (aa (aD ?_)))
 refine aK Tryz.results86 (.cellB 0 Z Z Z H)
theorem cZ {n:Nat} (h:(aL n).length≤1099511627776):VT.le (cr (aL n)) (pQ n):=iT (bf n) (bY n) Y
theorem jl (x:Int) (hx:bJ x):Ok Tryz.prog 89 [aO x] (aO (-x)):=by
 have hv:=(dJ (!decide (x<0)) x.natAbs).le (ip _) (cj (y := -x) (by by_cases h:x<0 <;> simp [h] <;> omega))
 have hx:(aL x.natAbs).length≤1099511627776:=hx
 unfold aO at *
 refine Ok.enter Tryz.func89 Z Tryz.ntmps89 Z (fun w O => ?_)
 refine ae (aj ?_)
 refine aM Z Z (ltN Z) (fun b1 => ?_)
 refine aX (T:=43) Z (ltN Z) (fun b2 => ?_)
 refine Ec (aa (ae (aj (DY (ah Z) (DY (ak 1 Z Z Z) (DY (ah Z) (DY (ak 1 Z Z Z) (DY (bF Z) ?_))))))))
 refine DY (am (hv) Z ⟨(cZ hx),H,Ed⟩) ?_
 refine aC 0 Z Z Z Z Z (leN Z) Z (Ec (aa (aD ?_)))
 refine aK Tryz.results89 (.cellB 0 Z Z Z H)
theorem ef (x:Int):Ok Tryz.prog 56 [aO x] (one (.int .i64 (dQ x))):=by
 have h:=sJ (decide (x<0)) x.natAbs
 rw [fH] at h
 exact h.le ⟨eF _,Ed⟩ H
theorem ms (x y:Int) (hx:bJ x) (hy:bJ y):Ok Tryz.prog 113 [aO x,aO y] (aO (x - y)):=by
 have hv:=(iB x (-y) hx (kM hy)).le (ip _) (cj (y:=x - y) Y)
 refine Ok.enter Tryz.func113 Z Tryz.ntmps113 Z (fun w O => ?_)
 refine ae (aj ?_)
 refine aM Z Z (ltN Z) (fun b2 => ?_)
 refine aM Z Z (ltN Z) (fun b3 => ?_)
 refine aX (T:=43) Z (ltN Z) (fun b4 => ?_)
 refine Ec (aa (ae (aT 4 aS X S (DY (ay 2 Z Z) (DY (ay 1 Z Z) ?_)))))
 refine DY (am (jl _ (by assumption)) Z ⟨H,Ed⟩) ?_
 refine DY (am (hv) Z ⟨H,H,Ed⟩) ?_
 refine Ec (aC 0 Z Z Z Z Z (leN Z) Z (Ec (aa (aD ?_))))
 refine aK Tryz.results113 (.cellB 0 Z Z Z H)
theorem Ah (x y:Int):dQ (x - y)=fp x y:=by
 unfold dQ fp
 by_cases h:x<y
 ·rw [if_neg Y,if_pos Y,if_pos h]
 ·by_cases h2:y<x
  ·rw [if_neg Y,if_neg Y,if_neg h,if_pos h2]
  ·rw [if_pos Y,if_neg h,if_neg h2]
theorem sV (x y:Int) (hx:bJ x) (hy:bJ y):Ok Tryz.prog 73 [aO x,aO y] (one (.int .i64 (fp x y))):=by
 refine Ok.enter Tryz.func73 Z Tryz.ntmps73 Z (fun w O => ?_)
 refine ae (aj ?_)
 refine aM Z Z (ltN Z) (fun b2 => ?_)
 refine aM Z Z (ltN Z) (fun b3 => ?_)
 refine Ea Z (Ec (aa (ae (aj (DY (ay 1 Z Z) (DY (ay 0 Z Z) ?_))))))
 refine DY (am (ms _ _ (by assumption) (by assumption)) Z ⟨H,H,Ed⟩) ?_
 refine DY (am (ef _) Z ⟨H,Ed⟩) ?_
 refine Ea Z (Ec (aa (aD ?_)))
 refine aK Tryz.results73 (.tmp Z (ao (by rw [Ah])))
end Tor
end
section
namespace Tor
open Go Go.RowKit Go.Proofs
def vH (φ ψ:VT):VT:=slT (.agg 3) 2 (fun i=>if i=0 then φ else ψ)
theorem oY {φ ψ:VT} : VT.le (slT (.agg 3) 2 (fun q => [φ, ψ].getD q bO)) (vH φ ψ):=by
 unfold vH
 refine er fun i hi => ?_
 rcases i with _ | _ | i
 ·exact VT.le_refl _
 ·exact VT.le_refl _
 ·omega
instance {r c:Nat} {F:Nat→Nat→Int} : Flat (bG r c F) (.agg 3):=by unfold bG;infer_instance
attribute [local irreducible] J PJ aP one slT cv bA bM exT cq eP aW aU slV VT.le Ret bO
attribute [local irreducible] aO bG
theorem cJ (r c:Nat) (F:Nat→Nat→Int):Ok Tryz.prog 44 [bG r c F] (one (.bool true)):=by
 have h:=nL r c (gn r c F)
 rw [oX] at h
 exact h.le ⟨sS r c F,Ed⟩ H
theorem qr (ra ca:Nat) (F:Nat→Nat→Int) (rb cb:Nat) (G:Nat→Nat→Int):Ok Tryz.prog 106 [vH (bG ra ca F) (bG rb cb G)] (one (.bool true)):=by
 unfold vH
 refine Ok.enter Tryz.func106 Z Tryz.ntmps106 Z (fun w O => ?_)
 refine ae (aj (Ea Z (Ec (aa (ae (ae (aj (DZ Z (DY (aZ Z) ?_)))))))))
 refine DZ Z (Ec (aa (ar ?_)))
 refine cC (σ:=Nat) (fun i => [(5,slT (.agg 3) 2 (fun i=>if i=0 then bG ra ca F else bG rb cb G)),(6,one (.int .i64 (2:Nat))),(7,one (.int .i64 (i:Nat)))]) (fun _ => []) (fun i=>i≤2) (fun i=>2 - i) 0 (Nat.zero_le _) DV (SubM.refl _) (fun i hi => ?_)
 refine ae (aj (DY (a7 Z Z) (Ec (aa (ae ?_)))))
 refine a4 Z (fun hc => ?_) (fun hc => ?_) <;> simp only [decide_eq_true_eq,decide_eq_false_iff_not,ne_eq,Decidable.not_not] at hc
 ·have h2:i<2:=by omega
  have hF:Flat (if i=0 then bG ra ca F else bG rb cb G) (.agg 3):=by split <;> infer_instance
  refine av (aa (ae (ar (ae (aj ?_)))))
  (refine DY (ax Z Z ?_) ?_;omega)
  refine DY (aJ Z) ?_
  refine aF (T:=28) Z Z Z (fun b => ?_)
  refine cK 0 Z Z Z Z (Ec (aa (ae (aj (DY (ak 0 Z Z Z) ?_)))))
  have hcall:Ok Tryz.prog 44 [if i=0 then bG ra ca F else bG rb cb G] (one (.bool true)):=by
   split
   ·exact cJ _ _ _
   ·exact cJ _ _ _
  refine DY (am hcall Z ⟨H,Ed⟩) ?_
  refine DY (bF Z) (Ec (aa ?_))
  refine a4 Z (fun hc2 => ?_) (fun hc2 => ?_)
  ·cases hc2
  ·refine av (aB (aa (aj ?_)))
   (refine DY (ck Z Z (aR ?_ ?_)) ?_;omega;omega)
   refine DZ Z (Ec ?_)
   exact bK (s:=i) (i+1) (show _ from by omega) (by show 2 - (i+1)<2 - i;omega) DV (.drop .nil)
 ·refine aY (aw (aw (aE (aa (ae (aj (Ea Z (Ec (aa ?_)))))))))
  refine aD ?_
  exact aK Tryz.results106 (.tmp Z H)
end Tor
end
section
namespace Tor
open Go Go.RowKit Go.Proofs
attribute [local irreducible] J PJ aP one slT cv bA bM exT cq eP aW aU slV VT.le Ret bO
theorem B9 (x:Int) (hx:bJ x):Ok Tryz.prog 102 [aO x] (aO x):=by
 unfold aO
 refine Ok.enter Tryz.func102 Z Tryz.ntmps102 Z (fun w O => ?_)
 refine ae (aj ?_)
 refine aM Z Z (ltN Z) (fun b => ?_)
 refine aX (T:=43) Z (ltN Z) (fun b => ?_)
 refine Ec (aa (ae (aT 6 aS X S (DY (ah Z) (DY (ak 1 Z Z Z) (DY (ah Z) (DY (ak 1 Z Z Z) ?_)))))))
 refine DY (am (kp _ hx) Z ⟨H,Ed⟩) ?_
 refine stB Z Z Z (BuildK.cons Z Z Z (BuildK.cons Z Z Z (BuildK.nil (Ec (aC 0 Z Z Z Z Z (leN Z) Z (Ec (aa (aD ?_))))))))
 refine aK Tryz.results102 (.cellB 0 Z Z Z H)
attribute [local irreducible] aO
end Tor
end
section
namespace Tor
open Go Go.RowKit Go.Proofs
attribute [local irreducible] J PJ aP one slT cv bA bM exT cq eP aW aU slV VT.le Ret bO
theorem yg (n:Nat) (φ ψ χ:Nat→VT) [hF : ∀ i,Flat (χ i) (.agg 2)] (cl:VT) (hn:n≤1048576) (hC : ∀ i,i<n→l9 Tryz.prog cl [φ i, ψ i] (χ i)):Ok Tryz.prog 117 [slT (.agg 2) n φ,slT (.agg 2) n ψ,cl] (slT (.agg 2) n χ):=by
 refine Ok.enter Tryz.func117 Z Tryz.ntmps117 Z (fun w O => ?_)
 refine ae (aj (Ea Z (Ec (aa (ae (aj (DZ Z (DY (aZ Z) ?_))))))))
 refine ci n n Z Z Z Z (Nat.le_refl _) Z Z Y Z Z (fun bz => ?_)
 refine Ea Z (Ec (aa (ae (ae (aj (DZ Z (DY (gL Z) (DZ Z (Ec ?_)))))))))
 refine aa (ar ?_)
 refine cC (σ:=Nat) (fun i => [(0,slT (.agg 2) n φ),(1,slT (.agg 2) n ψ),(2,cl),(7,one (slV (some bz) n n)),(13,one (.int .i64 n)),(14,one (.int .i64 (i:Nat)))])
  (fun i => [aU (some bz) 43 (.agg 2) n n (fun q=>if q<i then χ q else bO)]) (fun i=>i≤n) (fun i=>n - i) 0 (Nat.zero_le _) DV (.keep (gW fun q hq=>by rw [if_neg Y]; exact ri _) .nil) (fun i hi => ?_)
 refine ae (aj (DY (a7 Z Z) (Ec (aa (ae ?_)))))
 refine a4 Z (fun hc => ?_) (fun hc => ?_) <;> simp only [decide_eq_true_eq,decide_eq_false_iff_not,ne_eq,Decidable.not_not] at hc
 ·refine av (aa (ae (ar (ae (aj (DZ Z (Ea Z (Ec (aa ?_)))))))))
  refine aT 13 aS X S (DZ Z (DZ Z (DZ Z (DZ Z (DZ Z ?_)))))
  (refine DY (ax Z Z ?_) ?_;omega)
  refine DY (aJ Z) (DZ Z (DZ Z ?_))
  (refine DY (ax Z Z ?_) ?_;omega)
  refine DY (aJ Z) ?_
  refine DY (vm (hC i Y) Z Z ⟨H,H,Ed⟩) ?_
  (refine DY (an Z Z ?_) ?_;omega)
  refine Ec ?_
  (refine aA 0 Z Z Z ?_ Z ?_;omega)
  refine Ec (aB (aa (aj ?_)))
  (refine DY (ck Z Z (aR ?_ ?_)) ?_;omega;omega)
  refine DZ Z (Ec ?_)
  refine bK (s:=i) (i+1) (show _ from by omega) (by show n - (i+1)<n - i;omega) DV (.keep (bQ fun q hq => ?_) .nil)
  unfold upd
  by_cases h:q=i
  ·subst h;rw [if_pos Z,if_pos Y]
  ·rw [if_neg h]
   have e:q<i+1↔q<i:=by omega
   simp only [e]
 ·have hk:i=n:=by omega
  subst hk
  refine aY (aw (aw (aE (aa (ae (aj (DZ Z (Ea Z (Ec ?_)))))))))
  refine aa (aD (cR (t:=6) (i:=0) Z Z ?_))
  refine aK Tryz.results117 (.tmp Z (er fun q hq => ?_))
  rw [if_pos hq]; exact VT.le_refl _
theorem yh (n:Nat) (φ ψ χ:Nat→VT) [hF : ∀ i,Flat (χ i) .one] (cl:VT) (hn:n≤1048576) (hC : ∀ i,i<n→l9 Tryz.prog cl [φ i, ψ i] (χ i)):Ok Tryz.prog 112 [slT (.agg 2) n φ,slT (.agg 2) n ψ,cl] (slT .one n χ):=by
 refine Ok.enter Tryz.func112 Z Tryz.ntmps112 Z (fun w O => ?_)
 refine ae (aj (Ea Z (Ec (aa (ae (aj (DZ Z (DY (aZ Z) ?_))))))))
 refine ci n n Z Z Z Z (Nat.le_refl _) Z Z Y Z Z (fun bz => ?_)
 refine Ea Z (Ec (aa (ae (ae (aj (DZ Z (DY (gL Z) (DZ Z (Ec ?_)))))))))
 refine aa (ar ?_)
 refine cC (σ:=Nat) (fun i => [(0,slT (.agg 2) n φ),(1,slT (.agg 2) n ψ),(2,cl),(7,one (slV (some bz) n n)),(13,one (.int .i64 n)),(14,one (.int .i64 (i:Nat)))])
  (fun i => [aU (some bz) 4 .one n n (fun q=>if q<i then χ q else bO)]) (fun i=>i≤n) (fun i=>n - i) 0 (Nat.zero_le _) DV (.keep (gW fun q hq=>by rw [if_neg Y]; exact ri _) .nil) (fun i hi => ?_)
 refine ae (aj (DY (a7 Z Z) (Ec (aa (ae ?_)))))
 refine a4 Z (fun hc => ?_) (fun hc => ?_) <;> simp only [decide_eq_true_eq,decide_eq_false_iff_not,ne_eq,Decidable.not_not] at hc
 ·refine av (aa (ae (ar (ae (aj (DZ Z (Ea Z (Ec (aa ?_)))))))))
  refine aT 13 aS X S (DZ Z (DZ Z (DZ Z (DZ Z (DZ Z ?_)))))
  (refine DY (ax Z Z ?_) ?_;omega)
  refine DY (aJ Z) (DZ Z (DZ Z ?_))
  (refine DY (ax Z Z ?_) ?_;omega)
  refine DY (aJ Z) ?_
  refine DY (vm (hC i Y) Z Z ⟨H,H,Ed⟩) ?_
  (refine DY (an Z Z ?_) ?_;omega)
  refine Ec ?_
  (refine aA 0 Z Z Z ?_ Z ?_;omega)
  refine Ec (aB (aa (aj ?_)))
  (refine DY (ck Z Z (aR ?_ ?_)) ?_;omega;omega)
  refine DZ Z (Ec ?_)
  refine bK (s:=i) (i+1) (show _ from by omega) (by show n - (i+1)<n - i;omega) DV (.keep (bQ fun q hq => ?_) .nil)
  unfold upd
  by_cases h:q=i
  ·subst h;rw [if_pos Z,if_pos Y]
  ·rw [if_neg h]
   have e:q<i+1↔q<i:=by omega
   simp only [e]
 ·have hk:i=n:=by omega
  subst hk
  refine aY (aw (aw (aE (aa (ae (aj (DZ Z (Ea Z (Ec ?_)))))))))
  refine aa (aD (cR (t:=6) (i:=0) Z Z ?_))
  refine aK Tryz.results112 (.tmp Z (er fun q hq => ?_))
  rw [if_pos hq]; exact VT.le_refl _
end Tor
end
section
namespace Tor
open Go Go.RowKit Go.Proofs
def cS:Nat→(Nat→Int)→Int
 | 0, _ => 0
 | n + 1, f => cS n f + f n
theorem dj {n:Nat} {f g:Nat→Int} (h : ∀ i,i<n→f i=g i):cS n f=cS n g:=by
 induction n with
 | zero => rfl
 | succ n ih => rw [cS, cS, ih (fun i hi => h i Y), h n Y]
theorem oZ {n B:Nat} {f:Nat→Int} (h : ∀ i,(f i).natAbs≤B):(cS n f).natAbs≤n*B:=by
 induction n with
 | zero => simp [cS]
 | succ n ih =>
  rw [cS,Nat.succ_mul]
  have:=h n
  omega
theorem wT {n:Nat} {f:Nat→Int} (hn:n≤1048576) (h : ∀ i,(f i).natAbs≤2^800):bJ (cS n f) :=
 sU (oZ h) (Nat.lt_of_le_of_lt (Nat.mul_le_mul_right _ hn) W)
theorem yi {n k:Nat} {f:Nat→Int} (hn:n≤1048576) (h : ∀ i,(aL (f i).natAbs).length≤k):(aL (cS n f).natAbs).length≤k+1:=cG (by
 have h1:=oZ (n:=n) fun i=>Nat.le_of_lt (B8 (h i))
 rw [Nat.pow_succ,Nat.mul_comm]
 exact Nat.lt_of_le_of_lt h1 (Nat.mul_lt_mul_of_pos_right Y (Nat.pow_pos S)))
theorem lJ {n:Nat} {f:Nat→Int} (hn:n≤1048576) (h : ∀ i,(aL (f i).natAbs).length≤549755813888):bJ (cS n f):=Nat.le_trans (yi hn h) S
def gD (n:Nat) (F G:Nat→Nat→Int):Nat→Nat→Int:=fun i j=>cS n (fun k=>F i k*G k j)
theorem eS {n:Nat} {f:Nat→Int} : cS (n+1) f=cS n f+f n:=rfl
attribute [local irreducible] J PJ aP one slT cv bA bM exT cq eP aW aU slV VT.le Ret bO
attribute [local irreducible] aO
theorem uq (r c:Nat) (v:Nat→Int) (G:Nat→Nat→Int) (hr:r≤1048576) (hc0:c≤1048576) (hv : ∀ i,dA (v i)) (hG : ∀ i j,dA (G i j)) :
  Ok Tryz.prog 107 [cu r v,bG r c G] (cu c (fun j=>cS r (fun k=>v k*G k j))):=by
 unfold cu bG
 refine Ok.enter Tryz.func107 Z Tryz.ntmps107 Z (fun w O => ?_)
 refine ae (aj ?_)
 refine aM Z Z (ltN Z) (fun b => ?_)
 refine Ea Z (Ec (aa (ae (aj (DY (ah Z) (DY (ak 0 Z Z Z) ?_))))))
 refine ci c c Z Z Z Z (Nat.le_refl _) Z Z Y Z Z (fun bz => ?_)
 refine Ea Z (Ec (aa (ae (ae (aj (DZ Z (DY (aZ Z) (DZ Z (Ec ?_)))))))))
 refine aa (ar ?_)
 refine cC (σ:=Nat) (fun i => [(3,one (.pointer (some ⟨b,0,none⟩))),(5,one (slV (some bz) c c)),(13,slT (.agg 2) r (fun j=>aO (v j))),(14,one (.int .i64 r)),(15,one (.int .i64 (i:Nat)))])
  (fun i => [aU (some bz) 43 (.agg 2) c c (fun q=>aO (cS i (fun k=>v k*G k q))),aW b 28 3 [(0, .one,one (.int .i64 r)),(1, .one,one (.int .i64 c)),(2, .one,slT .one r (fun i=>cu c (G i)))]])
  (fun i=>i≤r) (fun i=>r - i) 0 (Nat.zero_le _) DV (.keep (gW fun q hq=>jj) (SubM.refl _)) (fun i hi => ?_)
 unfold cu
 refine ae (aj (DY (a7 Z Z) (Ec (aa (ae ?_)))))
 refine a4 Z (fun hc => ?_) (fun hc => ?_) <;> simp only [decide_eq_true_eq,decide_eq_false_iff_not,ne_eq,Decidable.not_not] at hc
 ·refine av (aa (ae (ar (ae (aj (DZ Z ?_))))))
  (refine DY (ax Z Z ?_) ?_;omega)
  refine DY (aJ Z) ?_
  refine aX (T:=43) Z (ltN Z) (fun b => ?_)
  refine Ea Z (aC 0 Z Z Z Z Z (leN Z) Z (Ec (aa (ae (ae (aj (DY (ak 0 Z Z Z) ?_)))))))
  rename_i ba
  refine DY (am (iA (v i)) Z ⟨H,Ed⟩) ?_
  refine DY (cn Z Z) (Ec (aa ?_))
  refine a4 Z (fun hc2 => ?_) (fun hc2 => ?_) <;> simp only [decide_eq_true_eq,decide_eq_false_iff_not,fM] at hc2
  ·refine aY (aw (aE (aa (aj ?_))))
   (refine DY (ck Z Z (aR ?_ ?_)) ?_;omega;omega)
   refine DZ Z (Ec ?_)
   refine bK (s:=i) (i+1) (show _ from by omega) (by show r - (i+1)<r - i;omega) DV (.drop (.keep (bQ fun q hq => ?_) (SubM.refl _)))
   rw [eS,hc2]; simp
  ·refine av (aa (ae (aj (DY (ah Z) (DY (ak 2 Z Z Z) (DZ Z ?_))))))
   (refine DY (ax Z Z ?_) ?_;omega)
   refine DY (aJ Z) (DY (aZ Z) (DZ Z (Ec (aa (ar ?_)))))
   refine cC (σ:=Nat) (fun j => [(3,one (.pointer (some ⟨ba,0,none⟩))),(5,one (slV (some bz) c c)),(6,one (.int .i64 (i:Nat))),(7,one (.pointer (some ⟨b,0,none⟩))),(13,slT (.agg 2) r (fun j=>aO (v j))),(14,one (.int .i64 r)),(15,one (.int .i64 (i:Nat))),(27,slT (.agg 2) c (fun j=>aO (G i j))),(28,one (.int .i64 c)),(29,one (.int .i64 (j:Nat)))])
    (fun j => [aW b 43 2 [(0, .agg 2,aO (v i))],aU (some bz) 43 (.agg 2) c c (fun q=>aO (if q<j then cS (i+1) (fun k=>v k*G k q) else cS i (fun k=>v k*G k q))),aW ba 28 3 [(0, .one,one (.int .i64 r)),(1, .one,one (.int .i64 c)),(2, .one,slT .one r (fun i=>slT (.agg 2) c (fun j=>aO (G i j))))]])
    (fun j=>j≤c) (fun j=>c - j) 0 (Nat.zero_le _) DV (.keep DX (.keep (bQ fun q hq=>by rw [if_neg Y]) (SubM.refl _))) (fun j hj => ?_)
   refine ae (aj (DY (a7 Z Z) (Ec (aa (ae ?_)))))
   refine a4 Z (fun hc3 => ?_) (fun hc3 => ?_) <;> simp only [decide_eq_true_eq,decide_eq_false_iff_not,Int.ofNat_lt] at hc3
   ·refine av (aa (ae (ar (ae (aj (DZ Z ?_))))))
    (refine DY (ax Z Z ?_) ?_;omega)
    refine DY (aJ Z) ?_
    refine aX (T:=43) Z (ltN Z) (fun b => ?_)
    refine Ea Z (aC 0 Z Z Z Z Z (leN Z) Z (Ec (aa (ae (aj (DY (ak 0 Z Z Z) ?_))))))
    refine DY (am (iA (G i j)) Z ⟨H,Ed⟩) ?_
    refine DY (cE Z Z) (Ec (aa ?_))
    refine a4 Z (fun hc4 => ?_) (fun hc4 => ?_) <;> simp only [decide_eq_true_eq,decide_eq_false_iff_not,ne_eq,Decidable.not_not,fM] at hc4
    ·skip
     refine aT 11 aS X S (DZ Z (DZ Z (DZ Z (DZ Z ?_))))
     (refine DY (an Z Z ?_) ?_;omega)
     (refine DY (bk 2 Z Z ?_) ?_;omega)
     refine DY (ak 1 Z Z Z) (DY (ak 0 Z Z Z) ?_)
     refine DY (am (dM (v i) (G i j) (cI (hv i)) (cI (hG i j))) Z ⟨H,H,Ed⟩) ?_
     rw [if_neg (Nat.lt_irrefl j)]
     refine DY (am (gv (cS i (fun k=>v k*G k j)) (v i*G i j) (lJ Y (fun k=>mr (hv k) (hG k j))) (jk (hv i) (hG i j))) Z ⟨H,H,Ed⟩) ?_
     (refine DY (an Z Z ?_) ?_;omega)
     refine Ec ?_
     (refine aA 2 Z Z Z ?_ Z ?_;omega)
     refine Ec (aB (aa (aj ?_)))
     (refine DY (ck Z Z (aR ?_ ?_)) ?_;omega;omega)
     refine DZ Z (Ec ?_)
     refine bK (s:=j) (j+1) (show _ from by omega) (by show c - (j+1)<c - j;omega) DV (.drop (.keep DX (.keep (bQ fun q hq => ?_) (SubM.refl _))))
     unfold upd
     by_cases h:q=j
     ·subst h;rw [if_pos Z,if_pos Y]; rfl
     ·rw [if_neg h]
      have e:q<j+1↔q<j:=by omega
      simp only [e]
    ·refine av (aB (aa (aj ?_)))
     (refine DY (ck Z Z (aR ?_ ?_)) ?_;omega;omega)
     refine DZ Z (Ec ?_)
     refine bK (s:=j) (j+1) (show _ from by omega) (by show c - (j+1)<c - j;omega) DV (.drop (.keep DX (.keep (bQ fun q hq => ?_) (SubM.refl _))))
     by_cases h:q=j
     ·subst h;rw [if_neg (Nat.lt_irrefl _),if_pos Y,eS,hc4]; simp
     ·have e:q<j+1↔q<j:=by omega
      simp only [e]
   ·refine aY (aw (aw (aE (aB (aa (aj ?_))))))
    (refine DY (ck Z Z (aR ?_ ?_)) ?_;omega;omega)
    refine DZ Z (Ec ?_)
    refine bK (s:=i) (i+1) (show _ from by omega) (by show r - (i+1)<r - i;omega) DV (.drop (.keep (bQ fun q hq => ?_) (SubM.refl _)))
    rw [if_pos Y]
 ·have hk:i=r:=by omega
  subst hk
  refine aY (aw (aw (aE (aa (ae (aj (DZ Z (Ea Z (Ec ?_)))))))))
  refine aa (aD (cR (t:=4) (i:=0) Z Z ?_))
  exact aK Tryz.results107 (.tmp Z H)
end Tor
end
section
namespace Tor
open Go Go.RowKit Go.Proofs
instance:Idle Tryz.prog 129:=Idle.of Tryz.func129 Z Tryz.ntmps129 Tryz.results129
instance:Idle Tryz.prog 105:=Idle.of Tryz.func105 Z Tryz.ntmps105 Tryz.results105
attribute [local irreducible] J PJ aP one slT cv bA bM exT cq eP aW aU slV VT.le Ret bO
attribute [local irreducible] c8
theorem yj (r c:Nat) (hr:r≤1048576) (hc0:c≤1048576):OkM Tryz.prog 101 [one (.int .i64 r),one (.int .i64 c)] (jE r c) (fun s => [fC s.1.2.1 s.1.2.2 r c s.1.1,ew c s.1.1 (fun _ _=>0)]):=by
 refine OkM.enterD Tryz.func101 Z Tryz.ntmps101 Z (fun w O => ?_)
 have e1:max (r:Int) 0=r:=by omega
 have e2:max (c:Int) 0=c:=by omega
 refine ae (aj ?_)
 refine aF (T:=28) Z Z Z (fun b => ?_)
 refine Ec (aa (ae (aj (vl Z (Ec (aa (ae (aj (DZ Z ?_)))))))))
 refine DY (om Z Z) (DZ Z (DY (om Z Z) (Ea Z (Ea Z (Ec (aa (ae (aj (DZ Z ?_)))))))))
 rw [e1,e2]
 refine ci r r Z Z Z Z (Nat.le_refl _) Z Z Y Z Z (fun bo => ?_)
 refine Ea Z (Ec (aa (ae (ae (aj (DZ Z (DY (gL Z) (DZ Z (Ec ?_)))))))))
 refine aa (ar ?_)
 refine et (ConvM.rows0 (T:=43) (L := .agg 2) (c:=c) (φ:=fun _ _=>aO 0) _) ?_
 refine cC (σ:=List Nat) (fun s => [(0,one (.int .i64 r)),(1,one (.int .i64 c)),(4,one (.pointer (some ⟨b,0,none⟩))),(5,one (slV (some bo) r r)),(14,one (.int .i64 r)),(15,one (.int .i64 s.length))])
  (fun s => [aU (some bo) 50 .one r r (fun q=>if q<s.length then one (slV (some (s.getD q 0)) c c) else bO),aW b 28 3 (dt #[Value.int IntKind.i64 0,Value.int IntKind.i64 0,Value.slice none 0 0] [(0,Lay.one),(1,Lay.one),(2,Lay.one)]),ew c s (fun _ _=>0)])
  (fun s=>s.length≤r) (fun s=>r - s.length) [] (Nat.zero_le _) DV (.keep (gW fun q hq=>by rw [if_neg (by simp)]; exact ri _) (SubM.refl _)) (fun bs hk => ?_)
 refine ae (aj (DY (a7 Z Z) (Ec (aa (ae ?_)))))
 refine a4 Z (fun hc => ?_) (fun hc => ?_) <;> simp only [decide_eq_true_eq,decide_eq_false_iff_not,ne_eq,Decidable.not_not] at hc
 ·refine av (aa (ae (ar (ae (aj (DZ Z (Ea Z (Ec (aa ?_)))))))))
  refine aj (DZ Z (DZ Z (DZ Z ?_)))
  refine ci c c Z Z Z Z (Nat.le_refl _) Z Z Y Z Z (fun bz => ?_)
  (refine DY (an Z Z ?_) ?_;omega)
  (refine aA 1 Z Z Z ?_ Z ?_;omega)
  refine Ec (aB (aa (aj ?_)))
  (refine DY (ck Z Z (aR ?_ ?_)) ?_;omega;omega)
  refine DZ Z (Ec (gq (ConvM.row (k:=2) Z) (bK (s:=bs) (bs ++ [bz]) (by simp;omega) (by simp;omega) (.cons Z H (.cons Z H (.cons Z H (.cons Z H (.cons Z H (.cons Z (ao (by simp)) .nil)))))) ?_)))
  refine .keep (bQ (fun q hq => ?_)) (.keep DX (.keep (oC fun i j hi hj => ?_) .nil))
  ·unfold upd
   by_cases h:q=bs.length
   ·subst h;simp
   ·rw [if_neg h]
    show (if q<bs.length then one (slV (some (bs.getD q 0)) c c) else bO)=_
    by_cases h2:q<bs.length
    ·rw [if_pos h2,if_pos (by simp;omega)]; simp [List.getElem?_append_left h2]
    ·rw [if_neg h2,if_neg (by simp;omega)]
  ·simp only
   split
   ·exact VT.le_refl _
   ·exact jj
 ·have hlen:bs.length=r:=by omega
  subst hlen
  refine aY (aw (aw (aE (aa (ae (aj (DZ Z (DZ Z (DZ Z ?_)))))))))
  refine stB Z Z Z (BuildK.cons Z Z Z (BuildK.cons Z Z Z (BuildK.cons Z Z Z (BuildK.nil (aH 1 Z Z Z Z (Ec (aa (aD ?_))))))))
  refine qW (l7 ⟨(bs,some bo,bs.length),rfl,fun h=>by cases h⟩ Tryz.results101 (.cellW 1 Z Z H) ?_)
  refine .keep (bQ fun q hq => ?_) (.drop (SubM.refl _))
  rw [if_pos hq]
attribute [local irreducible] aO
theorem sW (n:Nat) (hn:n≤1048576):Ok Tryz.prog 72 [one (.int .i64 n)] (bG n n (fun i j=>if i=j then 1 else 0)):=by
 refine Ok.enter Tryz.func72 Z Tryz.ntmps72 Z (fun w O => ?_)
 refine ae (aj ?_)
 refine aF (T:=28) Z Z Z (fun b => ?_)
 refine Ec (aa (ae (aj (DZ Z (DZ Z ?_)))))
 refine di (yj n n hn hn) Z ⟨H,H,Ed⟩ Z Z (fun s => ?_)
 obtain ⟨⟨bs,sv1,cap1⟩,hlen,hsv⟩:=s
 simp only at hlen hsv
 unfold jE
 refine aF (T:=28) Z Z Z (fun b => ?_)
 refine aH 0 Z Z Z Z (Ec (aa (ae (ae (aj (DY (ah Z) (DY (ak 0 Z Z Z) (DY (gL Z) (DZ Z ?_)))))))))
 refine Ec (aa (ar ?_))
 rename_i b2
 refine cC (σ:=Nat) (fun i => [(2,one (.pointer (some ⟨b2,0,none⟩))),(3,one (.pointer (some ⟨b,0,none⟩))),(10,one (.int .i64 n)),(11,one (.int .i64 (i:Nat)))])
  (fun i => [aW b 28 3 [(0, .one,one (.int .i64 n)),(1, .one,one (.int .i64 n)),(2, .one,one (slV sv1 n cap1))],fC sv1 cap1 n n bs,ew n bs (fun q k=>if q<i then (if q=k then 1 else 0) else 0),
   aW b2 28 3 (dt #[Value.int IntKind.i64 0,Value.int IntKind.i64 0,Value.slice none 0 0] [(0,Lay.one),(1,Lay.one),(2,Lay.one)])])
  (fun i=>i≤n) (fun i=>n - i) 0 (Nat.zero_le _) DV (.keep DX (.keep DX (.keep (e6 fun i j hi hj=>by simp) (SubM.refl _)))) (fun i hi => ?_)
 refine ae (aj (DY (a7 Z Z) (Ec (aa (ae ?_)))))
 refine a4 Z (fun hc => ?_) (fun hc => ?_) <;> simp only [decide_eq_true_eq,decide_eq_false_iff_not,ne_eq,Decidable.not_not] at hc
 ·obtain ⟨bo,rfl⟩:=eG hsv Y
  refine av (aa (ae (ar (ae (aj (DZ Z (Ea Z (Ec (aa ?_)))))))))
  refine aT 8 aS X S (DY (ah Z) (DY (ak 0 Z Z Z) (DZ Z ?_)))
  (refine DY (an Z Z ?_) ?_;omega)
  (refine DY (bk 1 Z Z ?_) ?_;omega)
  refine DZ Z ?_
  refine DY (am (ql 1 S S) Z ⟨H,Ed⟩) ?_
  (refine DY (an Z Z ?_) ?_;omega)
  refine Ec ?_
  (refine fW 2 Z Z Z (nT ?_) ?_ Z ?_;omega;omega)
  refine Ec (aB (aa (aj ?_)))
  (refine DY (ck Z Z (aR ?_ ?_)) ?_;omega;omega)
  refine DZ Z (Ec ?_)
  refine bK (s:=i) (i+1) (show _ from by omega) Y DV (.keep DX (.keep DX (.keep (gA fun q k hq hk => ?_) (SubM.refl _))))
  unfold dT
  by_cases h:q=i
  ·subst h
   by_cases h2:k=q
   ·subst h2;simp
   ·have h3 : ¬ q=k:=fun e=>h2 e.symm
    simp [h2,h3]
  ·have h3:q<i+1↔q<i:=by omega
   simp [h,h3]
 ·have hin:i=n:=by omega
  subst hin
  refine aY (aw (aw (aE (aa (ae (aj (DY (ay 0 Z Z) (aH 3 Z Z Z Z (Ec ?_)))))))))
  refine aa (aD ?_)
  have hperm : ∀ (x y z u:Own), [x,y,z,u].Perm ([y,z] ++ [x,u]):=fun x y z u=>(List.Perm.swap y x _).trans (List.Perm.cons y (List.Perm.swap z x _))
  refine fD [fC sv1 cap1 i i bs,ew i bs (fun q k=>if q<i then (if q=k then 1 else 0) else 0)] (hperm _ _ _ _) (.keep (zY.refl _) (.keep (zY.box (eR hlen ⟨by simp,by simp,by simp⟩)) .nil)) (xD.refl _) ?_
  refine aK Tryz.results72 (.cellW 1 Z Z ?_)
  exact g8 fun a b ha hb=>by simp [ha]
end Tor
end
section
namespace Tor
open Go Go.RowKit Go.Proofs
def qs (ok:Bool) (e:Int) (r c:Nat) (F:Nat→Nat→Int):VT:=bM [bG (if ok then r else 0) (if ok then c else 0) F,one (.int .i64 (if ok then 0 else e))]
theorem o4 (F:Nat→Nat→Int):VT.le (bA 3 (dt #[Value.int IntKind.i64 0,Value.int IntKind.i64 0,Value.slice none 0 0] [(0,Lay.one),(1,Lay.one),(2,Lay.one)])) (bG 0 0 F):=by
 unfold bG
 refine eY (fun q hq => ?_)
 rcases List.mem_cons.1 hq with rfl | hq
 ·exact ⟨_,List.mem_cons_self,H⟩
 rcases List.mem_cons.1 hq with rfl | hq
 ·exact ⟨_,List.mem_cons_of_mem _ List.mem_cons_self,H⟩
 rcases List.mem_cons.1 hq with rfl | hq
 ·exact ⟨_,List.mem_cons_of_mem _ (List.mem_cons_of_mem _ List.mem_cons_self),gV⟩
 ·cases hq
theorem wU:VT.le (bA 2 (dt #[Value.bool false,Value.slice none 0 0] [(0,Lay.one),(1,Lay.one)])) (aO 0):=by
 unfold aO
 refine eY (fun q hq => ?_)
 rcases List.mem_cons.1 hq with rfl | hq
 ·exact ⟨_,List.mem_cons_self,H⟩
 rcases List.mem_cons.1 hq with rfl | hq
 ·exact ⟨_,List.mem_cons_of_mem _ List.mem_cons_self,gV⟩
 ·cases hq
attribute [local irreducible] J PJ aP one slT cv bA bM exT cq eP aW aU slV VT.le Ret bO
attribute [local irreducible] aO
theorem Ai (n m:Nat) (f g:Nat→Int) (hn:n≤1048576) (hm:m≤1048576) (hf : ∀ i,dA (f i)) (hg : ∀ i,dA (g i)) :
  Ok Tryz.prog 79 [cu n f,cu m g] (bM [aO (if n=m then cS n (fun k=>f k*g k) else 0),one (.int .i64 (if n=m then 0 else 50))]):=by
 unfold cu
 refine Ok.enter Tryz.func79 Z Tryz.ntmps79 Z (fun w O => ?_)
 refine ae (aj ?_)
 refine aX (T:=43) Z (ltN Z) (fun b => ?_)
 refine Ea Z (Ec (aa (ae (ae (aj (DZ Z (DY (aZ Z) (DZ Z (DY (aZ Z) ?_)))))))))
 refine DY (cE Z Z) (Ec (aa ?_))
 refine a4 Z (fun hc => ?_) (fun hc => ?_) <;> simp only [decide_eq_true_eq,decide_eq_false_iff_not,ne_eq,Decidable.not_not] at hc
 ·have hne : ¬ n=m:=by omega
  refine ae (aj (stB Z Z Z (BuildK.nil (aC 0 Z Z Z Z Z (leN Z) Z (Ea Z (Ec (aa (aD (aI ?_)))))))))
  refine fw Tryz.results79 (.cellB 0 Z Z Z ?_) (.tmp Z (ao ?_))
  ·rw [if_neg hne]; exact wU
  ·rw [if_neg hne]
 ·have he:n=m:=by omega
  subst he
  refine av (aa (ae (aj ?_)))
  refine aX (T:=43) Z (ltN Z) (fun b => ?_)
  refine Ec (aa (ae (ae (aj (DZ Z (DZ Z ?_))))))
  rename_i b4
  refine DY (am (yg n (fun j=>aO (f j)) (fun j=>aO (g j)) (fun j=>aO (f j*g j)) (one (.func (.func 80) #[] #[])) hn (fun i hi=>l9.fn (dM _ _ (cI (hf i)) (cI (hg i))))) Z ⟨H,H,H,Ed⟩) ?_
  refine DY (aZ Z) (DZ Z (Ec (aa (ar ?_))))
  refine cC (σ:=Nat) (fun i => [(4,one (.pointer (some ⟨b4,0,none⟩))),(6,one (.pointer (some ⟨b,0,none⟩))),(17,slT (.agg 2) n (fun j=>aO (f j*g j))),(18,one (.int .i64 n)),(19,one (.int .i64 (i:Nat)))])
   (fun i => [aW b 43 2 [(0, .agg 2,aO (cS i (fun k=>f k*g k)))],aW b4 43 2 [(0, .agg 2,one (.agg #[.bool false, .slice none 0 0]))]])
   (fun i=>i≤n) (fun i=>n - i) 0 (Nat.zero_le _) DV (.keep (zX fun q hq=>by rcases List.mem_cons.1 hq with rfl | hq;exact ⟨_,List.mem_cons_self,jj⟩;cases hq) (SubM.refl _)) (fun i hi => ?_)
  refine ae (aj (DY (a7 Z Z) (Ec (aa (ae ?_)))))
  refine a4 Z (fun hc => ?_) (fun hc => ?_) <;> simp only [decide_eq_true_eq,decide_eq_false_iff_not,Int.ofNat_lt] at hc
  ·refine av (aa (ae (ar (ae (aj ?_)))))
   (refine DY (ax Z Z ?_) ?_;omega)
   refine DY (aJ Z) ?_
   refine aX (T:=43) Z (ltN Z) (fun b => ?_)
   refine aC 0 Z Z Z Z Z (leN Z) Z (Ec (aa (aj (DY (ak 1 Z Z Z) (DY (ak 0 Z Z Z) ?_)))))
   refine DY (am (gv (cS i (fun k=>f k*g k)) (f i*g i) (lJ Y (fun k=>mr (hf k) (hg k))) (jk (hf i) (hg i))) Z ⟨H,H,Ed⟩) ?_
   refine aC 1 Z Z Z Z Z (leN Z) Z (Ec (aB (aa (aj ?_))))
   (refine DY (ck Z Z (aR ?_ ?_)) ?_;omega;omega)
   refine DZ Z (Ec ?_)
   exact bK (s:=i) (i+1) (show _ from by omega) (by show n - (i+1)<n - i;omega) DV (.drop (.keep DX (SubM.refl _)))
  ·have hin:i=n:=by omega
   subst hin
   refine aY (aw (aw (aE (aa (ae (aj (DY (ak 0 Z Z Z) (aC 1 Z Z Z Z Z (leN Z) Z (Ea Z ?_)))))))))
   refine Ec (aa (aD ?_))
   refine fw Tryz.results79 (.cellB 1 Z Z Z ?_) (.tmp Z (ao ?_))
   ·rw [if_pos Z]; exact VT.le_refl _
   ·rw [if_pos Z]
end Tor
end
