/-
  Theorems that the proofs of laws of this seat rest on.
  No condition.
-/
import Derived.Test.YtamglpeiacmooaaGreatZB3
set_option maxHeartbeats 20000000
set_option linter.unusedVariables false
set_option linter.unusedSimpArgs false
section
namespace Tor
open Go Go.RowKit Go.Proofs
attribute [local irreducible] J PJ aQ one slT cA bG bZ exT cE eP aX a8 slV VT.le Ret bS
theorem ee (neg:Bool) (v:Nat):Ok Tryz.prog 96 [one (.bool neg),kQ v] (bm (if neg then -(v:Int) else v)):=by
 refine Ok.enter Tryz.func96 Z Tryz.ntmps96 Z (fun w O => ?_)
 refine ah (aj ?_)
 refine aT (T:=55) Z (ltN Z) (fun b => ?_)
 refine Ap (aa (ah (aj (Am Z ?_))))
 refine Al (am (dE _) Z ⟨W,Aq⟩) ?_
 refine An Z (Ap (aa (ah (ah (aj (Am Z (Al (be Z) (Al (cj Z Z) (Ap ?_)))))))))
 refine aa ?_
 refine a5 Z (fun hc => ?_) (fun hc => ?_) <;> simp at hc
 ·have hv:v=0:=by rw [← bU v,hc]; rfl
  subst hv
  refine ah (aj (stB Z Z Z (BuildK.nil (aF 0 Z Z Z Z Z (leN Z) Z (Ap (aa (aG (aB ?_))))))))
  exact aP Tryz.results96 (.cellB 0 Z Z Z (VT.le_trans nv (bY (by simp))))
 ·have hv:v≠0:=by intro e;subst e;exact hc Z
  refine au (aa (ah (aj (Am Z (Am Z (stB Z Z Z (BuildK.cons Z Z Z (BuildK.cons Z Z Z (BuildK.nil ?_)))))))))
  refine aF 0 Z Z Z Z Z (leN Z) Z (Ap (aa (aG ?_)))
  exact aP Tryz.results96 (.cellB 0 Z Z Z (vP hv))
structure PlusR (lx ly:List Nat) (zl:List Nat) (c:Nat):Prop where
 len:zl.length≤lx.length
 lim:bB zl
 c1:c≤1
 val:lv zl+4294967296^zl.length*c=lv (lx.take zl.length)+lv (ly.take zl.length)
theorem PlusR.step {lx ly zl:List Nat} {c:Nat} (h:PlusR lx ly zl c) (hx:bB lx) (hy:bB ly) (hl:ly.length≤lx.length) (hlt:zl.length<lx.length) :
  PlusR lx ly (zl ++ [(c+lx.getD zl.length 0+ly.getD zl.length 0) % 4294967296]) ((c+lx.getD zl.length 0+ly.getD zl.length 0) / 4294967296):=by
 have h1:=bk hx zl.length
 have h2:=bk hy zl.length
 have h3:=h.c1
 refine ⟨by simp;omega,fun d hd => ?_,by omega,?_⟩
 ·rcases List.mem_append.1 hd with hd | hd
  ·exact h.lim d hd
  ·simp at hd;omega
 ·have hy2:lv (ly.take (zl.length+1))=lv (ly.take zl.length)+4294967296^zl.length*ly.getD zl.length 0:=by
   by_cases hk:zl.length<ly.length
   ·exact bI hk
   ·rw [List.take_of_length_le S,List.take_of_length_le S]; simp [List.getElem?_eq_none (Nat.le_of_not_lt hk)]
  simp only [List.length_append,List.length_cons,List.length_nil,Nat.zero_add]
  rw [fk,bI hlt,hy2,Nat.pow_succ]
  have hv:=h.val
  generalize lx.getD zl.length 0=x at *
  generalize ly.getD zl.length 0=y at *
  generalize 4294967296^zl.length=B at *
  have e:(c+x+y)=4294967296*((c+x+y) / 4294967296)+(c+x+y) % 4294967296:=by omega
  generalize (c+x+y) / 4294967296=q at *
  generalize (c+x+y) % 4294967296=r at *
  simp only [lv,Nat.mul_zero,Nat.add_zero]
  have e2:B*(c+x+y)=B*(4294967296*q+r):=by rw [e]
  simp only [Nat.mul_add,Nat.mul_assoc] at e2 ⊢
  omega
theorem r4 (a b:Nat) (ha:(aK a).length≤1099511627776) (hb:(aK b).length≤1099511627776):Ok Tryz.prog 116 [cg (aK a),cg (aK b)] (kQ (a+b)):=by
 refine Ok.enter Tryz.func116 Z Tryz.ntmps116 Z (fun w O => ?_)
 refine ah (aj (An Z (Ap (aa (ah (ah (aj (Am Z (Al (be Z) ?_)))))))))
 refine Am Z (Al (be Z) (Al (aS Z Z) (Ap (aa ?_))))
 refine fh (σ:=List Nat × List Nat) (fun s => [(0,cg s.1),(1,cg s.2)]) (fun _ => []) (fun s=>bB s.1∧bB s.2∧s.2.length≤s.1.length∧s.1.length≤1099511627776∧lv s.1+lv s.2=a+b) ?_ (fun s ⟨hx,hy,hl,hs,hv⟩ => ?_)
 ·refine a5 Z (fun hc => ?_) (fun hc => ?_) <;> simp at hc
  ·refine aj (Am Z (Am Z (An Z (An Z (Ap ?_)))))
   exact cZ (aK b,aK a) ⟨bh _,bh _,Nat.le_of_lt hc,hb,by simp only [bU]; omega⟩ Ai (SubM.refl _)
  ·refine au ?_
   exact cZ (aK a,aK b) ⟨bh _,bh _,hc,ha,by simp only [bU]⟩ Ai (SubM.refl _)
 ·obtain ⟨lx,ly⟩:=s
  simp only at hx hy hl hs hv ⊢
  refine aa (ah (aj (Am Z (Al (be Z) ?_))))
  (refine Al (cq Z Z (aR ?_ ?_)) ?_;omega;omega)
  refine cK (lx.length+1) (lx.length+1) Z Z (by simp) (by simp) (Nat.le_refl _) Z Z S Z Z (fun bz => ?_)
  refine An Z (Ap (aa (ah (aj (An Z (Ap (aa (ah (ah ?_)))))))))
  refine aj (Am Z (Al (be Z) (Am Z (Ap (aa (ar ?_))))))
  refine cO (σ:=List Nat × Nat) (fun s => [(0,cg lx),(1,cg ly),(5,one (slV (some bz) (lx.length+1) (lx.length+1))),(6,one (.int .u64 (s.2:Nat))),(20,one (.int .i64 lx.length)),(21,one (.int .i64 s.1.length))])
   (fun s => [a8 (some bz) 90 .one (lx.length+1) (lx.length+1) (fun q=>one (.int .u32 (s.1.getD q 0:Nat)))]) (fun s=>PlusR lx ly s.1 s.2) (fun s=>lx.length - s.1.length) ([],0)
   ⟨by simp,(fun d hd=>by cases hd),by decide,by simp [lv]⟩ Ai (.keep (cy (by simp)) .nil) (fun s hR => ?_)
  obtain ⟨zl,c⟩:=s
  simp only at hR ⊢
  refine ah (aj (Al (aS Z Z) (Ap (aa (ah ?_)))))
  refine a5 Z (fun hc => ?_) (fun hc => ?_) <;> simp at hc
  ·have h1:=bk hx zl.length
   have h2:=bk hy zl.length
   have h3:=hR.c1
   refine au (aa (ah (ar (ah (aj (Am Z (An Z (Ap (aa ?_)))))))))
   refine ah (aj (Am Z (Am Z (Am Z ?_))))
   (refine Al (ax Z Z ?_) ?_;omega)
   refine Al (aH Z) ?_
   (refine Al (bL Z ?_) ?_;omega)
   (refine Al (d5 Z Z ?_) ?_;omega)
   refine An Z (Ap (aa (ah (ah (aj (Am Z (Am Z (Al (be Z) (Al (aS Z Z) ?_)))))))))
   refine Ap (aa ?_)
   refine fh (σ:=Unit) (fun _ => [(0,cg lx),(1,cg ly),(5,one (slV (some bz) (lx.length+1) (lx.length+1))),(6,one (.int .u64 ((c+lx.getD zl.length 0+ly.getD zl.length 0:Nat):Int))),(7,one (.int .i64 zl.length)),(20,one (.int .i64 lx.length)),(21,one (.int .i64 zl.length))])
    (fun _ => [a8 (some bz) 90 .one (lx.length+1) (lx.length+1) (fun q=>one (.int .u32 (zl.getD q 0:Nat)))]) (fun _=>True) ?_ (fun _ _ => ?_)
   ·refine a5 Z (fun hc => ?_) (fun hc => ?_) <;> simp at hc
    ·refine aj (Am Z (Am Z (Am Z ?_)))
     (refine Al (ax Z Z ?_) ?_;omega)
     refine Al (aH Z) ?_
     (refine Al (bL Z ?_) ?_;omega)
     (refine Al (d5 Z Z ?_) ?_;omega)
     refine An Z (Ap ?_)
     exact cZ () trivial Ai (SubM.refl _)
    ·have e0:ly.getD zl.length 0=0:=by simp [List.getElem?_eq_none hc]
     refine au ?_
     exact cZ () trivial Ai (SubM.refl _)
   ·refine aa (ah (aj (Am Z (Am Z (Am Z (Al (cM Z) ?_))))))
    (refine Al (an Z Z ?_) ?_;omega)
    (refine bD 0 Z Z Z ?_ Z ?_;omega)
    refine Ap (aa (aj (Am Z (Al (fP Z) (An Z (Ap (aD (aa (aj ?_)))))))))
    (refine Al (cq Z Z (aR ?_ ?_)) ?_;omega;omega)
    refine Am Z (Ap ?_)
    have hstep:=hR.step hx hy hl hc
    refine bM (s:=(zl,c)) (zl ++ [(c+lx.getD zl.length 0+ly.getD zl.length 0) % 4294967296],(c+lx.getD zl.length 0+ly.getD zl.length 0) / 4294967296) hstep (by simp;omega) Ai (.keep (cy (fun q hq => ?_)) .nil)
    unfold upd;rw [jc]; split <;> rfl
  ·have hlen:zl.length=lx.length:=by have:=hR.len;omega
   refine aU (av (av (aC (aa (ah (aj (Am Z (Am Z (Al (be Z) ?_)))))))))
   refine Am Z (Al (cM Z) ?_)
   (refine Al (an Z Z ?_) ?_;omega)
   (refine bD 0 Z Z Z ?_ Z ?_;omega)
   refine Ap (aa (ah (aj (Am Z (An Z (Ap (aa (aG (dz (t:=4) (i:=0) Z Z ?_)))))))))
   refine aP Tryz.results116 (.tmp Z (VT.le_trans (cL (m:=(zl ++ [c]).length) (ψ:=fun i=>one (.int .u32 ((zl ++ [c]).getD i 0:Nat))) (by simp [hlen]) (fun q hq => ?_)) (fA (l:=zl ++ [c]) ?_ ?_)))
   ·have h3:=hR.c1
    unfold upd;rw [jc,hlen]
    split
    ·rw [Nat.mod_eq_of_lt S]
    ·rfl
   ·intro d hd
    have h3:=hR.c1
    rcases List.mem_append.1 hd with hd | hd
    ·exact hR.lim d hd
    ·simp at hd;omega
   ·have h4:=hR.val
    rw [hlen,List.take_length,List.take_of_length_le S] at h4
    rw [fk,hlen]; simp only [lv,Nat.mul_zero,Nat.add_zero]; omega
end Tor
end
section
namespace Tor
open Go Go.RowKit Go.Proofs
attribute [local irreducible] J PJ aQ one slT cA bG bZ exT cE eP aX a8 slV VT.le Ret bS
theorem nw (a:Int):Ok Tryz.prog 119 [one (.int .i64 a)] (one (.bool false)):=by
 refine Ok.enter Tryz.func119 Z Tryz.ntmps119 Z (fun w O => ?_)
 refine ah (aj (An Z (Ap (aa (ah (aj (Am Z (Am Z (Al (dy Z Z) ?_)))))))))
 refine An Z (Ap (aa (aG ?_)))
 exact aP Tryz.results119 (.tmp Z (aq (by simp)))
theorem nx (a:Int):Ok Tryz.prog 126 [one (.int .u32 a)] (one (.bool false)):=by
 refine Ok.enter Tryz.func126 Z Tryz.ntmps126 Z (fun w O => ?_)
 refine ah (aj (An Z (Ap (aa (ah (aj (Am Z (Am Z (Al (dy Z Z) ?_)))))))))
 refine An Z (Ap (aa (aG ?_)))
 exact aP Tryz.results126 (.tmp Z (aq (by simp)))
theorem iQ (a b:Int):Ok Tryz.prog 106 [one (.int .i64 a),one (.int .i64 b)] (one (.int .i64 (ev a b))):=by
 refine Ok.enter Tryz.func106 Z Tryz.ntmps106 Z (fun w O => ?_)
 refine ah (aj (An Z (Ap (aa (ah (aj (Am Z ?_)))))))
 refine Al (am (nw _) Z ⟨W,Aq⟩) ?_
 refine An Z (Ap (aa (ah (aj (Am Z ?_)))))
 refine Al (am (nw _) Z ⟨W,Aq⟩) ?_
 refine An Z (Ap (aa (ah (ah (aj (Am Z (Ap (aa ?_))))))))
 refine a5 Z (fun hc=>by cases hc) (fun hc => ?_)
 refine au (aa (ah (ah (aj (Am Z (Ap (aa ?_)))))))
 refine a5 Z (fun hc=>by cases hc) (fun hc => ?_)
 refine au (aa (ah (ah (aj (Am Z (Am Z (Al (aS Z Z) (Ap (aa ?_)))))))))
 refine a5 Z (fun hc => ?_) (fun hc => ?_) <;> simp at hc
 ·refine ah (aj (An Z (Ap (aa (aG (aB ?_))))))
  exact aP Tryz.results106 (.tmp Z (aq (by rw [ev,if_pos hc])))
 ·refine au (aa (ah (ah (aj (Am Z (Am Z (Al (dS Z Z) (Ap (aa ?_)))))))))
  refine a5 Z (fun hc2 => ?_) (fun hc2 => ?_) <;> simp at hc2
  ·refine ah (aj (An Z (Ap (aa (aG (aB ?_))))))
   exact aP Tryz.results106 (.tmp Z (aq (by rw [ev,if_neg S,if_pos hc2])))
  ·refine au (aa (ah (aj (An Z (Ap (aa (aG ?_)))))))
   exact aP Tryz.results106 (.tmp Z (aq (by rw [ev,if_neg S,if_neg S])))
theorem mj (a b:Int):Ok Tryz.prog 120 [one (.int .u32 a),one (.int .u32 b)] (one (.int .i64 (ev a b))):=by
 refine Ok.enter Tryz.func120 Z Tryz.ntmps120 Z (fun w O => ?_)
 refine ah (aj (An Z (Ap (aa (ah (aj (Am Z ?_)))))))
 refine Al (am (nx _) Z ⟨W,Aq⟩) ?_
 refine An Z (Ap (aa (ah (aj (Am Z ?_)))))
 refine Al (am (nx _) Z ⟨W,Aq⟩) ?_
 refine An Z (Ap (aa (ah (ah (aj (Am Z (Ap (aa ?_))))))))
 refine a5 Z (fun hc=>by cases hc) (fun hc => ?_)
 refine au (aa (ah (ah (aj (Am Z (Ap (aa ?_)))))))
 refine a5 Z (fun hc=>by cases hc) (fun hc => ?_)
 refine au (aa (ah (ah (aj (Am Z (Am Z (Al (aS Z Z) (Ap (aa ?_)))))))))
 refine a5 Z (fun hc => ?_) (fun hc => ?_) <;> simp at hc
 ·refine ah (aj (An Z (Ap (aa (aG (aB ?_))))))
  exact aP Tryz.results120 (.tmp Z (aq (by rw [ev,if_pos hc])))
 ·refine au (aa (ah (ah (aj (Am Z (Am Z (Al (dS Z Z) (Ap (aa ?_)))))))))
  refine a5 Z (fun hc2 => ?_) (fun hc2 => ?_) <;> simp at hc2
  ·refine ah (aj (An Z (Ap (aa (aG (aB ?_))))))
   exact aP Tryz.results120 (.tmp Z (aq (by rw [ev,if_neg S,if_pos hc2])))
  ·refine au (aa (ah (aj (An Z (Ap (aa (aG ?_)))))))
   exact aP Tryz.results120 (.tmp Z (aq (by rw [ev,if_neg S,if_neg S])))
theorem jE (a b:Nat):Ok Tryz.prog 107 [cg (aK a),cg (aK b)] (one (.int .i64 (kP a b))):=by
 refine Ok.enter Tryz.func107 Z Tryz.ntmps107 Z (fun w O => ?_)
 refine gC (t:=0) Z (fun _ _=>et) (fun hb => ?_)
 refine ah (aj (An Z (Ap (aa (ah (ah (aj (Am Z (Al (be Z) ?_)))))))))
 refine Am Z (Al (be Z) ?_)
 refine Al (am (iQ _ _) Z ⟨W,W,Aq⟩) ?_
 refine An Z (Ap (aa (ah (aj (Am Z (Al (dy Z Z) (Ap (aa ?_))))))))
 refine a5 Z (fun hc => ?_) (fun hc => ?_) <;> simp at hc
 ·refine ah (aj (Am Z (An Z (Ap (aa (aG (aB ?_)))))))
  refine aP Tryz.results107 (.tmp Z (aq ?_))
  unfold ev at hc ⊢
  unfold kP
  congr 1
  by_cases h1:(aK a).length<(aK b).length
  ·have:=gH h1
   rw [if_pos S,if_pos this]
  ·by_cases h2:(aK b).length<(aK a).length
   ·have:=gH h2
    rw [if_neg S,if_pos S,if_neg S,if_pos this]
   ·rw [if_neg S,if_neg S] at hc;exact absurd Z hc
 ·have hlen:(aK a).length=(aK b).length:=by
   unfold ev at hc
   split at hc
   ·cases hc
   ·split at hc
    ·cases hc
    ·omega
  refine au (aa (ah (ah (aj (Am Z (Al (be Z) ?_))))))
  (refine Al (ey Z Z (aR ?_ ?_)) ?_;omega;omega)
  refine An Z (Ap (aa (ar ?_)))
  refine cO (σ:=Nat) (fun n => [(0,cg (aK a)),(1,cg (aK b)),(6,one (.int .i64 ((n:Int) - 1)))]) (fun _ => []) (fun n=>n≤(aK a).length∧(aK a).drop n=(aK b).drop n) (fun n=>n) (aK a).length
   ⟨Nat.le_refl _,by rw [List.drop_length,hlen,List.drop_length]⟩ Ai (SubM.refl _) (fun n ⟨hn,hd⟩ => ?_)
  refine ah (ah (aj (Am Z (Al (fd Z Z) (Ap (aa ?_))))))
  refine a5 Z (fun hc2 => ?_) (fun hc2 => ?_) <;> simp at hc2
  ·obtain ⟨n,rfl⟩ : ∃ m,n=m+1:=⟨n - 1,by omega⟩
   have e:((n+1:Nat):Int) - 1=n:=by omega
   rw [e]
   refine au (aa (ah (ar (ah (aZ 10 aV X Y (Am Z (Am Z ?_)))))))
   (refine Al (ax Z Z ?_) ?_;omega)
   refine Al (aH Z) (Am Z (Am Z ?_))
   (refine Al (ax Z Z ?_) ?_;omega)
   refine Al (aH Z) ?_
   refine Al (am (mj _ _) Z ⟨W,W,Aq⟩) ?_
   refine An Z (Ap (Ap (aa (ah (aj (Am Z (Al (dy Z Z) (Ap (aa ?_)))))))))
   refine a5 Z (fun hc3 => ?_) (fun hc3 => ?_) <;> simp only [decide_eq_true_eq,decide_eq_false_iff_not,ne_eq,Decidable.not_not] at hc3
   ·refine ah (aj (Am Z (An Z (Ap (aa (aG (a6 (aB (aB ?_)))))))))
    refine a6 (aB ?_)
    refine aP Tryz.results107 (.tmp Z (aq ?_))
    congr 1
    unfold ev at hc3 ⊢
    unfold kP
    by_cases h1:(aK a).getD n 0<(aK b).getD n 0
    ·have:=ou (bh a) (bh b) hlen (i:=n) S hd h1
     rw [bU,bU] at this
     rw [if_pos S,if_pos this]
    ·by_cases h2:(aK b).getD n 0<(aK a).getD n 0
     ·have:=ou (bh b) (bh a) hlen.symm (i:=n) S hd.symm h2
      rw [bU,bU] at this
      rw [if_neg S,if_pos S,if_neg S,if_pos this]
     ·rw [if_neg S,if_neg S] at hc3;exact absurd Z hc3
   ·refine au (aD (aa (aj (Am Z ?_))))
    (refine Al (ey Z Z (aR ?_ ?_)) ?_;omega;omega)
    refine An Z (Ap ?_)
    refine bM (s:=n+1) n ⟨by omega,?_⟩ S Ai (SubM.refl _)
    have h3:(aK a).getD n 0=(aK b).getD n 0:=by
     unfold ev at hc3
     split at hc3
     ·cases hc3
     ·split at hc3
      ·cases hc3
      ·omega
    have e1:=fl (l:=aK a) (k:=n) S
    have e2:=fl (l:=aK b) (k:=n) S
    rw [e1,e2,h3,hd]
  ·refine aU (av (av (aC (aa (ah (aj (An Z (Ap (aa ?_)))))))))
   refine aG ?_
   have h0:n=0:=by omega
   subst h0
   have h4:a=b:=pM (by simpa using hd)
   exact aP Tryz.results107 (.tmp Z (aq (by subst h4;simp [kP])))
end Tor
end
section
namespace Tor
open Go Go.RowKit Go.Proofs
attribute [local irreducible] J PJ aQ one slT cA bG bZ exT cE eP aX a8 slV VT.le Ret bS
structure MinusR (lx ly:List Nat) (zl:List Nat) (c:Nat):Prop where
 len:zl.length≤lx.length
 lim:bB zl
 c1:c≤1
 val:lv zl+lv (ly.take zl.length)=lv (lx.take zl.length)+4294967296^zl.length*c
theorem pN {x y c d:Nat} (hx:x<4294967296) (hy:y<4294967296) (hc:c≤1) (hd:d=((x+18446744073709551616 - c) % 18446744073709551616+18446744073709551616 - y) % 18446744073709551616) :
  d % 4294967296+y+c=x+4294967296*(d / 9223372036854775808)∧d / 9223372036854775808≤1:=by
 rcases Nat.lt_or_ge x (y+c) with h | h
 ·have h1:d=x+18446744073709551616 - (y+c):=by omega
  omega
 ·have h1:d=x - (y+c):=by omega
  omega
theorem MinusR.step {lx ly zl:List Nat} {c d:Nat} (h:MinusR lx ly zl c) (hx:bB lx) (hy:bB ly) (hl:ly.length≤lx.length) (hlt:zl.length<lx.length)
  (hd:d=((lx.getD zl.length 0+18446744073709551616 - c) % 18446744073709551616+18446744073709551616 - ly.getD zl.length 0) % 18446744073709551616) :
  MinusR lx ly (zl ++ [d % 4294967296]) (d / 9223372036854775808):=by
 obtain ⟨h1,h2⟩:=pN (bk hx zl.length) (bk hy zl.length) h.c1 hd
 refine ⟨by simp;omega,fun e he => ?_,h2,?_⟩
 ·rcases List.mem_append.1 he with he | he
  ·exact h.lim e he
  ·simp at he;omega
 ·have hy2:lv (ly.take (zl.length+1))=lv (ly.take zl.length)+4294967296^zl.length*ly.getD zl.length 0:=by
   by_cases hk:zl.length<ly.length
   ·exact bI hk
   ·rw [List.take_of_length_le S,List.take_of_length_le S]; simp [List.getElem?_eq_none (Nat.le_of_not_lt hk)]
  simp only [List.length_append,List.length_cons,List.length_nil,Nat.zero_add]
  rw [fk,bI hlt,hy2,Nat.pow_succ]
  have hv:=h.val
  clear hd
  generalize lx.getD zl.length 0=x at *
  generalize ly.getD zl.length 0=y at *
  generalize 4294967296^zl.length=B at *
  generalize d % 4294967296=r at *
  generalize d / 9223372036854775808=q at *
  simp only [lv,Nat.mul_zero,Nat.add_zero]
  have e2:B*(r+y+c)=B*(x+4294967296*q):=by rw [h1]
  simp only [Nat.mul_add,Nat.mul_assoc] at e2 ⊢
  omega
theorem ml (a b:Nat) (hab:b≤a) (ha:(aK a).length≤1099511627776):Ok Tryz.prog 117 [cg (aK a),cg (aK b)] (kQ (a - b)):=by
 refine Ok.enter Tryz.func117 Z Tryz.ntmps117 Z (fun w O => ?_)
 have hx:=bh a
 have hy:=bh b
 have hl:=co hab
 have hva:=bU a
 have hvb:=bU b
 generalize aK a=lx at *
 generalize aK b=ly at *
 refine ah (aj (An Z (Ap (aa (ah (aj (Am Z (Al (be Z) ?_))))))))
 refine cK lx.length lx.length Z Z Z Z (Nat.le_refl _) Z Z S Z Z (fun bz => ?_)
 refine An Z (Ap (aa (ah (aj (An Z (Ap (aa (ah (ah ?_)))))))))
 refine aj (Am Z (Al (be Z) (Am Z (Ap (aa (ar ?_))))))
 refine cO (σ:=List Nat × Nat) (fun s => [(0,cg lx),(1,cg ly),(5,one (slV (some bz) lx.length lx.length)),(6,one (.int .u64 (s.2:Nat))),(13,one (.int .i64 lx.length)),(14,one (.int .i64 s.1.length))])
   (fun s => [a8 (some bz) 90 .one lx.length lx.length (fun q=>one (.int .u32 (s.1.getD q 0:Nat)))]) (fun s=>MinusR lx ly s.1 s.2) (fun s=>lx.length - s.1.length) ([],0)
   ⟨by simp,(fun d hd=>by cases hd),by decide,by simp [lv]⟩ Ai (.keep (cy (by simp)) .nil) (fun s hR => ?_)
 obtain ⟨zl,c⟩:=s
 simp only at hR ⊢
 refine ah (aj (Al (aS Z Z) (Ap (aa (ah ?_)))))
 refine a5 Z (fun hc => ?_) (fun hc => ?_) <;> simp at hc
 ·have h1:=bk hx zl.length
  have h2:=bk hy zl.length
  have h3:=hR.c1
  refine au (aa (ah (ar (ah (aj (Am Z (An Z (Ap (aa ?_)))))))))
  refine ah (aj (Am Z (Am Z ?_)))
  (refine Al (ax Z Z ?_) ?_;omega)
  refine Al (aH Z) ?_
  (refine Al (bL Z ?_) ?_;omega)
  refine Am Z ?_
  (refine Al (f9 Z Z ?_ ?_) ?_;omega;omega)
  refine An Z (Ap (aa (ah (ah (aj (Am Z (Am Z (Al (be Z) (Al (aS Z Z) ?_)))))))))
  refine Ap (aa ?_)
  generalize hD:((lx.getD zl.length 0+18446744073709551616 - c) % 18446744073709551616+18446744073709551616 - ly.getD zl.length 0) % 18446744073709551616=d
  refine fh (σ:=Unit) (fun _ => [(0,cg lx),(1,cg ly),(5,one (slV (some bz) lx.length lx.length)),(8,one (.int .u64 (d:Nat))),(7,one (.int .i64 zl.length)),(13,one (.int .i64 lx.length)),(14,one (.int .i64 zl.length))])
    (fun _ => [a8 (some bz) 90 .one lx.length lx.length (fun q=>one (.int .u32 (zl.getD q 0:Nat)))]) (fun _=>True) ?_ (fun _ _ => ?_)
  ·refine a5 Z (fun hc => ?_) (fun hc => ?_) <;> simp at hc
   ·refine aj (Am Z (Am Z (Am Z ?_)))
    (refine Al (ax Z Z ?_) ?_;omega)
    refine Al (aH Z) ?_
    (refine Al (bL Z ?_) ?_;omega)
    (refine Al (f9 Z Z ?_ ?_) ?_;omega;omega)
    refine An Z (Ap ?_)
    exact cZ () trivial Ai (SubM.refl _)
   ·have e0:ly.getD zl.length 0=0:=by simp [List.getElem?_eq_none hc]
    refine au ?_
    exact cZ () trivial Ai (SubM.refl _)
  ·refine aa (ah (aj (Am Z (Am Z (Am Z (Al (cM Z) ?_))))))
   (refine Al (an Z Z ?_) ?_;omega)
   (refine bD 0 Z Z Z ?_ Z ?_;omega)
   refine Ap (aa (aj (Am Z (Al (nZ Z) (An Z (Ap (aD (aa (aj ?_)))))))))
   (refine Al (cq Z Z (aR ?_ ?_)) ?_;omega;omega)
   refine Am Z (Ap ?_)
   have hstep:=hR.step hx hy hl hc hD.symm
   refine bM (s:=(zl,c)) (zl ++ [d % 4294967296],d / 9223372036854775808) hstep (by simp;omega) Ai (.keep (cy (fun q hq => ?_)) .nil)
   unfold upd;rw [jc]; split <;> rfl
 ·have hlen:zl.length=lx.length:=by have:=hR.len;omega
  refine aU (av (av (aC (aa (ah (aj (Am Z (An Z (Ap ?_)))))))))
  refine aa (aG (dz (t:=4) (i:=0) Z Z ?_))
  refine aP Tryz.results117 (.tmp Z (VT.le_trans (cL (m:=zl.length) (ψ:=fun i=>one (.int .u32 (zl.getD i 0:Nat))) hlen.symm (fun q hq=>rfl)) (fA (l:=zl) hR.lim ?_)))
  have h4:=hR.val
  rw [hlen,List.take_length,List.take_of_length_le S,hva,hvb] at h4
  have h5:=gf hR.lim
  rw [hlen] at h5
  have h3:=hR.c1
  have:c=0:=by
   rcases Nat.eq_zero_or_pos c with h | h
   ·exact h
   ·have:c=1:=by omega
    subst this;omega
  subst this;omega
end Tor
end
section
namespace Tor
open Go Go.RowKit Go.Proofs
attribute [local irreducible] J PJ aQ one slT cA bG bZ exT cE eP aX a8 slV VT.le Ret bS
structure TimesR (lx ly zz:List Nat) (i:Nat):Prop where
 le:i≤lx.length
 len:zz.length=lx.length+ly.length
 lim:bB zz
 zero : ∀ k,i+ly.length≤k→zz.getD k 0=0
 val:lv zz=lv (lx.take i)*lv ly
structure TimesI (lx ly z0 zz:List Nat) (i j c:Nat):Prop where
 le:j≤ly.length
 len:zz.length=lx.length+ly.length
 lim:bB zz
 zero : ∀ k,i+ly.length≤k→zz.getD k 0=0
 c1:c<4294967296
 val:lv zz+4294967296^(i+j)*c=lv z0+4294967296^i*(lx.getD i 0*lv (ly.take j))
theorem TimesI.step {lx ly z0 zz:List Nat} {i j c:Nat} (h:TimesI lx ly z0 zz i j c) (hx:bB lx) (hy:bB ly) (hi:i<lx.length) (hj:j<ly.length) :
  TimesI lx ly z0 (zz.set (i+j) ((c+(lx.getD i 0*ly.getD j 0+zz.getD (i+j) 0)) % 4294967296)) i (j+1) ((c+(lx.getD i 0*ly.getD j 0+zz.getD (i+j) 0)) / 4294967296):=by
 have hlim:=lI (bk hx i) (bk hy j) (bk h.lim (i+j)) h.c1
 have hlt:i+j<zz.length:=by rw [h.len]; omega
 refine ⟨hj,by rw [List.length_set]; exact h.len,h.lim.set S,fun k hk => ?_,by omega,?_⟩
 ·rw [dA hlt,if_neg S]; exact h.zero k hk
 ·have hs:=fJ (l:=zz) (k:=i+j) (v:=(c+(lx.getD i 0*ly.getD j 0+zz.getD (i+j) 0)) % 4294967296) hlt
  have hv:=h.val
  rw [bI hj]
  generalize lx.getD i 0=x at *
  generalize ly.getD j 0=y at *
  generalize zz.getD (i+j) 0=z at *
  have e:c+(x*y+z)=4294967296*((c+(x*y+z)) / 4294967296)+(c+(x*y+z)) % 4294967296:=by omega
  generalize (c+(x*y+z)) / 4294967296=q at *
  generalize (c+(x*y+z)) % 4294967296=r at *
  rw [show i+(j+1)=(i+j)+1 by omega,Nat.pow_succ]
  have eB:4294967296^i*4294967296^j=4294967296^(i+j):=(Nat.pow_add _ _ _).symm
  have e3:4294967296^i*(x*(lv (ly.take j)+4294967296^j*y))=4294967296^i*(x*lv (ly.take j))+4294967296^(i+j)*(x*y):=by
   rw [Nat.mul_add,Nat.mul_add, ← eB]
   congr 1
   rw [Nat.mul_assoc]; congr 1
   rw [Nat.mul_left_comm]
  rw [e3]
  generalize 4294967296^(i+j)=B at *
  have e2:B*(c+(x*y+z))=B*(4294967296*q+r):=by rw [e]
  simp only [Nat.mul_add, ← Nat.mul_assoc] at e2 ⊢ hs hv
  omega
theorem TimesR.start {lx ly z0:List Nat} {i:Nat} (h:TimesR lx ly z0 i):TimesI lx ly z0 z0 i 0 0:=⟨Nat.zero_le _,h.len,h.lim,h.zero,by decide,by simp [lv]⟩
theorem TimesI.finish {lx ly z0 zz:List Nat} {i c:Nat} (h0:TimesR lx ly z0 i) (h:TimesI lx ly z0 zz i ly.length c) (hi:i<lx.length):TimesR lx ly (zz.set (i+ly.length) (c % 4294967296)) (i+1):=by
 have hlt:i+ly.length<zz.length:=by rw [h.len]; omega
 have hc:=h.c1
 refine ⟨hi,by rw [List.length_set]; exact h.len,h.lim.set S,fun k hk => ?_,?_⟩
 ·rw [dA hlt,if_neg S]; exact h.zero k S
 ·have hs:=fJ (l:=zz) (k:=i+ly.length) (v:=c % 4294967296) hlt
  rw [h.zero _ (Nat.le_refl _),Nat.mul_zero,Nat.add_zero,Nat.mod_eq_of_lt hc] at hs
  rw [Nat.mod_eq_of_lt hc,hs,h.val,List.take_length,h0.val,bI hi,Nat.add_mul,Nat.mul_assoc]
theorem bB.replicate (n:Nat):bB (List.replicate n 0):=fun d hd=>by
 have:=(List.mem_replicate.1 hd).2;omega
theorem d7 : ∀ n,lv (List.replicate n 0)=0
 | 0 => rfl
 | n + 1 => by rw [List.replicate_succ, lv, d7 n]
theorem cH (n q:Nat):(List.replicate n 0).getD q 0=0:=by
 simp only [List.getD,List.getElem?_replicate]; split <;> rfl
theorem up (a b:Nat) (ha:(aK a).length≤1099511627776) (hb:(aK b).length≤1099511627776):Ok Tryz.prog 118 [cg (aK a),cg (aK b)] (kQ (a*b)):=by
 refine Ok.enter Tryz.func118 Z Tryz.ntmps118 Z (fun w O => ?_)
 have hx:=bh a
 have hy:=bh b
 have hva:=bU a
 have hvb:=bU b
 generalize aK a=lx at *
 generalize aK b=ly at *
 refine ah (aj (An Z (Ap (aa (ah (aj (Am Z (Al (be Z) (Am Z ?_)))))))))
 refine Al (be Z) ?_
 (refine Al (cq Z Z (aR ?_ ?_)) ?_;omega;omega)
 refine cK (lx.length+ly.length) (lx.length+ly.length) Z Z (by simp) (by simp) (Nat.le_refl _) Z Z S Z Z (fun bz => ?_)
 refine An Z (Ap (aa (ah (ah (aj (Am Z (Al (be Z) (Am Z (Ap ?_)))))))))
 refine aa (ar ?_)
 refine cO (σ:=List Nat × Nat) (fun s => [(1,cg ly),(5,one (slV (some bz) (lx.length+ly.length) (lx.length+ly.length))),(17,cg lx),(18,one (.int .i64 lx.length)),(19,one (.int .i64 (s.2:Nat)))])
   (fun s => [a8 (some bz) 90 .one (lx.length+ly.length) (lx.length+ly.length) (fun q=>one (.int .u32 (s.1.getD q 0:Nat)))]) (fun s=>TimesR lx ly s.1 s.2) (fun s=>lx.length - s.2) (List.replicate (lx.length+ly.length) 0,0)
   ⟨by simp,by simp,bB.replicate _,fun k _=>cH _ _,by simp [d7,lv]⟩ Ai (.keep (cy (fun q _=>by rw [cH]; rfl)) .nil) (fun s hR => ?_)
 obtain ⟨z0,i⟩:=s
 simp only at hR ⊢
 refine ah (aj (Al (aS Z Z) (Ap (aa (ah ?_)))))
 refine a5 Z (fun hc => ?_) (fun hc => ?_) <;> simp at hc
 ·have h1:=bk hx i
  refine au (aa (ah (ar (ah (aj (Am Z ?_))))))
  (refine Al (ax Z Z ?_) ?_;omega)
  refine Al (aH Z) (An Z (An Z (Ap (aa (ah (aj (An Z (Ap (aa ?_)))))))))
  refine ah (ah (aj (Am Z (Al (be Z) (Am Z (Ap (aa (ar ?_))))))))
  refine cO (σ:=List Nat × Nat × Nat) (fun s => [(1,cg ly),(5,one (slV (some bz) (lx.length+ly.length) (lx.length+ly.length))),(6,one (.int .i64 i)),(7,one (.int .u32 (lx.getD i 0:Nat))),(8,one (.int .u64 (s.2.2:Nat))),(24,cg ly),(25,one (.int .i64 ly.length)),(26,one (.int .i64 (s.2.1:Nat))),(17,cg lx),(18,one (.int .i64 lx.length)),(19,one (.int .i64 i))])
   (fun s => [a8 (some bz) 90 .one (lx.length+ly.length) (lx.length+ly.length) (fun q=>one (.int .u32 (s.1.getD q 0:Nat)))]) (fun s=>TimesI lx ly z0 s.1 i s.2.1 s.2.2) (fun s=>ly.length - s.2.1) (z0,0,0)
   hR.start Ai (SubM.refl _) (fun s hI => ?_)
  obtain ⟨zz,j,c⟩:=s
  simp only at hI ⊢
  refine ah (aj (Al (aS Z Z) (Ap (aa (ah ?_)))))
  refine a5 Z (fun hc2 => ?_) (fun hc2 => ?_) <;> simp at hc2
  ·have h2:=bk hy j
   have h3:=bk hI.lim (i+j)
   have h4:=lI h1 h2 h3 hI.c1
   have h5:=hI.c1
   refine au (aa (ah (ar (ah (aj (Am Z ?_))))))
   (refine Al (ax Z Z ?_) ?_;omega)
   refine Al (aH Z) (An Z (An Z (Ap (aa (ah (aj (Am Z (Am Z ?_))))))))
   (refine Al (bL Z ?_) ?_;omega)
   refine Am Z ?_
   (refine Al (bL Z ?_) ?_;omega)
   (refine Al (gF Z Z ?_) ?_;omega)
   refine Am Z (Am Z (Am Z ?_))
   (refine Al (cq Z Z (aR ?_ ?_)) ?_;omega;omega)
   (refine Al (an Z Z ?_) ?_;omega)
   (refine Al (aI 0 Z Z ?_) ?_;omega)
   (refine Al (bL Z ?_) ?_;omega)
   (refine Al (d5 Z Z ?_) ?_;omega)
   (refine Al (d5 Z Z ?_) ?_;omega)
   refine An Z (Ap (aa (ah (aj (Am Z (Am Z (Am Z ?_)))))))
   (refine Al (cq Z Z (aR ?_ ?_)) ?_;omega;omega)
   refine Am Z (Al (cM Z) ?_)
   (refine Al (an Z Z ?_) ?_;omega)
   (refine bD 0 Z Z Z ?_ Z ?_;omega)
   refine Ap (aa (aj (Am Z (Al (fP Z) (An Z (Ap (aD (aa (aj ?_)))))))))
   (refine Al (cq Z Z (aR ?_ ?_)) ?_;omega;omega)
   refine Am Z (Ap ?_)
   have hstep:=hI.step hx hy hc hc2
   have hlt:i+j<zz.length:=by rw [hI.len]; omega
   refine bM (s:=(zz,j,c)) (zz.set (i+j) ((c+(lx.getD i 0*ly.getD j 0+zz.getD (i+j) 0)) % 4294967296),j+1,(c+(lx.getD i 0*ly.getD j 0+zz.getD (i+j) 0)) / 4294967296) hstep (by simp;omega) Ai (.keep (cy (fun q hq => ?_)) .nil)
   unfold upd;rw [dA hlt]; split <;> rfl
  ·have hj:j=ly.length:=by have:=hI.le;omega
   subst hj
   refine aU (av (av (aC (aa (aj (Am Z (Am Z (Am Z (Al (be Z) ?_)))))))))
   (refine Al (cq Z Z (aR ?_ ?_)) ?_;omega;omega)
   refine Am Z (Al (cM Z) ?_)
   (refine Al (an Z Z ?_) ?_;omega)
   (refine bD 0 Z Z Z ?_ Z ?_;omega)
   refine Ap (aD (aa (aj ?_)))
   (refine Al (cq Z Z (aR ?_ ?_)) ?_;omega;omega)
   refine Am Z (Ap ?_)
   have hfin:=hI.finish hR hc
   have hlt:i+ly.length<zz.length:=by rw [hI.len]; omega
   refine bM (s:=(z0,i)) (zz.set (i+ly.length) (c % 4294967296),i+1) hfin (by simp;omega) Ai (.keep (cy (fun q hq => ?_)) .nil)
   unfold upd;rw [dA hlt]; split <;> rfl
 ·have hi:i=lx.length:=by have:=hR.le;omega
  refine aU (av (av (aC (aa (ah (aj (Am Z (An Z (Ap ?_)))))))))
  refine aa (aG (dz (t:=4) (i:=0) Z Z ?_))
  refine aP Tryz.results118 (.tmp Z (VT.le_trans (cL (m:=z0.length) (ψ:=fun i=>one (.int .u32 (z0.getD i 0:Nat))) hR.len.symm (fun q hq=>rfl)) (fA (l:=z0) hR.lim ?_)))
  rw [hR.val,hi,List.take_length,hva,hvb]
end Tor
end
section
namespace Tor
open Go Go.RowKit Go.Proofs
def sgT (neg:Bool) (v:Nat):VT:=bG 2 [(0, .one,one (.bool neg)),(1, .one,cg (aK v))]
def sv (neg:Bool) (v:Nat):Int:=if neg then -(v:Int) else v
theorem d8 (x:Int):VT.le (bm x) (sgT (decide (x<0)) x.natAbs):=VT.le_refl _
theorem eG (x:Int):sv (decide (x<0)) x.natAbs=x:=by
 unfold sv;by_cases h:x<0
 ·rw [decide_eq_true h,if_pos Z]; omega
 ·rw [decide_eq_false h]; simp only [Bool.false_eq_true,if_false]; omega
attribute [local irreducible] J PJ aQ one slT cA bG bZ exT cE eP aX a8 slV VT.le Ret bS
attribute [local irreducible] bm
theorem ke (u:Nat) (hu:u<18446744073709551616):Ok Tryz.prog 97 [one (.int .u64 u)] (kQ u):=by
 refine Ok.enter Tryz.func97 Z Tryz.ntmps97 Z (fun w O => ?_)
 refine ah (aj (An Z (Ap (aa (ah (aj (Am Z (Al (cM Z) (Am Z ?_)))))))))
 refine Al (fP Z) (Al (cM Z) (stS Z Z Z Z (PartsK.cons Z (PartsK.cons Z (PartsK.nil (An Z (Ap (aa (aG ?_)))))))))
 refine aP Tryz.results97 (.tmp Z (VT.le_trans (cL (m := [u % 4294967296,u / 4294967296 % 4294967296].length) (ψ:=fun i=>one (.int .u32 ([u % 4294967296,u / 4294967296 % 4294967296].getD i 0:Nat))) Z (fun q hq => ?_)) (fA (l := [u % 4294967296,u / 4294967296 % 4294967296]) ?_ ?_)))
 ·match q,hq with
  | 0, _ => rfl
  | 1, _ => rfl
 ·intro d hd;simp at hd;omega
 ·simp only [lv]; omega
theorem wQ (n:Int) (h1 : -9223372036854775808≤n) (h2:n≤9223372036854775807):Ok Tryz.prog 64 [one (.int .i64 n)] (bm n):=by
 refine Ok.enter Tryz.func64 Z Tryz.ntmps64 Z (fun w O => ?_)
 by_cases hn:n<0
 ·refine ah (aj ?_)
  refine aT (T:=55) Z (ltN Z) (fun b => ?_)
  refine Ap (aa (ah (aj (Am Z (Al (iI (r:=((18446744073709551616 - n.natAbs:Nat):Int)) Z (by rw [dL]; omega)) (An Z (Ap (aa (ah ?_)))))))))
  refine ah (aj (Am Z (Al (aS Z Z) (Ap (aa ?_)))))
  refine a5 Z (fun hc => ?_) (fun hc => ?_) <;> simp at hc
  ·refine aj (Am Z (Al (wK (r:=(n.natAbs:Int)) Z (by rw [dL]; omega)) (An Z (Ap (aa (ah (aj (Am Z (Al (aS Z Z) ?_)))))))))
   refine Am Z ?_
   refine Al (am (ke _ S) Z ⟨W,Aq⟩) ?_
   refine Al (am (ee _ _) Z ⟨W,W,Aq⟩) ?_
   refine aF 0 Z Z Z Z Z (leN Z) Z (Ap (aa (aG ?_)))
   exact aP Tryz.results64 (.cellB 0 Z Z Z (bY (by rw [decide_eq_true hn,if_pos Z]; omega)))
  ·omega
 ·refine ah (aj ?_)
  refine aT (T:=55) Z (ltN Z) (fun b => ?_)
  refine Ap (aa (ah (aj (Am Z (Al (iI (r:=(n.natAbs:Int)) Z (by rw [dL]; omega)) (An Z (Ap (aa (ah ?_)))))))))
  refine ah (aj (Am Z (Al (aS Z Z) (Ap (aa ?_)))))
  refine a5 Z (fun hc => ?_) (fun hc => ?_) <;> simp at hc
  ·omega
  ·refine au (aa (ah (aj (Am Z (Al (aS Z Z) (Am Z ?_))))))
   refine Al (am (ke _ S) Z ⟨W,Aq⟩) ?_
   refine Al (am (ee _ _) Z ⟨W,W,Aq⟩) ?_
   refine aF 0 Z Z Z Z Z (leN Z) Z (Ap (aa (aG ?_)))
   exact aP Tryz.results64 (.cellB 0 Z Z Z (bY (by rw [decide_eq_false hn]; simp;omega)))
def de (x:Int):Int:=if x=0 then 0 else if x<0 then -1 else 1
theorem lJ (neg:Bool) (v:Nat):Ok Tryz.prog 88 [sgT neg v] (one (.int .i64 (de (sv neg v)))):=by
 refine Ok.enter Tryz.func88 Z Tryz.ntmps88 Z (fun w O => ?_)
 refine ah (aj ?_)
 refine aY Z Z (ltN Z) (fun b => ?_)
 refine An Z (Ap (aa (ah (ar (ah (aj (Al (ab Z) (Al (ak 0 Z Z Z) ?_))))))))
 refine Al (am (dE _) Z ⟨cU _,Aq⟩) ?_
 refine Al (be Z) (Al (cj Z Z) (An Z (Ap (aa ?_))))
 refine a5 Z (fun hc => ?_) (fun hc => ?_) <;> simp at hc
 ·have hv:v=0:=by rw [← bU v,hc]; rfl
  refine ah (aj (An Z (Ap (aa (aG (a6 (aB ?_)))))))
  exact aP Tryz.results88 (.tmp Z (aq (by subst hv;simp [de,sv])))
 ·have hv:v≠0:=by intro e;subst e;exact hc Z
  refine ah (aj (Al (ab Z) (Al (ak 0 Z Z Z) (An Z (Ap (aa ?_))))))
  refine a5 Z (fun hc2 => ?_) (fun hc2 => ?_)
  ·subst hc2
   refine ah (aj (An Z (Ap (aa (aG (a6 (aB ?_)))))))
   exact aP Tryz.results88 (.tmp Z (aq (by congr 1;unfold de sv;simp only [if_true]; rw [if_neg S,if_pos S])))
  ·subst hc2
   refine au (aD (aa (ah (aj (An Z (Ap (aa (aG ?_))))))))
   exact aP Tryz.results88 (.tmp Z (aq (by congr 1;unfold de sv;simp only [Bool.false_eq_true,if_false]; rw [if_neg S,if_neg S])))
theorem uq (n1 n2:Bool) (v1 v2:Nat) (h1:(aK v1).length≤1099511627776) (h2:(aK v2).length≤1099511627776):Ok Tryz.prog 103 [sgT n1 v1,sgT n2 v2] (bm (sv n1 v1+sv n2 v2)):=by
 refine Ok.enter Tryz.func103 Z Tryz.ntmps103 Z (fun w O => ?_)
 refine ah (aj ?_)
 refine aY Z Z (ltN Z) (fun b => ?_)
 refine aY Z Z (ltN Z) (fun b => ?_)
 refine aT (T:=55) Z (ltN Z) (fun b => ?_)
 refine Ap (aa (ah (aZ 8 aV X Y (Al (ab Z) (Al (ak 2 Z Z Z) ?_)))))
 refine Al (am (dE _) Z ⟨cU _,Aq⟩) ?_
 refine Al (ab Z) (Al (ak 1 Z Z Z) ?_)
 refine Al (am (dE _) Z ⟨cU _,Aq⟩) ?_
 refine An Z (An Z (Ap (Ap (aa (ah (ar (ah (aj (Al (ab Z) ?_)))))))))
 refine Al (ak 2 Z Z Z) (Al (ab Z) (Al (ak 1 Z Z Z) (Al (pk Z Z) (An Z (Ap (aa ?_))))))
 refine a5 Z (fun hc => ?_) (fun hc => ?_) <;> simp at hc
 ·subst hc
  refine ah (aZ 6 aV X Y (Al (ab Z) (Al (ak 2 Z Z Z) (Am Z (Am Z ?_)))))
  refine Al (am (r4 _ _ h1 h2) Z ⟨W,W,Aq⟩) ?_
  refine Al (am (ee _ _) Z ⟨W,W,Aq⟩) ?_
  refine Ap (aF 0 Z Z Z Z Z (leN Z) Z (Ap (aa (aG (a6 (aB ?_))))))
  exact aP Tryz.results103 (.cellB 0 Z Z Z (bY (by unfold sv;split <;> omega)))
 ·refine ah (aj (Am Z (Am Z ?_)))
  refine Al (am (jE _ _) Z ⟨W,W,Aq⟩) ?_
  refine Al (aS Z Z) (An Z (Ap (aa ?_)))
  refine a5 Z (fun hc2 => ?_) (fun hc2 => ?_) <;> simp at hc2
  ·have hlt:v1<v2:=by
    unfold kP at hc2;split at hc2
    ·assumption
    ·split at hc2 <;> omega
   refine ah (aZ 6 aV X Y (Al (ab Z) (Al (ak 1 Z Z Z) (Am Z (Am Z ?_)))))
   refine Al (am (ml _ _ S h2) Z ⟨W,W,Aq⟩) ?_
   refine Al (am (ee _ _) Z ⟨W,W,Aq⟩) ?_
   refine Ap (aF 0 Z Z Z Z Z (leN Z) Z (Ap (aa (aG (a6 (aB ?_))))))
   exact aP Tryz.results103 (.cellB 0 Z Z Z (bY (by unfold sv;cases n1 <;> cases n2 <;> simp at hc ⊢ <;> omega)))
  ·have hge:v2≤v1:=by
    unfold kP at hc2;split at hc2 <;> omega
   refine au (aD (aa (ah (aZ 6 aV X Y (Al (ab Z) (Al (ak 2 Z Z Z) (Am Z (Am Z ?_))))))))
   refine Al (am (ml _ _ S h1) Z ⟨W,W,Aq⟩) ?_
   refine Al (am (ee _ _) Z ⟨W,W,Aq⟩) ?_
   refine Ap (aF 0 Z Z Z Z Z (leN Z) Z (Ap (aa (aG ?_))))
   exact aP Tryz.results103 (.cellB 0 Z Z Z (bY (by unfold sv;cases n1 <;> cases n2 <;> simp at hc ⊢ <;> omega)))
theorem xm (n1 n2:Bool) (v1 v2:Nat) (h1:(aK v1).length≤1099511627776) (h2:(aK v2).length≤1099511627776):Ok Tryz.prog 101 [sgT n1 v1,sgT n2 v2] (bm (sv n1 v1 - sv n2 v2)):=by
 refine Ok.enter Tryz.func101 Z Tryz.ntmps101 Z (fun w O => ?_)
 refine ah (aj ?_)
 refine aY Z Z (ltN Z) (fun b => ?_)
 refine aY Z Z (ltN Z) (fun b => ?_)
 refine aT (T:=55) Z (ltN Z) (fun b => ?_)
 refine Ap (aa (ah (aj (Al (aL 2 Z Z) (Al (ab Z) (Al (ak 1 Z Z Z) (Al (bx Z) (Al (ab Z) (Al (ak 1 Z Z Z) ?_)))))))))
 refine stB Z Z Z (BuildK.cons Z Z Z (BuildK.cons Z Z Z (BuildK.nil ?_)))
 refine Al (am (uq n1 (!n2) v1 v2 h1 h2) Z ⟨W,W,Aq⟩) ?_
 refine aF 0 Z Z Z Z Z (leN Z) Z (Ap (aa (aG ?_)))
 exact aP Tryz.results101 (.cellB 0 Z Z Z (bY (by unfold sv;cases n2 <;> simp <;> omega)))
theorem xn (n1 n2:Bool) (v1 v2:Nat) (h1:(aK v1).length≤1099511627776) (h2:(aK v2).length≤1099511627776):Ok Tryz.prog 102 [sgT n1 v1,sgT n2 v2] (bm (sv n1 v1*sv n2 v2)):=by
 refine Ok.enter Tryz.func102 Z Tryz.ntmps102 Z (fun w O => ?_)
 refine ah (aj ?_)
 refine aY Z Z (ltN Z) (fun b => ?_)
 refine aY Z Z (ltN Z) (fun b => ?_)
 refine aT (T:=55) Z (ltN Z) (fun b => ?_)
 refine Ap (aa (ah (aZ 13 aV X Y (Al (ab Z) (Al (ak 2 Z Z Z) (Al (ab Z) (Al (ak 1 Z Z Z) (Al (f7 Z Z) (Al (ab Z) ?_)))))))))
 refine Al (ak 2 Z Z Z) ?_
 refine Al (am (dE _) Z ⟨cU _,Aq⟩) ?_
 refine Al (ab Z) (Al (ak 1 Z Z Z) ?_)
 refine Al (am (dE _) Z ⟨cU _,Aq⟩) ?_
 skip
 refine Al (am (up _ _ h1 h2) Z ⟨W,W,Aq⟩) ?_
 refine Al (am (ee _ _) Z ⟨W,W,Aq⟩) ?_
 refine Ap (aF 0 Z Z Z Z Z (leN Z) Z (Ap (aa (aG ?_))))
 exact aP Tryz.results102 (.cellB 0 Z Z Z (bY (by unfold sv;cases n1 <;> cases n2 <;> simp [Int.neg_mul,Int.mul_neg])))
theorem vQ {n1 n2:Bool} {v1 v2:Nat} (h:de (sv n1 v1)=de (sv n2 v2)):IntKind.i64.wrap (de (sv n1 v1)*kP v1 v2)=ev (sv n1 v1) (sv n2 v2):=by
 have key:de (sv n1 v1)*kP v1 v2=ev (sv n1 v1) (sv n2 v2):=by
  unfold de sv kP ev at *
  cases n1 <;> cases n2 <;> simp only [if_true,if_false,Bool.false_eq_true] at * <;> (repeat' split at h) <;> (try omega) <;> (repeat' split) <;> omega
 rw [key]
 unfold ev;split
 ·decide
 ·split <;> decide
theorem xo (n1 n2:Bool) (v1 v2:Nat):Ok Tryz.prog 84 [sgT n1 v1,sgT n2 v2] (one (.int .i64 (ev (sv n1 v1) (sv n2 v2)))):=by
 refine Ok.enter Tryz.func84 Z Tryz.ntmps84 Z (fun w O => ?_)
 refine ah (aj ?_)
 refine aY Z Z (ltN Z) (fun b => ?_)
 refine aY Z Z (ltN Z) (fun b => ?_)
 refine An Z (Ap (aa (ah (aZ 6 aV X Y (Al (aL 1 Z Z) ?_)))))
 refine Al (am (lJ n1 v1) Z ⟨W,Aq⟩) ?_
 refine Al (aL 0 Z Z) ?_
 refine Al (am (lJ n2 v2) Z ⟨W,Aq⟩) ?_
 refine An Z (An Z (Ap (Ap (aa (ah (ah (aj (Am Z (Am Z ?_)))))))))
 refine Al (dy Z Z) (Ap (aa ?_))
 refine a5 Z (fun hc => ?_) (fun hc => ?_) <;> simp only [decide_eq_true_eq,decide_eq_false_iff_not,ne_eq,Decidable.not_not] at hc
 ·refine ah (aj (Am Z (Am Z ?_)))
  refine Al (am (iQ _ _) Z ⟨W,W,Aq⟩) ?_
  refine An Z (Ap (aa (aG (aB ?_))))
  exact aP Tryz.results84 (.tmp Z (aq (by congr 1;unfold de at *; unfold ev;split at hc <;> split at hc <;> (try split at hc) <;> (try split at hc) <;> simp at * <;> (repeat' split) <;> omega)))
 ·refine au (aa (ah (aZ 10 aV X Y (Am Z (Al (ab Z) (Al (ak 1 Z Z Z) ?_))))))
  refine Al (am (dE _) Z ⟨cU _,Aq⟩) ?_
  refine Al (ab Z) (Al (ak 0 Z Z Z) ?_)
  refine Al (am (dE _) Z ⟨cU _,Aq⟩) ?_
  skip
  refine Al (am (jE _ _) Z ⟨W,W,Aq⟩) ?_
  refine Al (lk (r:=ev (sv n1 v1) (sv n2 v2)) Z Z (vQ hc)) (An Z (Ap (Ap (aa (aG ?_)))))
  exact aP Tryz.results84 (.tmp Z W)
end Tor
end
section
namespace Tor
open Go Go.RowKit Go.Proofs
theorem ny {nb neg:Bool} {v:Nat} (h:nb=(neg && decide (v≠0))):VT.le (bG 2 [(0, .one,one (.bool nb)),(1, .one,cg (aK v))]) (bm (if neg then -(v:Int) else v)):=by
 refine ej (fun q hq => ?_)
 simp only [List.mem_cons,List.not_mem_nil,or_false] at hq
 rcases hq with rfl | rfl
 ·have e:decide ((if neg then -(v:Int) else v)<0)=nb:=by rw [h]; cases neg <;> simp <;> (try omega) <;> (rw [Bool.eq_iff_iff]; simp;omega)
  exact ⟨_,List.mem_cons_self,jt (by rw [e])⟩
 ·refine ⟨_,List.mem_cons_of_mem _ List.mem_cons_self,j9 ?_⟩
  cases neg <;> simp
theorem r5 {b:Bool} {φ ψ:VT} (h:VT.le φ ψ):VT.le (bG 2 [(0, .one,one (.bool b)),(1, .one, φ)]) (bG 2 [(0, .one,one (.bool b)),(1, .one, ψ)]):=by
 refine ej (fun q hq => ?_)
 simp only [List.mem_cons,List.not_mem_nil,or_false] at hq
 rcases hq with rfl | rfl
 ·exact ⟨_,List.mem_cons_self,W⟩
 ·exact ⟨_,List.mem_cons_of_mem _ List.mem_cons_self,h⟩
attribute [local irreducible] J PJ aQ one slT cA bG bZ exT cE eP aX a8 slV VT.le Ret bS
attribute [local irreducible] bm
theorem dm (neg:Bool) (v:Nat):Ok Tryz.prog 58 [m0 v,one (.bool neg)] (bm (if neg then -(v:Int) else v)):=by
 refine Ok.enter Tryz.func58 Z Tryz.ntmps58 Z (fun w O => ?_)
 refine w5 (t:=0) Z (fun l=>t3 (t:=0) Z (fun ⟨hL,hv,hb⟩ => ?_))
 subst hv
 refine ah (aj ?_)
 refine aT (T:=55) Z (ltN Z) (fun b => ?_)
 refine Ap (aa (ah (aj (Am Z (Al (be Z) (An Z (Ap (aa (ah ?_)))))))))
 refine ar ?_
 refine cO (σ:=Nat) (fun n => [(0,cg l),(1,one (.bool neg)),(4,one (.pointer (some ⟨b,0,none⟩))),(5,one (.int .i64 n))]) (fun _ => [aX b 55 2 [(0, .agg 2,one (.agg #[.bool false, .slice none 0 0]))]]) (fun n=>n≤l.length∧gg l n=gg l l.length) (fun n=>n) l.length ⟨Nat.le_refl _,rfl⟩ Ai (SubM.refl _) (fun n ⟨hn,ht⟩ => ?_)
 have hd:=mi hL
 refine ah (ah ?_)
 refine fh (σ:=Unit) (fun _ => [(0,cg l),(1,one (.bool neg)),(4,one (.pointer (some ⟨b,0,none⟩))),(5,one (.int .i64 n)),(17,one (.bool (decide (0<n∧l.getD (n - 1) 0=0))))]) (fun _ => [aX b 55 2 [(0, .agg 2,one (.agg #[.bool false, .slice none 0 0]))]]) (fun _=>True) ?_ (fun _ _ => ?_)
 ·by_cases h0:0<n
  ·obtain ⟨n,rfl⟩ : ∃ m,n=m+1:=⟨n - 1,by omega⟩
   refine aj (Am Z (Al (dS Z Z) (Am Z ?_)))
   refine jp (t:=10) Z (fun b hb => ?_)
   rw [hb]
   have:b=true:=by rw [← hb]; simp
   subst this
   refine Ao (ae Z) (Ao (ae Z) ?_)
   (refine Ao (ey Z Z (aR ?_ ?_)) ?_;omega;omega)
   (refine Ao (ed Z Z ?_ ?_) ?_;omega;omega)
   refine Ao (aH Z) (Ao (cj Z Z) (Al (aE Z Z) (Ap ?_)))
   exact cZ () trivial (.cons Z W (.cons Z W (.cons Z W (.cons Z W (.cons Z (aq (by simp)) .nil))))) (SubM.refl _)
  ·refine aj (Am Z (Al (dS Z Z) (Am Z ?_)))
   refine jp (t:=10) Z (fun b hb => ?_)
   rw [hb]
   have:b=false:=by rw [← hb]; simp;omega
   subst this
   refine sg0 Z Z Z Z (sg0 Z Z Z Z (sg0 Z Z Z Z (sg0 Z Z Z Z (sg0 Z Z Z Z (sg0 Z Z Z Z (Al (ay Z Z) (Ap ?_)))))))
   exact cZ () trivial (.cons Z W (.cons Z W (.cons Z W (.cons Z W (.cons Z (aq (by simp;omega)) .nil))))) (SubM.refl _)
 ·refine aa ?_
  refine a5 Z (fun hc => ?_) (fun hc => ?_) <;> simp only [decide_eq_true_eq,decide_eq_false_iff_not] at hc
  ·obtain ⟨n,rfl⟩ : ∃ m,n=m+1:=⟨n - 1,by omega⟩
   refine au (aa (ar (aj (Am Z ?_))))
   (refine Al (ey Z Z (aR ?_ ?_)) ?_;omega;omega)
   refine An Z (Ap (aD ?_))
   refine bM (s:=n+1) n ⟨by omega,by have h2:l.getD n 0=0:=hc.2;rw [← ht,gg,if_pos h2]⟩ S Ai (SubM.refl _)
  ·have hz:gg l n=n:=by
    cases n with
    | zero => rfl
    | succ n =>
     have h2 : ¬ l.getD n 0=0:=fun h=>hc ⟨by omega,h⟩
     rw [gg,if_neg h2]
   rw [ht] at hz
   rw [hz] at hd
   have hlen:(aK (lv l)).length=n:=by rw [← hd,List.length_take_of_le hn]
   have hnz:(0<n)↔lv l≠0:=by
    constructor
    ·intro h e;rw [e] at hlen;simp [gR] at hlen;omega
    ·intro h;rw [← hlen]; exact Nat.pos_of_ne_zero (fun e=>h (by rw [← bU (lv l),List.eq_nil_of_length_eq_zero e]; rfl))
   have hmag:VT.le (slT .one (0+((n:Int) - 0).toNat) fun q=>if q<0 then [].reverse.getD q bS else one (.int .u32 (l.getD (Int.toNat 0+(q - 0)) 0:Nat))) (cg (aK (lv l))) :=
    VT.le_trans (cL (m:=(l.take n).length) (ψ:=fun q=>one (.int .u32 ((l.take n).getD q 0:Nat))) (by rw [List.length_take_of_le hn]; omega) (fun q hq=>by
     simp only [Nat.not_lt_zero,if_false]
     rw [show Int.toNat 0+(q - 0)=q from by simp]
     simp [List.getElem?_take_of_lt (show q<n by omega)])) (j9 hd)
   cases neg
   ·refine aU (av (av (aC (aa (ah (aj (Am Z (Am Z (sg0 Z Z Z Z ?_)))))))))
    refine sg0 Z Z Z Z (Al (ay Z Z) (sJ (n:=0) Z Z Z Z Z ?_))
    refine PartsK.nil (fun b => ?_)
    refine Am Z (Am Z ?_)
    (refine Al (fx Z Z Z Z (fun _=>rfl) ?_ ?_ ?_ ?_) ?_;omega;omega;omega;omega)
    (refine fD 0 Z Z Z (leN Z) ?_ ?_ Z (ltN Z) (fun sv cap => ?_);omega;omega)
    refine g7 (t:=29) (j:=0) Z Z (stB Z Z Z (BuildK.cons Z Z Z (BuildK.cons Z Z Z (BuildK.nil (aF 0 Z Z Z Z Z (leN Z) Z (Ap (aa (aG ?_))))))))
    exact aP Tryz.results58 (.cellB 0 Z Z Z (VT.le_trans (r5 hmag) (ny (by simp))))
   ·refine aU (av (av (aC (aa (ah (aj (Am Z (Am Z (Ao (ae Z) ?_)))))))))
    refine Ao (dS Z Z) (Al (aE Z Z) (sJ (n:=0) Z Z Z Z Z ?_))
    refine PartsK.nil (fun b => ?_)
    refine Am Z (Am Z ?_)
    (refine Al (fx Z Z Z Z (fun _=>rfl) ?_ ?_ ?_ ?_) ?_;omega;omega;omega;omega)
    (refine fD 0 Z Z Z (leN Z) ?_ ?_ Z (ltN Z) (fun sv cap => ?_);omega;omega)
    refine g7 (t:=29) (j:=0) Z Z (stB Z Z Z (BuildK.cons Z Z Z (BuildK.cons Z Z Z (BuildK.nil (aF 0 Z Z Z Z Z (leN Z) Z (Ap (aa (aG ?_))))))))
    exact aP Tryz.results58 (.cellB 0 Z Z Z (VT.le_trans (r5 hmag) (ny (by rw [Bool.true_and]; exact decide_eq_decide.2 (by rw [← hnz]; omega)))))
end Tor
end
section
namespace Tor
open Go Go.RowKit Go.Proofs
attribute [local irreducible] J PJ aQ one slT cA bG bZ exT cE eP aX a8 slV VT.le Ret bS
theorem kf (a b:Nat):Ok Tryz.prog 60 [cg (aK a),cg (aK b)] (one (.bool (decide (a<b)))):=by
 refine Ok.enter Tryz.func60 Z Tryz.ntmps60 Z (fun w O => ?_)
 refine gC (t:=0) Z (fun _ _=>et) (fun hb => ?_)
 refine ah (aj (An Z (Ap (aa (ah (ah (aj (Am Z (Al (be Z) ?_)))))))))
 refine Am Z (Al (be Z) (Al (dy Z Z) (Ap (aa ?_))))
 refine a5 Z (fun hc => ?_) (fun hc => ?_) <;> simp only [decide_eq_true_eq,decide_eq_false_iff_not,ne_eq,Decidable.not_not] at hc
 ·refine ah (aj (Am Z (Al (be Z) (Am Z (Al (be Z) (Al (aS Z Z) (An Z (Ap (aa ?_)))))))))
  refine aG (aB ?_)
  refine aP Tryz.results60 (.tmp Z (aq ?_))
  congr 1
  rw [decide_eq_decide]
  constructor
  ·intro h;exact gH S
  ·intro h;have:=co (Nat.le_of_lt h);omega
 ·have hlen:(aK a).length=(aK b).length:=by omega
  refine au (aa (ah (ah (aj (Am Z (Al (be Z) ?_))))))
  (refine Al (ey Z Z (aR ?_ ?_)) ?_;omega;omega)
  refine An Z (Ap (aa (ar ?_)))
  refine cO (σ:=Nat) (fun n => [(0,cg (aK a)),(1,cg (aK b)),(5,one (.int .i64 ((n:Int) - 1)))]) (fun _ => []) (fun n=>n≤(aK a).length∧(aK a).drop n=(aK b).drop n) (fun n=>n) (aK a).length
   ⟨Nat.le_refl _,by rw [List.drop_length,hlen,List.drop_length]⟩ Ai (SubM.refl _) (fun n ⟨hn,hd⟩ => ?_)
  refine ah (ah (aj (Am Z (Al (fd Z Z) (Ap (aa ?_))))))
  refine a5 Z (fun hc2 => ?_) (fun hc2 => ?_) <;> simp only [decide_eq_true_eq,decide_eq_false_iff_not] at hc2
  ·obtain ⟨n,rfl⟩ : ∃ m,n=m+1:=⟨n - 1,by omega⟩
   have e:((n+1:Nat):Int) - 1=n:=by omega
   rw [e]
   refine au (aa (ah (ar (ah (aZ 9 aV X Y (Am Z (Am Z ?_)))))))
   (refine Al (ax Z Z ?_) ?_;omega)
   refine Al (aH Z) (Am Z (Am Z ?_))
   (refine Al (ax Z Z ?_) ?_;omega)
   refine Al (aH Z) (Al (dy Z Z) (Ap (Ap (aa ?_))))
   refine a5 Z (fun hc3 => ?_) (fun hc3 => ?_) <;> simp only [decide_eq_true_eq,decide_eq_false_iff_not,ne_eq,Decidable.not_not] at hc3
   ·refine ah (aZ 10 aV X Y (Am Z (Am Z ?_)))
    (refine Al (ax Z Z ?_) ?_;omega)
    refine Al (aH Z) (Am Z (Am Z ?_))
    (refine Al (ax Z Z ?_) ?_;omega)
    refine Al (aH Z) (Al (aS Z Z) (An Z (Ap (Ap (aa (aG (a6 (aB (aB ?_)))))))))
    refine a6 (aB ?_)
    refine aP Tryz.results60 (.tmp Z (aq ?_))
    congr 1
    rw [decide_eq_decide]
    by_cases h1:(aK a).getD n 0<(aK b).getD n 0
    ·have:=ou (bh a) (bh b) hlen (i:=n) S hd h1
     rw [bU,bU] at this
     exact ⟨fun _=>this,fun _=>by omega⟩
    ·have:=ou (bh b) (bh a) hlen.symm (i:=n) S hd.symm S
     rw [bU,bU] at this
     exact ⟨fun h=>by omega,fun h=>by omega⟩
   ·refine au (aD (aa (aj (Am Z ?_))))
    (refine Al (ey Z Z (aR ?_ ?_)) ?_;omega;omega)
    refine An Z (Ap ?_)
    refine bM (s:=n+1) n ⟨by omega,?_⟩ S Ai (SubM.refl _)
    have h3:(aK a).getD n 0=(aK b).getD n 0:=by omega
    have e1:=fl (l:=aK a) (k:=n) S
    have e2:=fl (l:=aK b) (k:=n) S
    rw [e1,e2,h3,hd]
  ·refine aU (av (av (aC (aa (ah (aj (An Z (Ap (aa ?_)))))))))
   refine aG ?_
   have h0:n=0:=by omega
   subst h0
   have h4:a=b:=pM (by simpa using hd)
   exact aP Tryz.results60 (.tmp Z (aq (by subst h4;simp)))
theorem ur (neg:Bool) (v:Nat):Ok Tryz.prog 43 [sgT neg v] (one (.int .i64 (de (sv neg v)))):=by
 refine Ok.enter Tryz.func43 Z Tryz.ntmps43 Z (fun w O => ?_)
 refine ah (aj ?_)
 refine aY Z Z (ltN Z) (fun b => ?_)
 refine An Z (Ap (aa (ah (ah (aj (Al (ab Z) (Al (ak 0 Z Z Z) (Al (be Z) (Al (cj Z Z) ?_)))))))))
 refine Ap (aa ?_)
 refine a5 Z (fun hc => ?_) (fun hc => ?_) <;> simp at hc
 ·have hv:v=0:=by rw [← bU v,hc]; rfl
  refine ah (aj (An Z (Ap (aa (aG (aB ?_))))))
  exact aP Tryz.results43 (.tmp Z (aq (by subst hv;simp [de,sv])))
 ·have hv:v≠0:=by intro e;subst e;exact hc Z
  refine au (aa (ah (ah (aj (Al (ab Z) (Al (ak 0 Z Z Z) (Ap (aa ?_))))))))
  refine a5 Z (fun hc2 => ?_) (fun hc2 => ?_)
  ·subst hc2
   refine ah (aj (An Z (Ap (aa (aG (aB ?_))))))
   exact aP Tryz.results43 (.tmp Z (aq (by congr 1;unfold de sv;simp only [if_true]; rw [if_neg S,if_pos S])))
  ·subst hc2
   refine au (aa (ah (aj (An Z (Ap (aa (aG ?_)))))))
   exact aP Tryz.results43 (.tmp Z (aq (by congr 1;unfold de sv;simp only [Bool.false_eq_true,if_false]; rw [if_neg S,if_neg S])))
theorem ut (x y:Int):Ok Tryz.prog 92 [bm x,bm y] (one (.bool (decide (x=y)))):=by
 refine Ok.enter Tryz.func92 Z Tryz.ntmps92 Z (fun w O => ?_)
 refine ah (aj ?_)
 refine aY Z Z (ltN Z) (fun b => ?_)
 refine aY Z Z (ltN Z) (fun b => ?_)
 refine An Z (Ap (aa (ah (aj (Al (ab Z) (Al (ak 1 Z Z Z) (Al (ab Z) (Al (ak 0 Z Z Z) (Al (pk Z Z) ?_)))))))))
 refine Am Z ?_
 refine jp (t:=10) Z (fun b hb => ?_)
 rw [hb]
 cases b
 ·refine sg0 Z Z Z Z (sg0 Z Z Z Z (sg0 Z Z Z Z (sg0 Z Z Z Z (sg0 Z Z Z Z (sg0 Z Z Z Z (Al (ay Z Z) (Am Z (sg0 Z Z Z Z (sg0 Z Z Z Z ?_)))))))))
  refine sg0 Z Z Z Z (sg0 Z Z Z Z (sg0 Z Z Z Z (sg0 Z Z Z Z (Al (ay Z Z) (An Z (Ap (aa (aG ?_))))))))
  refine aP Tryz.results92 (.tmp Z (aq ?_))
  congr 1
  have : ¬ (x=y):=by intro e;subst e;simp at hb
  simp [this]
 ·have hs:(x<0)↔(y<0):=by simpa using hb
  refine Ao (ab Z) (Ao (ak 1 Z Z Z) (Ao (ab Z) (Ao (ak 0 Z Z Z) ?_)))
  refine Ao (am (kf _ _) Z ⟨W,W,Aq⟩) ?_
  refine Ao (bx Z) (Al (aE Z Z) (Am Z ?_))
  refine jp (t:=18) Z (fun b hb2 => ?_)
  rw [hb2]
  cases b
  ·refine sg0 Z Z Z Z (sg0 Z Z Z Z (sg0 Z Z Z Z (sg0 Z Z Z Z (sg0 Z Z Z Z (sg0 Z Z Z Z (Al (ay Z Z) (An Z (Ap (aa ?_)))))))))
   refine aG ?_
   refine aP Tryz.results92 (.tmp Z (aq ?_))
   congr 1
   simp at hb2
   have : ¬ (x=y):=by intro e;subst e;omega
   simp [this]
  ·simp at hb2
   refine Ao (ab Z) (Ao (ak 0 Z Z Z) (Ao (ab Z) (Ao (ak 1 Z Z Z) ?_)))
   refine Ao (am (kf _ _) Z ⟨W,W,Aq⟩) ?_
   refine Ao (bx Z) (Al (aE Z Z) (An Z (Ap (aa (aG ?_)))))
   refine aP Tryz.results92 (.tmp Z (aq ?_))
   congr 1
   rw [← decide_not,decide_eq_decide]
   omega
end Tor
end
section
namespace Tor
open Go Go.RowKit Go.Proofs
theorem gh (l:List Nat) (k:Nat):lv (l.take (k+1))=lv (l.take k)+4294967296^k*l.getD k 0:=by
 by_cases hk:k<l.length
 ·exact bI hk
 ·rw [List.take_of_length_le S,List.take_of_length_le S]; simp [List.getElem?_eq_none (Nat.le_of_not_lt hk)]
structure RPlus (lx ly zl:List Nat) (c:Nat):Prop where
 lim:bB zl
 c1:c≤1
 val:lv zl+4294967296^zl.length*c=lv (lx.take zl.length)+lv (ly.take zl.length)
 len:zl.length≤max lx.length ly.length+1
 big:max lx.length ly.length<zl.length→c=0
theorem RPlus.step {lx ly zl:List Nat} {c:Nat} (h:RPlus lx ly zl c) (hx:bB lx) (hy:bB ly) (hgo:zl.length<lx.length∨zl.length<ly.length∨0<c) :
  RPlus lx ly (zl ++ [(c+lx.getD zl.length 0+ly.getD zl.length 0) % 4294967296]) ((c+lx.getD zl.length 0+ly.getD zl.length 0) / 4294967296):=by
 have h1:=bk hx zl.length
 have h2:=bk hy zl.length
 have h3:=h.c1
 refine ⟨fun d hd => ?_,by omega,?_,?_,?_⟩
 ·rcases List.mem_append.1 hd with hd | hd
  ·exact h.lim d hd
  ·simp at hd;omega
 ·simp only [List.length_append,List.length_cons,List.length_nil,Nat.zero_add]
  rw [fk,gh,gh,Nat.pow_succ]
  have hv:=h.val
  generalize lx.getD zl.length 0=x at *
  generalize ly.getD zl.length 0=y at *
  generalize 4294967296^zl.length=B at *
  have e:(c+x+y)=4294967296*((c+x+y) / 4294967296)+(c+x+y) % 4294967296:=by omega
  generalize (c+x+y) / 4294967296=q at *
  generalize (c+x+y) % 4294967296=r at *
  simp only [lv,Nat.mul_zero,Nat.add_zero]
  have e2:B*(c+x+y)=B*(4294967296*q+r):=by rw [e]
  simp only [Nat.mul_add,Nat.mul_assoc] at e2 ⊢
  omega
 ·simp only [List.length_append,List.length_cons,List.length_nil,Nat.zero_add]
  have:=h.big;omega
 ·simp only [List.length_append,List.length_cons,List.length_nil,Nat.zero_add]
  intro hb
  have e1:lx.getD zl.length 0=0:=by simp [List.getElem?_eq_none (show lx.length≤zl.length by omega)]
  have e2:ly.getD zl.length 0=0:=by simp [List.getElem?_eq_none (show ly.length≤zl.length by omega)]
  rw [e1,e2]; omega
theorem pO (zl:List Nat) (v:Nat) : ∀ q,q<zl.length+1→(if q<zl.length then one (.int .u32 (zl.getD q 0:Nat)) else one (.int .u32 (v:Nat)))=one (.int .u32 ((zl ++ [v]).getD q 0:Nat)):=by
 intro q hq
 rw [jc]
 by_cases h:q<zl.length
 ·rw [if_pos h,if_neg S]
 ·have:q=zl.length:=by omega
  subst this
  rw [if_neg h,if_pos Z]
theorem mn {sv:Option Nat} {T:TypeId} {L:Lay} {cap n m:Nat} {φ ψ:Nat→VT} (h:n=m) (Ae : ∀ q,q<n→φ q=ψ q):Own.le (a8 sv T L cap n φ) (a8 sv T L cap m ψ):=by
 subst h;exact cy Ae
theorem ov {sv:Option Nat} {n m cap:Nat} (h:n=m):VT.le (one (slV sv n cap)) (one (slV sv m cap)):=h▸VT.le_refl _
attribute [local irreducible] J PJ aQ one slT cA bG bZ exT cE eP aX a8 slV VT.le Ret bS
theorem uu (a b:Nat) (ha:(aK a).length≤1099511627776) (hb:(aK b).length≤1099511627776):Ok Tryz.prog 59 [cg (aK a),cg (aK b)] (m0 (a+b)):=by
 refine Ok.enter Tryz.func59 Z Tryz.ntmps59 Z (fun w O => ?_)
 have hx:=bh a
 have hy:=bh b
 have hva:=bU a
 have hvb:=bU b
 generalize aK a=lx at *
 generalize aK b=ly at *
 refine ah (aj (An Z (Ap (aa (ah (aj (sJ (n:=0) Z Z Z Z Z ?_)))))))
 refine PartsK.nil (fun b => ?_)
 refine An Z (An Z (Ap (aa (ah (ah (aj (An Z (Ap (aa ?_)))))))))
 refine ar ?_
 refine cO (σ:=List Nat × Nat × Option Nat × Nat) (fun s => [(0,cg lx),(1,cg ly),(5,one (slV s.2.2.1 s.1.length s.2.2.2)),(6,one (.int .u64 (s.2.1:Nat))),(7,one (.int .i64 s.1.length))])
   (fun s => [a8 s.2.2.1 90 .one s.2.2.2 s.1.length (fun q=>one (.int .u32 (s.1.getD q 0:Nat)))]) (fun s=>RPlus lx ly s.1 s.2.1) (fun s=>2*(max lx.length ly.length - s.1.length)+s.2.1) ([],0,some b,0)
   ⟨(fun d hd=>by cases hd),Nat.zero_le _,by simp [lv],by simp,by simp⟩ Ai (.keep (cy (fun q hq=>by omega)) .nil) (fun s hR => ?_)
 obtain ⟨zl,c,sv0,cap0⟩:=s
 simp only at hR ⊢
 have h3:=hR.c1
 have hlen:=hR.len
 refine ah (ah ?_)
 refine fh (σ:=Unit) (fun _ => [(0,cg lx),(1,cg ly),(5,one (slV sv0 zl.length cap0)),(6,one (.int .u64 (c:Nat))),(7,one (.int .i64 zl.length)),(22,one (.bool (decide (zl.length<lx.length∨zl.length<ly.length∨0<c))))])
  (fun _ => [a8 sv0 90 .one cap0 zl.length (fun q=>one (.int .u32 (zl.getD q 0:Nat)))]) (fun _=>True) ?_ (fun _ _ => ?_)
 ·refine aj (Am Z (Am Z (Al (be Z) (Al (aS Z Z) (Am Z ?_)))))
  refine jp (t:=13) Z (fun b h1 => ?_)
  rw [h1]
  cases b
  ·simp at h1
   refine Ao (ae Z) (Ao (ae Z) (Ao (be Z) (Ao (aS Z Z) (Al (ay Z Z) (Am Z ?_)))))
   refine jp (t:=19) Z (fun b h2 => ?_)
   rw [h2]
   cases b
   ·simp at h2
    refine Ao (ae Z) (Ao (dS Z Z) (Al (ay Z Z) (Ap ?_)))
    exact cZ () trivial (.cons Z W (.cons Z W (.cons Z W (.cons Z W (.cons Z W (.cons Z (aq (by congr 1;rw [decide_eq_decide]; omega)) .nil)))))) (SubM.refl _)
   ·simp at h2
    refine sg0 Z Z Z Z (sg0 Z Z Z Z (Al (aE Z Z) (Ap ?_)))
    exact cZ () trivial (.cons Z W (.cons Z W (.cons Z W (.cons Z W (.cons Z W (.cons Z (aq (by simp;omega)) .nil)))))) (SubM.refl _)
  ·simp at h1
   refine sg0 Z Z Z Z (sg0 Z Z Z Z (sg0 Z Z Z Z (sg0 Z Z Z Z (Al (aE Z Z) (Am Z (sg0 Z Z Z Z (sg0 Z Z Z Z (Al (aE Z Z) (Ap ?_)))))))))
   exact cZ () trivial (.cons Z W (.cons Z W (.cons Z W (.cons Z W (.cons Z W (.cons Z (aq (by simp;omega)) .nil)))))) (SubM.refl _)
 ·refine aa ?_
  refine a5 Z (fun hc => ?_) (fun hc => ?_) <;> simp only [decide_eq_true_eq,decide_eq_false_iff_not] at hc
  ·have hstep:=hR.step hx hy hc
   have g1:=bk hx zl.length
   have g2:=bk hy zl.length
   refine au (aa (ah (ar (ah (ah (aj (Am Z (Am Z (Al (be Z) ?_)))))))))
   refine Al (aS Z Z) (Ap (aa ?_))
   refine fh (σ:=Unit) (fun _ => [(0,cg lx),(1,cg ly),(5,one (slV sv0 zl.length cap0)),(6,one (.int .u64 (c+lx.getD zl.length 0:Nat))),(7,one (.int .i64 zl.length))])
    (fun _ => [a8 sv0 90 .one cap0 zl.length (fun q=>one (.int .u32 (zl.getD q 0:Nat)))]) (fun _=>True) ?_ (fun _ _ => ?_)
   ·refine a5 Z (fun hc2 => ?_) (fun hc2 => ?_) <;> simp only [decide_eq_true_eq,decide_eq_false_iff_not] at hc2
    ·refine aj (Am Z (Am Z (Am Z ?_)))
     (refine Al (ax Z Z ?_) ?_;omega)
     refine Al (aH Z) ?_
     (refine Al (bL Z ?_) ?_;omega)
     (refine Al (d5 Z Z ?_) ?_;omega)
     refine An Z (Ap ?_)
     exact cZ () trivial Ai (SubM.refl _)
    ·have e0:lx.getD zl.length 0=0:=by simp [List.getElem?_eq_none (show lx.length≤zl.length by omega)]
     refine au ?_
     exact cZ () trivial Ai (SubM.refl _)
   ·refine aa (ah (ah (aj (Am Z (Am Z (Al (be Z) (Al (aS Z Z) (Ap (aa ?_)))))))))
    refine fh (σ:=Unit) (fun _ => [(0,cg lx),(1,cg ly),(5,one (slV sv0 zl.length cap0)),(6,one (.int .u64 (c+lx.getD zl.length 0+ly.getD zl.length 0:Nat))),(7,one (.int .i64 zl.length))])
     (fun _ => [a8 sv0 90 .one cap0 zl.length (fun q=>one (.int .u32 (zl.getD q 0:Nat)))]) (fun _=>True) ?_ (fun _ _ => ?_)
    ·refine a5 Z (fun hc2 => ?_) (fun hc2 => ?_) <;> simp only [decide_eq_true_eq,decide_eq_false_iff_not] at hc2
     ·refine aj (Am Z (Am Z (Am Z ?_)))
      (refine Al (ax Z Z ?_) ?_;omega)
      refine Al (aH Z) ?_
      (refine Al (bL Z ?_) ?_;omega)
      (refine Al (d5 Z Z ?_) ?_;omega)
      refine An Z (Ap ?_)
      exact cZ () trivial Ai (SubM.refl _)
     ·have e0:ly.getD zl.length 0=0:=by simp [List.getElem?_eq_none (show ly.length≤zl.length by omega)]
      refine au ?_
      exact cZ () trivial Ai (SubM.refl _)
    ·refine aa (ah (aj (Am Z (Am Z (Al (cM Z) (pt Z Z Z Z ?_))))))
     (refine fD 0 Z Z Z (leN Z) ?_ ?_ Z (ltN Z) (fun sv cap => ?_);omega;omega)
     refine An Z (Ap (aa (aj (Am Z ?_))))
     (refine Al (rG Z ?_) ?_;omega)
     refine An Z (Ap (aD (aa (aj (Am Z ?_)))))
     (refine Al (cq Z Z (aR ?_ ?_)) ?_;omega;omega)
     refine An Z (Ap ?_)
     refine bM (s:=(zl,c,sv0,cap0)) (zl ++ [(c+lx.getD zl.length 0+ly.getD zl.length 0) % 4294967296],(c+lx.getD zl.length 0+ly.getD zl.length 0) / 4294967296,sv,cap) hstep ?_ (.cons Z W (.cons Z W (.cons Z (ov (by simp)) (.cons Z W (.cons Z (aq (by simp)) .nil))))) (.keep (mn (by simp) (fun q hq=>pO zl _ q (by simpa using hq))) .nil)
     have h8:=hstep.c1
     have h9:=hstep.big
     have h10:=hR.big
     simp only [List.length_append,List.length_cons,List.length_nil,Nat.zero_add] at *
     omega
  ·refine aU (av (av (aC (aa (ah (aj (Am Z (An Z (Ap ?_)))))))))
   refine aa (aG (dz (t:=4) (i:=0) Z Z ?_))
   refine aP Tryz.results59 (.tmp Z (gy (l:=zl) hR.lim ?_ S))
   have h4:=hR.val
   have h5:c=0:=by omega
   rw [h5,List.take_of_length_le S,List.take_of_length_le S,hva,hvb] at h4
   omega
end Tor
end
section
namespace Tor
open Go Go.RowKit Go.Proofs
theorem RMinus.step {lx ly zl:List Nat} {c:Nat} (h:MinusR lx ly zl c) (hx:bB lx) (hy:bB ly) (hl:ly.length≤lx.length) (hlt:zl.length<lx.length) :
  MinusR lx ly (zl ++ [(lx.getD zl.length 0+4294967296 - c - ly.getD zl.length 0) % 4294967296]) (if lx.getD zl.length 0<c+ly.getD zl.length 0 then 1 else 0):=by
 have h1:=bk hx zl.length
 have h2:=bk hy zl.length
 have h3:=h.c1
 have:=h.step hx hy hl hlt Z
 generalize lx.getD zl.length 0=x at *
 generalize ly.getD zl.length 0=y at *
 have e1:((x+18446744073709551616 - c) % 18446744073709551616+18446744073709551616 - y) % 18446744073709551616 % 4294967296=(x+4294967296 - c - y) % 4294967296:=by omega
 have e2:((x+18446744073709551616 - c) % 18446744073709551616+18446744073709551616 - y) % 18446744073709551616 / 9223372036854775808=if x<c+y then 1 else 0:=by split <;> omega
 rw [e1,e2] at this
 exact this
theorem sY (zl:List Nat) (v:Nat) : ∀ q,q<zl.length+1→v<4294967296→(if q<zl.length then one (.int .u32 (zl.getD q 0:Nat)) else one (.int .u32 (v % 4294967296:Nat)))=one (.int .u32 ((zl ++ [v]).getD q 0:Nat)):=by
 intro q hq hv
 rw [Nat.mod_eq_of_lt hv]
 exact pO zl v q hq
attribute [local irreducible] J PJ aQ one slT cA bG bZ exT cE eP aX a8 slV VT.le Ret bS
theorem nA (a b:Nat) (hab:b≤a) (ha:(aK a).length≤1099511627776):Ok Tryz.prog 61 [cg (aK a),cg (aK b)] (m0 (a - b)):=by
 refine Ok.enter Tryz.func61 Z Tryz.ntmps61 Z (fun w O => ?_)
 have hx:=bh a
 have hy:=bh b
 have hl:=co hab
 have hva:=bU a
 have hvb:=bU b
 generalize aK a=lx at *
 generalize aK b=ly at *
 refine ah (aj (An Z (Ap (aa (ah (aj (sJ (n:=0) Z Z Z Z Z ?_)))))))
 refine PartsK.nil (fun b => ?_)
 refine An Z (An Z (Ap (aa (ah (ah (aj (An Z (Ap (aa ?_)))))))))
 refine ar ?_
 refine cO (σ:=List Nat × Nat × Option Nat × Nat) (fun s => [(0,cg lx),(1,cg ly),(5,one (slV s.2.2.1 s.1.length s.2.2.2)),(6,one (.int .i64 (s.2.1:Nat))),(7,one (.int .i64 s.1.length))])
   (fun s => [a8 s.2.2.1 90 .one s.2.2.2 s.1.length (fun q=>one (.int .u32 (s.1.getD q 0:Nat)))]) (fun s=>MinusR lx ly s.1 s.2.1) (fun s=>lx.length - s.1.length) ([],0,some b,0)
   ⟨by simp,(fun d hd=>by cases hd),Nat.zero_le _,by simp [lv]⟩ Ai (.keep (cy (fun q hq=>by omega)) .nil) (fun s hR => ?_)
 obtain ⟨zl,c,sv0,cap0⟩:=s
 simp only at hR ⊢
 have h3:=hR.c1
 have hlen:=hR.len
 refine ah (ah (aj (Am Z (Am Z (Al (be Z) (Al (aS Z Z) (Ap (aa ?_))))))))
 refine a5 Z (fun hc => ?_) (fun hc => ?_) <;> simp at hc
 ·have hstep:=RMinus.step hR hx hy hl hc
  have g1:=bk hx zl.length
  have g2:=bk hy zl.length
  refine au (aa (ah (ar (ah (aj (Am Z (Am Z ?_)))))))
  (refine Al (ax Z Z ?_) ?_;omega)
  refine Al (aH Z) ?_
  (refine Al (fy Z ?_ ?_) ?_;omega;omega)
  refine Am Z ?_
  (refine Al (ey Z Z (aR ?_ ?_)) ?_;omega;omega)
  refine An Z (Ap (aa (ah (ah (aj (Am Z (Am Z (Al (be Z) (Al (aS Z Z) ?_)))))))))
  refine Ap (aa ?_)
  refine fh (σ:=Unit) (fun _ => [(0,cg lx),(1,cg ly),(5,one (slV sv0 zl.length cap0)),(8,one (.int .i64 ((lx.getD zl.length 0:Nat) - (c:Nat) - (ly.getD zl.length 0:Nat)))),(7,one (.int .i64 zl.length))])
   (fun _ => [a8 sv0 90 .one cap0 zl.length (fun q=>one (.int .u32 (zl.getD q 0:Nat)))]) (fun _=>True) ?_ (fun _ _ => ?_)
  ·refine a5 Z (fun hc => ?_) (fun hc => ?_) <;> simp at hc
   ·refine aj (Am Z (Am Z (Am Z ?_)))
    (refine Al (ax Z Z ?_) ?_;omega)
    refine Al (aH Z) ?_
    (refine Al (fy Z ?_ ?_) ?_;omega;omega)
    (refine Al (ey Z Z (aR ?_ ?_)) ?_;omega;omega)
    refine An Z (Ap ?_)
    exact cZ () trivial Ai (SubM.refl _)
   ·have e0:ly.getD zl.length 0=0:=by simp [List.getElem?_eq_none (show ly.length≤zl.length by omega)]
    refine au ?_
    exact cZ () trivial Ai (SubM.refl _)
  ·generalize lx.getD zl.length 0=x at *
   generalize ly.getD zl.length 0=y at *
   refine aa (ah (aj (An Z (Ap (aa (ah (ah (aj (Am Z ?_)))))))))
   refine Al (aS Z Z) (Ap (aa ?_))
   refine fh (σ:=Unit) (fun _ => [(0,cg lx),(1,cg ly),(5,one (slV sv0 zl.length cap0)),(6,one (.int .i64 ((if x<c+y then 1 else 0:Nat)))),(8,one (.int .i64 ((x+4294967296 - c - y) % 4294967296:Nat))),(7,one (.int .i64 zl.length))])
    (fun _ => [a8 sv0 90 .one cap0 zl.length (fun q=>one (.int .u32 (zl.getD q 0:Nat)))]) (fun _=>True) ?_ (fun _ _ => ?_)
   ·refine a5 Z (fun hc => ?_) (fun hc => ?_) <;> simp at hc
    ·refine ah (aj (Am Z ?_))
     (refine Al (cq Z Z (aR ?_ ?_)) ?_;omega;omega)
     refine An Z (Ap (aa (aj (An Z (Ap ?_)))))
     rw [if_pos S]
     exact cZ () trivial (.cons Z W (.cons Z W (.cons Z W (.cons Z W (.cons Z (aq (by congr 1;omega)) (.cons Z W .nil)))))) (SubM.refl _)
    ·refine au ?_
     rw [if_neg S]
     exact cZ () trivial (.cons Z W (.cons Z W (.cons Z W (.cons Z W (.cons Z (aq (by congr 1;omega)) (.cons Z W .nil)))))) (SubM.refl _)
   ·generalize (x+4294967296 - c - y) % 4294967296=d at *
    generalize (if x<c+y then 1 else 0)=c2 at *
    refine aa (aj (Am Z (Am Z (Al (cM Z) (pt Z Z Z Z ?_)))))
    (refine fD 0 Z Z Z (leN Z) ?_ ?_ Z (ltN Z) (fun sv cap => ?_);omega;omega)
    refine An Z (Ap (aD (aa (aj (Am Z ?_)))))
    (refine Al (cq Z Z (aR ?_ ?_)) ?_;omega;omega)
    refine An Z (Ap ?_)
    refine bM (s:=(zl,c,sv0,cap0)) (zl ++ [d],c2,sv,cap) hstep ?_ (.cons Z W (.cons Z W (.cons Z (ov (by simp)) (.cons Z W (.cons Z (aq (by simp)) .nil))))) (.keep (mn (by simp) (fun q hq=>sY zl _ q (by simpa using hq) (hstep.lim d (by simp)))) .nil)
    simp only [List.length_append,List.length_cons,List.length_nil,Nat.zero_add] at *
    omega
 ·have hlen:zl.length=lx.length:=by have:=hR.len;omega
  refine aU (av (av (aC (aa (ah (aj (Am Z (An Z (Ap ?_)))))))))
  refine aa (aG (dz (t:=4) (i:=0) Z Z ?_))
  refine aP Tryz.results61 (.tmp Z (gy (l:=zl) hR.lim ?_ S))
  have h4:=hR.val
  rw [hlen,List.take_length,List.take_of_length_le S,hva,hvb] at h4
  have h5:=gf hR.lim
  rw [hlen] at h5
  have h6:=gf hx
  rcases Nat.le_one_iff_eq_zero_or_eq_one.1 hR.c1 with h7 | h7 <;> simp only [h7,Nat.mul_zero,Nat.mul_one,Nat.add_zero] at h4 <;> omega
end Tor
end
section
namespace Tor
open Go Go.RowKit Go.Proofs
theorem pP (u:Nat) (h:u<18446744073709551616):VT.le (slT .one 2 (fun q => [one (.int .u32 ((u / 4294967296 % 4294967296:Nat):Int)),one (.int .u32 ((u % 4294967296:Nat):Int))].reverse.getD q bS)) (m0 u):=by
 refine VT.le_trans (cL (m:=2) (ψ:=fun i=>one (.int .u32 ([u % 4294967296,u / 4294967296 % 4294967296].getD i 0:Nat))) Z (fun q hq => ?_)) (gy (l := [u % 4294967296,u / 4294967296 % 4294967296]) (fun d hd => ?_) ?_ (by simp))
 ·match q,hq with
  | 0, _ => rfl
  | 1, _ => rfl
 ·simp at hd;omega
 ·simp only [lv]; omega
attribute [local irreducible] J PJ aQ one slT cA bG bZ exT cE eP aX a8 slV VT.le Ret bS
theorem jF (n:Int) (h1 : -9223372036854775808≤n) (h2:n≤9223372036854775807):Ok Tryz.prog 25 [one (.int .i64 n)] (bm n):=by
 refine Ok.enter Tryz.func25 Z Tryz.ntmps25 Z (fun w O => ?_)
 by_cases hn:n<0
 ·refine ah (aj ?_)
  refine aT (T:=55) Z (ltN Z) (fun b => ?_)
  refine Ap (aa (ah (aj (Am Z (Al (iI (r:=((18446744073709551616 - n.natAbs:Nat):Int)) Z (by rw [dL]; omega)) (An Z (Ap (aa (ah ?_)))))))))
  refine ah (aj (Am Z (Al (aS Z Z) (Ap (aa ?_)))))
  refine a5 Z (fun hc => ?_) (fun hc => ?_) <;> simp at hc
  ·refine aj (Am Z (Al (wK (r:=(n.natAbs:Int)) Z (by rw [dL]; omega)) (An Z (Ap (aa (ah (aj (Am Z (Al (cM Z) ?_)))))))))
   refine Am Z (Al (fP Z) (Al (cM Z) (stS Z Z Z Z (PartsK.cons Z (PartsK.cons Z (PartsK.nil (Am Z (Al (aS Z Z) ?_))))))))
   refine Al (am (dm (decide (n<0)) n.natAbs) Z ⟨pP _ S,W,Aq⟩) ?_
   refine aF 0 Z Z Z Z Z (leN Z) Z (Ap (aa (aG ?_)))
   exact aP Tryz.results25 (.cellB 0 Z Z Z (bY (by rw [decide_eq_true hn,if_pos Z]; omega)))
  ·omega
 ·refine ah (aj ?_)
  refine aT (T:=55) Z (ltN Z) (fun b => ?_)
  refine Ap (aa (ah (aj (Am Z (Al (iI (r:=(n.natAbs:Int)) Z (by rw [dL]; omega)) (An Z (Ap (aa (ah ?_)))))))))
  refine ah (aj (Am Z (Al (aS Z Z) (Ap (aa ?_)))))
  refine a5 Z (fun hc => ?_) (fun hc => ?_) <;> simp at hc
  ·omega
  ·refine au (aa (ah (aj (Am Z (Al (cM Z) (Am Z (Al (fP Z) (Al (cM Z) (stS Z Z Z Z ?_)))))))))
   refine PartsK.cons Z (PartsK.cons Z (PartsK.nil (Am Z (Al (aS Z Z) ?_))))
   refine Al (am (dm (decide (n<0)) n.natAbs) Z ⟨pP _ S,W,Aq⟩) ?_
   refine aF 0 Z Z Z Z Z (leN Z) Z (Ap (aa (aG ?_)))
   exact aP Tryz.results25 (.cellB 0 Z Z Z (bY (by rw [decide_eq_false hn]; simp;omega)))
theorem vR (n1 n2:Bool) (v1 v2:Nat) (h1:(aK v1).length≤1099511627776) (h2:(aK v2).length≤1099511627776):Ok Tryz.prog 24 [sgT n1 v1,sgT n2 v2] (bm (sv n1 v1+sv n2 v2)):=by
 refine Ok.enter Tryz.func24 Z Tryz.ntmps24 Z (fun w O => ?_)
 refine ah (aj ?_)
 refine aY Z Z (ltN Z) (fun b => ?_)
 refine aY Z Z (ltN Z) (fun b => ?_)
 refine aT (T:=55) Z (ltN Z) (fun b => ?_)
 refine Ap (aa (ah (ah (aj (Al (ab Z) (Al (ak 2 Z Z Z) (Al (ab Z) (Al (ak 1 Z Z Z) (Al (pk Z Z) ?_)))))))))
 refine Ap (aa ?_)
 refine a5 Z (fun hc => ?_) (fun hc => ?_) <;> simp at hc
 ·subst hc
  refine ah (aZ 8 aV X Y (Al (ab Z) (Al (ak 2 Z Z Z) (Al (ab Z) (Al (ak 1 Z Z Z) ?_)))))
  refine Al (am (uu _ _ h1 h2) Z ⟨W,W,Aq⟩) ?_
  refine Al (ab Z) (Al (ak 2 Z Z Z) ?_)
  refine Al (am (dm _ _) Z ⟨W,W,Aq⟩) ?_
  refine Ap (aF 0 Z Z Z Z Z (leN Z) Z (Ap (aa (aG (aB ?_)))))
  exact aP Tryz.results24 (.cellB 0 Z Z Z (bY (by unfold sv;split <;> omega)))
 ·refine au (aa (ah (ah (aj (Al (ab Z) (Al (ak 2 Z Z Z) (Al (ab Z) (Al (ak 1 Z Z Z) ?_))))))))
  refine Al (am (kf _ _) Z ⟨W,W,Aq⟩) ?_
  refine Ap (aa ?_)
  refine a5 Z (fun hc2 => ?_) (fun hc2 => ?_) <;> simp at hc2
  ·refine ah (aZ 8 aV X Y (Al (ab Z) (Al (ak 1 Z Z Z) (Al (ab Z) (Al (ak 2 Z Z Z) ?_)))))
   refine Al (am (nA _ _ S h2) Z ⟨W,W,Aq⟩) ?_
   refine Al (ab Z) (Al (ak 1 Z Z Z) ?_)
   refine Al (am (dm _ _) Z ⟨W,W,Aq⟩) ?_
   refine Ap (aF 0 Z Z Z Z Z (leN Z) Z (Ap (aa (aG (aB ?_)))))
   exact aP Tryz.results24 (.cellB 0 Z Z Z (bY (by unfold sv;cases n1 <;> cases n2 <;> simp at hc ⊢ <;> omega)))
  ·refine au (aa (ah (aZ 8 aV X Y (Al (ab Z) (Al (ak 2 Z Z Z) (Al (ab Z) (Al (ak 1 Z Z Z) ?_)))))))
   refine Al (am (nA _ _ S h1) Z ⟨W,W,Aq⟩) ?_
   refine Al (ab Z) (Al (ak 2 Z Z Z) ?_)
   refine Al (am (dm _ _) Z ⟨W,W,Aq⟩) ?_
   refine Ap (aF 0 Z Z Z Z Z (leN Z) Z (Ap (aa (aG ?_))))
   exact aP Tryz.results24 (.cellB 0 Z Z Z (bY (by unfold sv;cases n1 <;> cases n2 <;> simp at hc ⊢ <;> omega)))
end Tor
end
section
namespace Tor
open Go Go.RowKit Go.Proofs
structure RTimesR (lx ly zz:List Nat) (i:Nat):Prop where
 le:i≤lx.length
 len:zz.length=lx.length+ly.length+1
 lim:bB zz
 zero : ∀ k,i+ly.length≤k→zz.getD k 0=0
 val:lv zz=lv (lx.take i)*lv ly
structure RTimesI (lx ly z0 zz:List Nat) (i j c:Nat):Prop where
 le:j≤ly.length+1
 top:ly.length<j→c=0
 len:zz.length=lx.length+ly.length+1
 lim:bB zz
 zero : ∀ k,i+ly.length<k→zz.getD k 0=0
 zer1:j≤ly.length→zz.getD (i+ly.length) 0=0
 c1:c<4294967296
 val:lv zz+4294967296^(i+j)*c=lv z0+4294967296^i*(lx.getD i 0*lv (ly.take j))
theorem RTimesI.step {lx ly z0 zz:List Nat} {i j c:Nat} (h:RTimesI lx ly z0 zz i j c) (hx:bB lx) (hy:bB ly) (hi:i<lx.length) (hgo:j<ly.length∨0<c) :
  RTimesI lx ly z0 (zz.set (i+j) ((c+zz.getD (i+j) 0+lx.getD i 0*ly.getD j 0) % 4294967296)) i (j+1) ((c+zz.getD (i+j) 0+lx.getD i 0*ly.getD j 0) / 4294967296):=by
 have hj:j≤ly.length:=by have:=h.le;have:=h.top;omega
 have hlim:=lI (bk hx i) (bk hy j) (bk h.lim (i+j)) h.c1
 have hlt:i+j<zz.length:=by rw [h.len]; omega
 refine ⟨by omega,fun ht => ?_,by rw [List.length_set]; exact h.len,h.lim.set S,fun k hk => ?_,fun hk => ?_,by omega,?_⟩
 ·have e:j=ly.length:=by omega
  subst e
  rw [h.zer1 (Nat.le_refl _)]
  have e2:ly.getD ly.length 0=0:=by simp
  rw [e2,Nat.mul_zero]
  have:=h.c1;omega
 ·rw [dA hlt,if_neg S]; exact h.zero k hk
 ·rw [dA hlt,if_neg S]; exact h.zer1 S
 ·have hs:=fJ (l:=zz) (k:=i+j) (v:=(c+zz.getD (i+j) 0+lx.getD i 0*ly.getD j 0) % 4294967296) hlt
  have hv:=h.val
  rw [gh]
  generalize lx.getD i 0=x at *
  generalize ly.getD j 0=y at *
  generalize zz.getD (i+j) 0=z at *
  have e:c+z+x*y=4294967296*((c+z+x*y) / 4294967296)+(c+z+x*y) % 4294967296:=by omega
  generalize (c+z+x*y) / 4294967296=q at *
  generalize (c+z+x*y) % 4294967296=r at *
  rw [show i+(j+1)=(i+j)+1 by omega,Nat.pow_succ]
  have eB:4294967296^i*4294967296^j=4294967296^(i+j):=(Nat.pow_add _ _ _).symm
  have e3:4294967296^i*(x*(lv (ly.take j)+4294967296^j*y))=4294967296^i*(x*lv (ly.take j))+4294967296^(i+j)*(x*y):=by
   rw [Nat.mul_add,Nat.mul_add, ← eB]
   congr 1
   rw [Nat.mul_assoc]; congr 1
   rw [Nat.mul_left_comm]
  rw [e3]
  generalize 4294967296^(i+j)=B at *
  have e2:B*(c+z+x*y)=B*(4294967296*q+r):=by rw [e]
  simp only [Nat.mul_add, ← Nat.mul_assoc] at e2 ⊢ hs hv
  omega
theorem RTimesR.start {lx ly z0:List Nat} {i:Nat} (h:RTimesR lx ly z0 i):RTimesI lx ly z0 z0 i 0 0 :=
 ⟨Nat.zero_le _,fun _=>rfl,h.len,h.lim,fun k hk=>h.zero k S,fun _=>h.zero _ (Nat.le_refl _),by omega,by simp [lv]⟩
theorem RTimesI.finish {lx ly z0 zz:List Nat} {i j:Nat} (h0:RTimesR lx ly z0 i) (h:RTimesI lx ly z0 zz i j 0) (hj:ly.length≤j) (hi:i<lx.length):RTimesR lx ly zz (i+1):=by
 refine ⟨hi,h.len,h.lim,fun k hk=>h.zero k S,?_⟩
 have hv:=h.val
 rw [Nat.mul_zero,Nat.add_zero,List.take_of_length_le hj,h0.val] at hv
 rw [hv,bI hi,Nat.add_mul,Nat.mul_assoc]
attribute [local irreducible] J PJ aQ one slT cA bG bZ exT cE eP aX a8 slV VT.le Ret bS
attribute [local irreducible] bm
theorem vS (n1 n2:Bool) (v1 v2:Nat) (h1:(aK v1).length≤1099511627776) (h2:(aK v2).length≤1099511627776):Ok Tryz.prog 95 [sgT n1 v1,sgT n2 v2] (bm (sv n1 v1*sv n2 v2)):=by
 unfold sgT
 refine Ok.enter Tryz.func95 Z Tryz.ntmps95 Z (fun w O => ?_)
 have hx:=bh v1
 have hy:=bh v2
 have hva:=bU v1
 have hvb:=bU v2
 generalize aK v1=lx at *
 generalize aK v2=ly at *
 refine ah (aj ?_)
 refine aY Z Z (ltN Z) (fun b => ?_)
 refine aY Z Z (ltN Z) (fun b => ?_)
 refine aT (T:=55) Z (ltN Z) (fun b => ?_)
 refine Ap (aa (ah (aj (Al (ab Z) (Al (ak 2 Z Z Z) (Al (be Z) (Al (ab Z) (Al (ak 1 Z Z Z) (Al (be Z) ?_)))))))))
 (refine Al (cq Z Z (aR ?_ ?_)) ?_;omega;omega)
 (refine Al (cq Z Z (aR ?_ ?_)) ?_;omega;omega)
 rename_i ba bb
 refine cK (lx.length+ly.length+1) (lx.length+ly.length+1) Z Z (by simp) (by simp) (Nat.le_refl _) Z Z S Z Z (fun bz => ?_)
 refine An Z (Ap (aa (ah (ah (aj (An Z (Ap (aa (ar ?_)))))))))
 refine cO (σ:=List Nat × Nat) (fun s => [(2,one (.pointer (some ⟨ba,0,none⟩))),(3,one (.pointer (some ⟨bb,0,none⟩))),(4,one (.pointer (some ⟨b,0,none⟩))),(5,one (slV (some bz) (lx.length+ly.length+1) (lx.length+ly.length+1))),(6,one (.int .i64 (s.2:Nat)))])
   (fun s => [a8 (some bz) 90 .one (lx.length+ly.length+1) (lx.length+ly.length+1) (fun q=>one (.int .u32 (s.1.getD q 0:Nat))),aX b 55 2 [(0, .agg 2,one (.agg #[.bool false, .slice none 0 0]))],aX bb 55 2 [(0, .one,one (.bool n2)),(1, .one,cg ly)],aX ba 55 2 [(0, .one,one (.bool n1)),(1, .one,cg lx)]])
   (fun s=>RTimesR lx ly s.1 s.2) (fun s=>lx.length - s.2) (List.replicate (lx.length+ly.length+1) 0,0)
   ⟨Nat.zero_le _,by simp,bB.replicate _,fun k _=>cH _ _,by simp [d7,lv]⟩ Ai (.keep (cy (fun q _=>by rw [cH]; rfl)) (SubM.refl _)) (fun s hR => ?_)
 obtain ⟨z0,i⟩:=s
 simp only at hR ⊢
 refine ah (ah (aj (Am Z (Al (ab Z) (Al (ak 3 Z Z Z) (Al (be Z) (Al (aS Z Z) (Ap (aa ?_)))))))))
 refine a5 Z (fun hc => ?_) (fun hc => ?_) <;> simp at hc
 ·have g1:=bk hx i
  refine au (aa (ah (ar (ah (aj (An Z (Ap (aa (ah ?_)))))))))
  refine aj (An Z (Ap (aa (ar ?_))))
  refine cO (σ:=List Nat × Nat × Nat) (fun s => [(2,one (.pointer (some ⟨ba,0,none⟩))),(3,one (.pointer (some ⟨bb,0,none⟩))),(4,one (.pointer (some ⟨b,0,none⟩))),(5,one (slV (some bz) (lx.length+ly.length+1) (lx.length+ly.length+1))),(6,one (.int .i64 (i:Nat))),(7,one (.int .u64 (s.2.2:Nat))),(8,one (.int .i64 (s.2.1:Nat)))])
   (fun s => [a8 (some bz) 90 .one (lx.length+ly.length+1) (lx.length+ly.length+1) (fun q=>one (.int .u32 (s.1.getD q 0:Nat))),aX b 55 2 [(0, .agg 2,one (.agg #[.bool false, .slice none 0 0]))],aX bb 55 2 [(0, .one,one (.bool n2)),(1, .one,cg ly)],aX ba 55 2 [(0, .one,one (.bool n1)),(1, .one,cg lx)]])
   (fun s=>RTimesI lx ly z0 s.1 i s.2.1 s.2.2) (fun s=>ly.length+1 - s.2.1) (z0,0,0)
   hR.start Ai (SubM.refl _) (fun s hI => ?_)
  obtain ⟨zz,j,c⟩:=s
  simp only at hI ⊢
  have g0:=hI.c1
  have gj:=hI.le
  refine ah (ah ?_)
  refine fh (σ:=Unit) (fun _ => [(2,one (.pointer (some ⟨ba,0,none⟩))),(3,one (.pointer (some ⟨bb,0,none⟩))),(4,one (.pointer (some ⟨b,0,none⟩))),(5,one (slV (some bz) (lx.length+ly.length+1) (lx.length+ly.length+1))),(6,one (.int .i64 (i:Nat))),(7,one (.int .u64 (c:Nat))),(8,one (.int .i64 (j:Nat))),(33,one (.bool (decide (j<ly.length∨0<c))))])
   (fun _ => [a8 (some bz) 90 .one (lx.length+ly.length+1) (lx.length+ly.length+1) (fun q=>one (.int .u32 (zz.getD q 0:Nat))),aX b 55 2 [(0, .agg 2,one (.agg #[.bool false, .slice none 0 0]))],aX bb 55 2 [(0, .one,one (.bool n2)),(1, .one,cg ly)],aX ba 55 2 [(0, .one,one (.bool n1)),(1, .one,cg lx)]]) (fun _=>True) ?_ (fun _ _ => ?_)
  ·refine aj (Am Z (Al (ab Z) (Al (ak 2 Z Z Z) (Al (be Z) (Al (aS Z Z) (Am Z ?_))))))
   refine jp (t:=29) Z (fun bo hb => ?_)
   rw [hb]
   cases bo
   ·simp at hb
    refine Ao (ae Z) (Ao (dS Z Z) (Al (ay Z Z) (Ap ?_)))
    exact cZ () trivial (.cons Z W (.cons Z W (.cons Z W (.cons Z W (.cons Z W (.cons Z W (.cons Z W (.cons Z (aq (by congr 1;rw [decide_eq_decide]; omega)) .nil)))))))) (SubM.refl _)
   ·simp at hb
    refine sg0 Z Z Z Z (sg0 Z Z Z Z (Al (aE Z Z) (Ap ?_)))
    exact cZ () trivial (.cons Z W (.cons Z W (.cons Z W (.cons Z W (.cons Z W (.cons Z W (.cons Z W (.cons Z (aq (by simp;omega)) .nil)))))))) (SubM.refl _)
  ·refine aa ?_
   refine a5 Z (fun hc2 => ?_) (fun hc2 => ?_) <;> simp only [decide_eq_true_eq,decide_eq_false_iff_not] at hc2
   ·have hstep:=hI.step hx hy hc hc2
    have hjl:j≤ly.length:=by have:=hI.top;omega
    have g2:=bk hy j
    have g3:=bk hI.lim (i+j)
    have g4:=lI g1 g2 g3 g0
    have hlt:i+j<zz.length:=by rw [hI.len]; omega
    refine au (aa (ah (ar (ah (aj (Am Z (Am Z (Am Z (Am Z ?_)))))))))
    (refine Al (cq Z Z (aR ?_ ?_)) ?_;omega;omega)
    (refine Al (an Z Z ?_) ?_;omega)
    (refine Al (aI 0 Z Z ?_) ?_;omega)
    (refine Al (bL Z ?_) ?_;omega)
    (refine Al (d5 Z Z ?_) ?_;omega)
    refine An Z (Ap (aa (ah (ah (aj (Am Z (Al (ab Z) (Al (ak 2 Z Z Z) (Al (be Z) ?_)))))))))
    refine Al (aS Z Z) (Ap (aa ?_))
    refine fh (σ:=Unit) (fun _ => [(2,one (.pointer (some ⟨ba,0,none⟩))),(3,one (.pointer (some ⟨bb,0,none⟩))),(4,one (.pointer (some ⟨b,0,none⟩))),(5,one (slV (some bz) (lx.length+ly.length+1) (lx.length+ly.length+1))),(6,one (.int .i64 (i:Nat))),(7,one (.int .u64 (c+zz.getD (i+j) 0+lx.getD i 0*ly.getD j 0:Nat))),(8,one (.int .i64 (j:Nat)))])
     (fun _ => [a8 (some bz) 90 .one (lx.length+ly.length+1) (lx.length+ly.length+1) (fun q=>one (.int .u32 (zz.getD q 0:Nat))),aX b 55 2 [(0, .agg 2,one (.agg #[.bool false, .slice none 0 0]))],aX bb 55 2 [(0, .one,one (.bool n2)),(1, .one,cg ly)],aX ba 55 2 [(0, .one,one (.bool n1)),(1, .one,cg lx)]]) (fun _=>True) ?_ (fun _ _ => ?_)
    ·refine a5 Z (fun hc3 => ?_) (fun hc3 => ?_) <;> simp only [decide_eq_true_eq,decide_eq_false_iff_not] at hc3
     ·skip
      refine aZ 16 aV X Y (Am Z (Al (ab Z) (Al (ak 3 Z Z Z) (Am Z ?_))))
      (refine Al (ax Z Z ?_) ?_;omega)
      refine Al (aH Z) ?_
      (refine Al (bL Z ?_) ?_;omega)
      refine Al (ab Z) (Al (ak 2 Z Z Z) (Am Z ?_))
      (refine Al (ax Z Z ?_) ?_;omega)
      refine Al (aH Z) ?_
      (refine Al (bL Z ?_) ?_;omega)
      (refine Al (gF Z Z ?_) ?_;omega)
      (refine Al (d5 Z Z ?_) ?_;omega)
      refine An Z (Ap (Ap ?_))
      exact cZ () trivial Ai (SubM.refl _)
     ·have e0:ly.getD j 0=0:=by simp [List.getElem?_eq_none (show ly.length≤j by omega)]
      refine au ?_
      refine cZ () trivial ?_ (SubM.refl _)
      rw [e0,Nat.mul_zero,Nat.add_zero]
      exact Ai
    ·refine aa (ah (aj (Am Z (Am Z (Am Z ?_)))))
     (refine Al (cq Z Z (aR ?_ ?_)) ?_;omega;omega)
     refine Am Z (Al (cM Z) ?_)
     (refine Al (an Z Z ?_) ?_;omega)
     (refine bD 0 Z Z Z ?_ Z ?_;omega)
     refine Ap (aa (aj (Am Z ?_)))
     (refine Al (rG Z ?_) ?_;omega)
     refine An Z (Ap (aD (aa (aj (Am Z ?_)))))
     (refine Al (cq Z Z (aR ?_ ?_)) ?_;omega;omega)
     refine An Z (Ap ?_)
     refine bM (s:=(zz,j,c)) (zz.set (i+j) ((c+zz.getD (i+j) 0+lx.getD i 0*ly.getD j 0) % 4294967296),j+1,(c+zz.getD (i+j) 0+lx.getD i 0*ly.getD j 0) / 4294967296) hstep (by show ly.length+1 - (j+1)<ly.length+1 - j;omega) Ai (.keep (cy (fun q hq => ?_)) (SubM.refl _))
     unfold upd;rw [dA hlt]; split <;> rfl
   ·have hc0:c=0:=by omega
    subst hc0
    have hfin:=hI.finish hR S hc
    refine aU (av (av (aC (aD (aa (aj (Am Z ?_)))))))
    (refine Al (cq Z Z (aR ?_ ?_)) ?_;omega;omega)
    refine An Z (Ap ?_)
    exact bM (s:=(z0,i)) (zz,i+1) hfin (by show lx.length - (i+1)<lx.length - i;omega) Ai (SubM.refl _)
 ·have hi:i=lx.length:=by have:=hR.le;omega
  refine aU (av (av (aC (aa (ah (aj (Am Z (Al (ab Z) (Al (ak 3 Z Z Z) ?_)))))))))
  refine Al (ab Z) (Al (ak 2 Z Z Z) (Al (f7 Z Z) (g7 (t:=74) (j:=0) Z Z ?_)))
  skip
  refine Al (am (dm _ (v1*v2)) Z ⟨VT.le_trans (cL (m:=z0.length) (ψ:=fun i=>one (.int .u32 (z0.getD i 0:Nat))) hR.len.symm (fun q hq=>rfl)) (gy (l:=z0) hR.lim ?_ ?_),W,Aq⟩) ?_
  ·rw [hR.val,hi,List.take_length,hva,hvb]
  ·rw [hR.len]; omega
  refine aF 0 Z Z Z Z Z (leN Z) Z (Ap (aa (aG ?_)))
  exact aP Tryz.results95 (.cellB 0 Z Z Z (bY (by cases n1 <;> cases n2 <;> simp [sv,Int.neg_mul,Int.mul_neg])))
end Tor
end
section
namespace Tor
open Go Go.RowKit Go.Proofs
def jG (neg:Bool) (l:List Nat):VT:=bG 2 [(0, .one,one (.bool neg)),(1, .one,cg l)]
def fm (neg:Bool) (l:List Nat):Bool:=if l.length=0 then !neg else decide (l.getD (l.length - 1) 0≠0)
theorem uw (x:Int):VT.le (bm x) (jG (decide (x<0)) (aK x.natAbs)):=VT.le_refl _
attribute [local irreducible] J PJ aQ one slT cA bG bZ exT cE eP aX a8 slV VT.le Ret bS
theorem sZ (neg:Bool) (l:List Nat) (hl:l.length≤4398046511104):Ok Tryz.prog 105 [jG neg l] (one (.bool (fm neg l))):=by
 unfold jG
 refine Ok.enter Tryz.func105 Z Tryz.ntmps105 Z (fun w O => ?_)
 by_cases h0:l.length=0
 ·refine ah (aj ?_)
  refine aY Z Z (ltN Z) (fun b => ?_)
  refine An Z (Ap (aa (ah (ah (aj (Al (ab Z) (Al (ak 0 Z Z Z) (Al (be Z) (Al (cj Z Z) ?_)))))))))
  refine Ap (aa ?_)
  refine a5 Z (fun hc => ?_) (fun hc => ?_) <;> simp only [decide_eq_true_eq,decide_eq_false_iff_not] at hc
  ·refine ah (aj (Al (ab Z) (Al (ak 0 Z Z Z) (Al (bx Z) (An Z (Ap (aa (aG (aB ?_)))))))))
   exact aP Tryz.results105 (.tmp Z (aq (by unfold fm;rw [if_pos h0])))
  ·omega
 ·refine ah (aj ?_)
  refine aY Z Z (ltN Z) (fun b => ?_)
  refine An Z (Ap (aa (ah (ah (aj (Al (ab Z) (Al (ak 0 Z Z Z) (Al (be Z) (Al (cj Z Z) ?_)))))))))
  refine Ap (aa ?_)
  refine a5 Z (fun hc => ?_) (fun hc => ?_) <;> simp only [decide_eq_true_eq,decide_eq_false_iff_not] at hc
  ·omega
  ·refine au (aa (ah (aj (Al (ab Z) (Al (ak 0 Z Z Z) (Al (ab Z) (Al (ak 0 Z Z Z) (Al (be Z) ?_))))))))
   (refine Al (ey Z Z (aR ?_ ?_)) ?_;omega;omega)
   (refine Al (ed Z Z ?_ ?_) ?_;omega;omega)
   refine Al (aH Z) (Al (dy Z Z) (An Z (Ap (aa (aG ?_)))))
   refine aP Tryz.results105 (.tmp Z (aq ?_))
   have e:(↑l.length - 1:Int).toNat=l.length - 1:=by omega
   unfold fm;rw [if_neg h0,e]; congr 1;rw [decide_eq_decide]; omega
end Tor
end
section
namespace Tor
open Go Go.RowKit Go.Proofs
def iR (v:List Int):VT:=slT (.agg 2) v.length (fun i=>bm (v.getD i 0))
theorem ow {u v:List Int} {i:Nat} (h:u.take i=v.take i) (hl:u.length=v.length) (hi:i<u.length) (he:u.getD i 0=v.getD i 0):u.take (i+1)=v.take (i+1):=by
 rw [List.take_add_one,List.take_add_one,h,List.getElem?_eq_getElem hi,List.getElem?_eq_getElem (hl▸hi)]
 simp only [List.getD,List.getElem?_eq_getElem hi,List.getElem?_eq_getElem (hl▸hi),Option.getD_some] at he
 rw [he]
attribute [local irreducible] J PJ aQ one slT cA bG bZ exT cE eP aX a8 slV VT.le Ret bS
attribute [local irreducible] bm
theorem pQ (u v:List Int):Ok Tryz.prog 50 [iR u,iR v] (one (.bool (decide (u=v)))):=by
 unfold iR
 refine Ok.enter Tryz.func50 Z Tryz.ntmps50 Z (fun w O => ?_)
 refine gC (t:=0) Z (fun _ _=>et) (fun hb => ?_)
 refine ah (aj (An Z (Ap (aa (ah (ah (aj (Am Z (Al (be Z) ?_)))))))))
 refine Am Z (Al (be Z) (Al (dy Z Z) (Ap (aa ?_))))
 refine a5 Z (fun hc => ?_) (fun hc => ?_) <;> simp only [decide_eq_true_eq,decide_eq_false_iff_not,ne_eq,Decidable.not_not] at hc
 ·refine ah (aj (An Z (Ap (aa (aG (aB ?_))))))
  refine aP Tryz.results50 (.tmp Z (aq ?_))
  have : ¬ (u=v):=by intro e;subst e;exact hc Z
  simp [this]
 ·have hlen:u.length=v.length:=by omega
  refine au (aa (ah (ah (aj (An Z (Ap (aa (ar ?_))))))))
  refine cO (σ:=Nat) (fun i => [(0,iR u),(1,iR v),(5,one (.int .i64 (i:Nat)))]) (fun _ => []) (fun i=>i≤u.length∧u.take i=v.take i) (fun i=>u.length - i) 0 ⟨Nat.zero_le _,rfl⟩ Ai (SubM.refl _) (fun i ⟨hi,ht⟩ => ?_)
  unfold iR
  refine ah (ah (aj (Am Z (Am Z (Al (be Z) (Al (aS Z Z) (Ap (aa ?_))))))))
  refine a5 Z (fun hc => ?_) (fun hc => ?_) <;> simp at hc
  ·refine au (aa (ah (ar (ah (aZ 10 aV X Y (Am Z (Am Z ?_)))))))
   (refine Al (ax Z Z ?_) ?_;omega)
   refine Al (aH Z) (Am Z (Am Z ?_))
   (refine Al (ax Z Z ?_) ?_;omega)
   refine Al (aH Z) ?_
   refine Al (am (ut _ _) Z ⟨W,W,Aq⟩) ?_
   refine Al (bx Z) (Ap (Ap (aa ?_)))
   refine a5 Z (fun hc2 => ?_) (fun hc2 => ?_)
   ·simp at hc2
    refine ah (aj (An Z (Ap (aa (aG (a6 (aB (aB (a6 ?_)))))))))
    refine aB ?_
    refine aP Tryz.results50 (.tmp Z (aq ?_))
    have : ¬ (u=v):=by intro e;subst e;exact hc2 Z
    simp [this]
   ·have he:u.getD i 0=v.getD i 0:=by simpa using hc2
    refine au (aD (aa (aj (Am Z ?_))))
    (refine Al (cq Z Z (aR ?_ ?_)) ?_;omega;omega)
    refine An Z (Ap ?_)
    exact bM (s:=i) (i+1) ⟨by omega,ow ht hlen S he⟩ (by show u.length - (i+1)<u.length - i;omega) Ai (SubM.refl _)
  ·refine aU (av (av (aC (aa (ah (aj (An Z (Ap (aa ?_)))))))))
   refine aG ?_
   refine aP Tryz.results50 (.tmp Z (aq ?_))
   rw [List.take_of_length_le S,List.take_of_length_le S] at ht
   simp [ht]
end Tor
end
section
namespace Tor
open Go Go.RowKit Go.Proofs
def mo (a:List (List Int)):VT:=slT .one a.length (fun i=>iR (a.getD i []))
def s4 (r c:Int) (a:List (List Int)):VT:=bG 3 [(0, .one,one (.int .i64 r)),(1, .one,one (.int .i64 c)),(2, .one,mo a)]
theorem m4 {u v:List (List Int)} {i:Nat} (h:u.take i=v.take i) (hl:u.length=v.length) (hi:i<u.length) (he:u.getD i []=v.getD i []):u.take (i+1)=v.take (i+1):=by
 rw [List.take_add_one,List.take_add_one,h,List.getElem?_eq_getElem hi,List.getElem?_eq_getElem (hl▸hi)]
 simp only [List.getD,List.getElem?_eq_getElem hi,List.getElem?_eq_getElem (hl▸hi),Option.getD_some] at he
 rw [he]
attribute [local irreducible] J PJ aQ one slT cA bG bZ exT cE eP aX a8 slV VT.le Ret bS
attribute [local irreducible] bm iR
theorem pR (r c r' c':Int) (u v:List (List Int)) (hu:u.length≤281474976710656):Ok Tryz.prog 22 [s4 r c u,s4 r' c' v] (one (.bool (decide (r=r'∧c=c'∧u=v)))):=by
 unfold s4 mo
 refine Ok.enter Tryz.func22 Z Tryz.ntmps22 Z (fun w O => ?_)
 refine ah (aj ?_)
 refine aY Z Z (ltN Z) (fun b => ?_)
 refine aY Z Z (ltN Z) (fun b => ?_)
 refine An Z (Ap (aa (ah (ah (aj (Al (ab Z) (Al (ak 1 Z Z Z) (Al (ab Z) (Al (ak 0 Z Z Z) ?_)))))))))
 refine Al (dy Z Z) (Am Z ?_)
 rename_i ba
 refine jp (t:=10) Z (fun bo hb => ?_)
 rw [hb]
 cases bo
 ·have e1:r=r':=by simpa using hb
  refine Ao (ab Z) (Ao (ak 1 Z Z Z) (Ao (ab Z) (Ao (ak 0 Z Z Z) (Ao (dy Z Z) (Al (ay Z Z) (Am Z ?_))))))
  refine jp (t:=17) Z (fun bo hb2 => ?_)
  rw [hb2]
  cases bo
  ·have e2:c=c':=by simpa using hb2
   subst e1 e2
   refine Ao (ab Z) (Ao (ak 1 Z Z Z) (Ao (be Z) (Ao (ab Z) (Ao (ak 0 Z Z Z) (Ao (be Z) (Ao (dy Z Z) (Al (ay Z Z) (Ap (aa ?_)))))))))
   refine a5 Z (fun hc => ?_) (fun hc => ?_) <;> simp only [decide_eq_true_eq,decide_eq_false_iff_not,ne_eq,Decidable.not_not] at hc
   ·refine ah (aj (An Z (Ap (aa (aG (aB ?_))))))
    refine aP Tryz.results22 (.tmp Z (aq ?_))
    have : ¬ (u=v):=by intro e;subst e;exact hc Z
    simp [this]
   ·have hlen:u.length=v.length:=by omega
    refine au (aa (ah (ah (aj (An Z (Ap (aa (ar ?_))))))))
    refine cO (σ:=Nat) (fun i => [(2,one (.pointer (some ⟨ba,0,none⟩))),(3,one (.pointer (some ⟨b,0,none⟩))),(5,one (.int .i64 (i:Nat)))])
     (fun _ => [aX b 29 3 [(0, .one,one (.int .i64 r)),(1, .one,one (.int .i64 c)),(2, .one,mo v)],aX ba 29 3 [(0, .one,one (.int .i64 r)),(1, .one,one (.int .i64 c)),(2, .one,mo u)]])
     (fun i=>i≤u.length∧u.take i=v.take i) (fun i=>u.length - i) 0 ⟨Nat.zero_le _,rfl⟩ Ai (SubM.refl _) (fun i ⟨hi,ht⟩ => ?_)
    unfold mo
    refine ah (ah (aj (Am Z (Al (ab Z) (Al (ak 1 Z Z Z) (Al (be Z) (Al (aS Z Z) (Ap (aa ?_)))))))))
    refine a5 Z (fun hc => ?_) (fun hc => ?_) <;> simp at hc
    ·refine au (aa (ah (ar (ah (aZ 12 aV X Y (Al (ab Z) (Al (ak 1 Z Z Z) (Am Z ?_))))))))
     (refine Al (ax Z Z ?_) ?_;omega)
     refine Al (aH Z) (Al (ab Z) (Al (ak 0 Z Z Z) (Am Z ?_)))
     (refine Al (ax Z Z ?_) ?_;omega)
     refine Al (aH Z) ?_
     refine Al (am (pQ _ _) Z ⟨W,W,Aq⟩) ?_
     refine Al (bx Z) (Ap (Ap (aa ?_)))
     refine a5 Z (fun hc2 => ?_) (fun hc2 => ?_)
     ·simp at hc2
      refine ah (aj (An Z (Ap (aa (aG (a6 (aB (aB (a6 ?_)))))))))
      refine aB ?_
      refine aP Tryz.results22 (.tmp Z (aq ?_))
      have : ¬ (u=v):=by intro e;subst e;exact hc2 Z
      simp [this]
     ·have he:u.getD i []=v.getD i []:=by simpa using hc2
      refine au (aD (aa (aj (Am Z ?_))))
      (refine Al (cq Z Z (aR ?_ ?_)) ?_;omega;omega)
      refine An Z (Ap ?_)
      exact bM (s:=i) (i+1) ⟨by omega,m4 ht hlen S he⟩ (by show u.length - (i+1)<u.length - i;omega) Ai (SubM.refl _)
    ·refine aU (av (av (aC (aa (ah (aj (An Z (Ap (aa ?_)))))))))
     refine aG ?_
     refine aP Tryz.results22 (.tmp Z (aq ?_))
     rw [List.take_of_length_le S,List.take_of_length_le S] at ht
     simp [ht]
  ·have e2 : ¬ c=c':=by simpa using hb2
   refine sg0 Z Z Z Z (sg0 Z Z Z Z (sg0 Z Z Z Z (sg0 Z Z Z Z (sg0 Z Z Z Z (sg0 Z Z Z Z (sg0 Z Z Z Z (Al (aE Z Z) (Ap (aa ?_)))))))))
   refine a5 Z (fun hc => ?_) (fun hc => ?_)
   ·refine ah (aj (An Z (Ap (aa (aG (aB ?_))))))
    refine aP Tryz.results22 (.tmp Z (aq ?_))
    simp [e2]
   ·cases hc
 ·have e1 : ¬ r=r':=by simpa using hb
  refine sg0 Z Z Z Z (sg0 Z Z Z Z (sg0 Z Z Z Z (sg0 Z Z Z Z (sg0 Z Z Z Z (Al (aE Z Z) (Am Z (sg0 Z Z Z Z (sg0 Z Z Z Z (sg0 Z Z Z Z ?_)))))))))
  refine sg0 Z Z Z Z (sg0 Z Z Z Z (sg0 Z Z Z Z (sg0 Z Z Z Z (Al (aE Z Z) (Ap (aa ?_))))))
  refine a5 Z (fun hc => ?_) (fun hc => ?_)
  ·refine ah (aj (An Z (Ap (aa (aG (aB ?_))))))
   refine aP Tryz.results22 (.tmp Z (aq ?_))
   simp [e1]
  ·cases hc
end Tor
end
section
namespace Tor
open Go Go.RowKit Go.Proofs
def dN (v:List (Bool × List Nat)):VT:=slT (.agg 2) v.length (fun i=>jG (v.getD i (false, [])).1 (v.getD i (false, [])).2)
def kg (x:Int):Bool × List Nat:=(decide (x<0),aK x.natAbs)
theorem uy (v:List Int):VT.le (iR v) (dN (v.map kg)):=by
 unfold iR dN
 refine VT.le_trans (fe (ψ:=fun i=>jG ((v.map kg).getD i (false, [])).1 ((v.map kg).getD i (false, [])).2) (fun i hi => ?_)) (by rw [List.length_map]; exact VT.le_refl _)
 simp only [List.getD,List.getElem?_map,List.getElem?_eq_getElem hi,Option.map_some,Option.getD_some]
 exact uw _
theorem ki : ∀ {l:List Nat},fS l→0<l.length→l.getD (l.length - 1) 0≠0
 | [], _, h => absurd h Y
 | [d], h, _ => h
 | _ :: d :: l, h, _ => ki (l := d :: l) h (by simp)
theorem qY (x:Int):fm (kg x).1 (kg x).2=true:=by
 unfold fm kg
 simp only
 split
 ·rename_i h
  have e:=List.eq_nil_of_length_eq_zero h
  have:x.natAbs=0:=by rw [← bU x.natAbs,e]; rfl
  have : ¬ x<0:=by omega
  simp [this]
 ·rename_i h
  have:=ki (j8 x.natAbs) S
  simpa using this
theorem cI (x:Int):de x=0↔x=0:=by
 unfold de
 constructor
 ·intro h;split at h
  ·assumption
  ·split at h <;> omega
 ·intro h;rw [if_pos h]
theorem kj {α:Type} {p:α→Bool} {v:List α} {d:α} {i:Nat} (h:(v.take i).all p=true) (hi:i<v.length) (he:p (v.getD i d)=true):(v.take (i+1)).all p=true:=by
 rw [List.take_add_one,List.all_append,h,List.getElem?_eq_getElem hi]
 simp only [List.getD,List.getElem?_eq_getElem hi,Option.getD_some] at he
 simp [he]
theorem jH {α:Type} {p:α→Bool} {v:List α} {d:α} {i:Nat} (hi:i<v.length) (he:p (v.getD i d)=false):v.all p=false:=by
 simp only [List.getD,List.getElem?_eq_getElem hi,Option.getD_some] at he
 rw [List.all_eq_false]; exact ⟨_,List.getElem_mem hi,by simp [he]⟩
attribute [local irreducible] J PJ aQ one slT cA bG bZ exT cE eP aX a8 slV VT.le Ret bS
attribute [local irreducible] bm jG
theorem ox (v:List (Bool × List Nat)) (hv : ∀ p∈v,p.2.length≤4398046511104):Ok Tryz.prog 73 [dN v] (one (.bool (v.all fun p=>fm p.1 p.2))):=by
 unfold dN
 refine Ok.enter Tryz.func73 Z Tryz.ntmps73 Z (fun w O => ?_)
 refine gC (t:=0) Z (fun _ _=>et) (fun hb => ?_)
 refine ah (aj (An Z (Ap (aa (ah (ah (aj (An Z (Ap ?_)))))))))
 refine aa (ar ?_)
 refine cO (σ:=Nat) (fun i => [(0,dN v),(3,one (.int .i64 (i:Nat)))]) (fun _ => []) (fun i=>i≤v.length∧(v.take i).all (fun p=>fm p.1 p.2)=true) (fun i=>v.length - i) 0 ⟨Nat.zero_le _,rfl⟩ Ai (SubM.refl _) (fun i ⟨hi,ht⟩ => ?_)
 unfold dN
 refine ah (ah (aj (Am Z (Am Z (Al (be Z) (Al (aS Z Z) (Ap (aa ?_))))))))
 refine a5 Z (fun hc => ?_) (fun hc => ?_) <;> simp at hc
 ·have hm:(v.getD i (false, [])).2.length≤4398046511104:=by
   simp only [List.getD,List.getElem?_eq_getElem hc,Option.getD_some]
   exact hv _ (List.getElem_mem hc)
  refine au (aa (ah (ar (ah (aj (Am Z (Am Z ?_)))))))
  (refine Al (ax Z Z ?_) ?_;omega)
  refine Al (aH Z) ?_
  refine Al (am (sZ _ _ hm) Z ⟨W,Aq⟩) ?_
  refine Al (bx Z) (Ap (aa ?_))
  refine a5 Z (fun hc2 => ?_) (fun hc2 => ?_)
  ·refine ah (aj (An Z (Ap (aa (aG (a6 (aB (aB (a6 ?_)))))))))
   refine aB ?_
   refine aP Tryz.results73 (.tmp Z (aq ?_))
   rw [jH (d:=(false, [])) hc (by simpa using hc2)]
  ·refine au (aD (aa (aj (Am Z ?_))))
   (refine Al (cq Z Z (aR ?_ ?_)) ?_;omega;omega)
   refine An Z (Ap ?_)
   exact bM (s:=i) (i+1) ⟨by omega,kj (d:=(false, [])) ht hc (by simpa using hc2)⟩ (by show v.length - (i+1)<v.length - i;omega) Ai (SubM.refl _)
 ·refine aU (av (av (aC (aa (ah (aj (An Z (Ap (aa ?_)))))))))
  refine aG ?_
  refine aP Tryz.results73 (.tmp Z (aq ?_))
  rw [List.take_of_length_le S] at ht
  rw [ht]
end Tor
end
section
namespace Tor
open Go Go.RowKit Go.Proofs
abbrev pS:=List (Bool × List Nat)
def dO (a:List pS):VT:=slT .one a.length (fun i=>dN (a.getD i []))
def io (r c:Int) (a:List pS):VT:=bG 3 [(0, .one,one (.int .i64 r)),(1, .one,one (.int .i64 c)),(2, .one,dO a)]
def e7 (c:Int) (v:pS):Bool:=decide ((v.length:Int)=c) && v.all fun p=>fm p.1 p.2
def ew (r c:Int) (a:List pS):Bool:=decide (0≤r∧0≤c∧(a.length:Int)=r) && a.all (e7 c)
attribute [local irreducible] J PJ aQ one slT cA bG bZ exT cE eP aX a8 slV VT.le Ret bS
attribute [local irreducible] bm jG dN
theorem oy (r c:Int) (a:List pS) (ha:a.length≤281474976710656) (hv : ∀ v∈a, ∀ p∈v,p.2.length≤4398046511104):Ok Tryz.prog 37 [io r c a] (one (.bool (ew r c a))):=by
 unfold io dO
 refine Ok.enter Tryz.func37 Z Tryz.ntmps37 Z (fun w O => ?_)
 refine ah (aj ?_)
 refine aY Z Z (ltN Z) (fun b => ?_)
 refine An Z (Ap (aa (ah (ah (aj (Al (ab Z) (Al (ak 0 Z Z Z) (Al (aS Z Z) (Am Z ?_)))))))))
 refine jp (t:=6) Z (fun bo hb => ?_)
 rw [hb]
 cases bo
 ·have e1:0≤r:=by simpa using hb
  refine Ao (ab Z) (Ao (ak 0 Z Z Z) (Ao (aS Z Z) (Al (ay Z Z) (Am Z ?_))))
  refine jp (t:=11) Z (fun bo hb2 => ?_)
  rw [hb2]
  cases bo
  ·have e2:0≤c:=by simpa using hb2
   refine Ao (ab Z) (Ao (ak 0 Z Z Z) (Ao (be Z) (Ao (ab Z) (Ao (ak 0 Z Z Z) (Ao (dy Z Z) (Al (ay Z Z) (Ap (aa ?_))))))))
   refine a5 Z (fun hc => ?_) (fun hc => ?_) <;> simp only [decide_eq_true_eq,decide_eq_false_iff_not,ne_eq,Decidable.not_not] at hc
   ·refine ah (aj (An Z (Ap (aa (aG (aB ?_))))))
    refine aP Tryz.results37 (.tmp Z (aq ?_))
    simp [ew,hc]
   ·have e3:(a.length:Int)=r:=hc
    refine au (aa (ah (ah (aj (An Z (Ap (aa (ar ?_))))))))
    refine cO (σ:=Nat) (fun i => [(1,one (.pointer (some ⟨b,0,none⟩))),(3,one (.int .i64 (i:Nat)))])
     (fun _ => [aX b 29 3 [(0, .one,one (.int .i64 r)),(1, .one,one (.int .i64 c)),(2, .one,dO a)]])
     (fun i=>i≤a.length∧(a.take i).all (e7 c)=true) (fun i=>a.length - i) 0 ⟨Nat.zero_le _,rfl⟩ Ai (SubM.refl _) (fun i ⟨hi,ht⟩ => ?_)
    unfold dO
    refine ah (ah (aj (Am Z (Al (ab Z) (Al (ak 0 Z Z Z) (Al (be Z) (Al (aS Z Z) (Ap (aa ?_)))))))))
    refine a5 Z (fun hc => ?_) (fun hc => ?_) <;> simp at hc
    ·have hm : ∀ p∈a.getD i [],p.2.length≤4398046511104:=by
      simp only [List.getD,List.getElem?_eq_getElem hc,Option.getD_some]
      exact hv _ (List.getElem_mem hc)
     refine au (aa (ah (ar (ah (aZ 18 aV X Y ?_)))))
     unfold dN
     refine Al (ab Z) (Al (ak 0 Z Z Z) (Am Z ?_))
     (refine Al (ax Z Z ?_) ?_;omega)
     refine Al (aH Z) (Al (be Z) (Al (ab Z) (Al (ak 0 Z Z Z) (Al (dy Z Z) (Am Z ?_)))))
     refine jp (t:=35) Z (fun bo hb3 => ?_)
     rw [hb3]
     cases bo
     ·refine Ao (ab Z) (Ao (ak 0 Z Z Z) (Ao (ae Z) ?_))
      (refine Ao (ax Z Z ?_) ?_;omega)
      refine Ao (aH Z) ?_
      refine Ao (am (ox _ hm) Z ⟨(by unfold dN;exact VT.le_refl _),Aq⟩) ?_
      refine Ao (bx Z) (Al (ay Z Z) (Ap (Ap (aa ?_))))
      refine a5 Z (fun hc2 => ?_) (fun hc2 => ?_)
      ·refine ah (aj (An Z (Ap (aa (aG (a6 (aB (aB (a6 ?_)))))))))
       refine aB ?_
       refine aP Tryz.results37 (.tmp Z (aq ?_))
       have:=jH (p:=e7 c) (d := []) hc (by simp only [e7,Bool.and_eq_false_iff]; right;simpa using hc2)
       simp [ew,this]
      ·refine au (aD (aa (aj (Am Z ?_))))
       (refine Al (cq Z Z (aR ?_ ?_)) ?_;omega;omega)
       refine An Z (Ap ?_)
       exact bM (s:=i) (i+1) ⟨by omega,kj (d := []) ht hc (by simp only [e7,Bool.and_eq_true]; exact ⟨by simpa using hb3,by simpa using hc2⟩)⟩ (by show a.length - (i+1)<a.length - i;omega) Ai (SubM.refl _)
     ·refine sg0 Z Z Z Z (sg0 Z Z Z Z (sg0 Z Z Z Z (sg0 Z Z Z Z (sg0 Z Z Z Z (sg0 Z Z Z Z (sg0 Z Z Z Z (Al (aE Z Z) (Ap (Ap ?_)))))))))
      refine aa ?_
      refine a5 Z (fun hc2 => ?_) (fun hc2 => ?_)
      ·refine ah (aj (An Z (Ap (aa (aG (a6 (aB (aB (a6 ?_)))))))))
       refine aB ?_
       refine aP Tryz.results37 (.tmp Z (aq ?_))
       have:=jH (p:=e7 c) (d := []) hc (by simp only [e7,Bool.and_eq_false_iff]; left;simpa using hb3)
       simp [ew,this]
      ·cases hc2
    ·refine aU (av (av (aC (aa (ah (aj (An Z (Ap (aa ?_)))))))))
     refine aG ?_
     refine aP Tryz.results37 (.tmp Z (aq ?_))
     rw [List.take_of_length_le S] at ht
     simp [ew,ht,e1,e2,e3]
  ·have e2 : ¬ 0≤c:=by simpa using hb2
   refine sg0 Z Z Z Z (sg0 Z Z Z Z (sg0 Z Z Z Z (sg0 Z Z Z Z (sg0 Z Z Z Z (sg0 Z Z Z Z (Al (aE Z Z) (Ap (aa ?_))))))))
   refine a5 Z (fun hc => ?_) (fun hc => ?_)
   ·refine ah (aj (An Z (Ap (aa (aG (aB ?_))))))
    refine aP Tryz.results37 (.tmp Z (aq ?_))
    simp [ew,e2]
   ·cases hc
 ·have e1 : ¬ 0≤r:=by simpa using hb
  refine sg0 Z Z Z Z (sg0 Z Z Z Z (sg0 Z Z Z Z (Al (aE Z Z) (Am Z (sg0 Z Z Z Z (sg0 Z Z Z Z (sg0 Z Z Z Z (sg0 Z Z Z Z (sg0 Z Z Z Z ?_)))))))))
  refine sg0 Z Z Z Z (Al (aE Z Z) (Ap (aa ?_)))
  refine a5 Z (fun hc => ?_) (fun hc => ?_)
  ·refine ah (aj (An Z (Ap (aa (aG (aB ?_))))))
   refine aP Tryz.results37 (.tmp Z (aq ?_))
   simp [ew,e1]
  ·cases hc
end Tor
end
section
namespace Tor
open Go Go.RowKit Go.Proofs
def tab (r c:Nat) (F:Nat→Nat→Int):List (List Int):=(List.range r).map fun i=>(List.range c).map (F i)
@[simp] theorem tab_length (r c:Nat) (F:Nat→Nat→Int):(tab r c F).length=r:=by simp [tab]
theorem r6 {r c i:Nat} (F:Nat→Nat→Int) (hi:i<r):(tab r c F).getD i []=(List.range c).map (F i):=by simp [tab,List.getD,hi]
theorem uz {c j:Nat} (f:Nat→Int) (hj:j<c):((List.range c).map f).getD j 0=f j:=by simp [List.getD,hj]
theorem s8 {r c:Nat} {F G:Nat→Nat→Int} (h : ∀ i j,i<r→j<c→F i j=G i j):tab r c F=tab r c G:=by
 unfold tab
 refine List.map_congr_left fun i hi=>List.map_congr_left fun j hj => ?_
 exact h i j (List.mem_range.1 hi) (List.mem_range.1 hj)
theorem vT {r c:Nat} {F G:Nat→Nat→Int} (h:tab r c F=tab r c G) {i j:Nat} (hi:i<r) (hj:j<c):F i j=G i j:=by
 have h1:=congrArg (fun l=>l.getD i []) h
 simp only [r6 _ hi] at h1
 have h2:=congrArg (fun l=>l.getD j 0) h1
 simpa only [uz _ hj] using h2
def cX (c:Nat) (f:Nat→Int):VT:=slT (.agg 2) c (fun j=>bm (f j))
theorem pT (c:Nat) (f:Nat→Int):VT.le (cX c f) (iR ((List.range c).map f)):=by
 unfold cX iR
 refine VT.le_trans (fe (ψ:=fun j=>bm (((List.range c).map f).getD j 0)) (fun j hj => ?_)) (jt (by simp))
 rw [uz f hj]; exact VT.le_refl _
def bp (r c:Nat) (F:Nat→Nat→Int):VT:=bG 3 [(0, .one,one (.int .i64 r)),(1, .one,one (.int .i64 c)),(2, .one,slT .one r (fun i=>cX c (F i)))]
theorem mp (r c:Nat) (F:Nat→Nat→Int):VT.le (bp r c F) (s4 r c (tab r c F)):=by
 unfold bp s4 mo
 refine ej (fun q hq => ?_)
 rcases List.mem_cons.1 hq with rfl | hq
 ·exact ⟨_,List.mem_cons_self,W⟩
 rcases List.mem_cons.1 hq with rfl | hq
 ·exact ⟨_,List.mem_cons_of_mem _ List.mem_cons_self,W⟩
 rcases List.mem_cons.1 hq with rfl | hq
 ·refine ⟨_,List.mem_cons_of_mem _ (List.mem_cons_of_mem _ List.mem_cons_self),VT.le_trans (fe (ψ:=fun i=>iR ((tab r c F).getD i [])) (fun i hi => ?_)) (jt (by simp))⟩
  rw [r6 F hi]; exact pT _ _
 ·cases hq
theorem kn {r c:Nat} {F G:Nat→Nat→Int} (h : ∀ i j,i<r→j<c→F i j=G i j):VT.le (bp r c F) (bp r c G):=by
 unfold bp
 refine ej (fun q hq => ?_)
 rcases List.mem_cons.1 hq with rfl | hq
 ·exact ⟨_,List.mem_cons_self,W⟩
 rcases List.mem_cons.1 hq with rfl | hq
 ·exact ⟨_,List.mem_cons_of_mem _ List.mem_cons_self,W⟩
 rcases List.mem_cons.1 hq with rfl | hq
 ·refine ⟨_,List.mem_cons_of_mem _ (List.mem_cons_of_mem _ List.mem_cons_self),fe fun i hi=>fe fun j hj=>jt (by rw [h i j hi hj])⟩
 ·cases hq
theorem iS:VT.le (one (.agg #[.bool false, .slice none 0 0])) (bm 0):=by
 intro v h e
 have e:v = .agg #[.bool false, .slice none 0 0]:=e
 subst e
 refine ⟨_,rfl,rfl,by simp [Value.oneCell'],fun q hq => ?_⟩
 rcases List.mem_cons.1 hq with rfl | hq
 ·exact ⟨.bool false,rfl,rfl⟩
 ·rcases List.mem_cons.1 hq with rfl | hq
  ·exact ⟨.slice none 0 0,rfl,⟨none,0,rfl,Nat.le_refl _,by decide,fun i hi=>absurd hi (Nat.not_lt_zero _)⟩⟩
  ·cases hq
theorem s9 {sv:Option Nat} {T:TypeId} {L:Lay} {cap n:Nat} {φ:Nat→VT} {g:RH} {h:Hp} (hp:(a8 sv T L cap n φ).p g h) (he:sv=none):n=0:=by
 obtain ⟨h1,h2,h3,_⟩:=hp;have:=h3 he;omega
theorem bC {bs:List Nat} {i:Nat} (h:i<bs.length):bs[i]? = some (bs.getD i 0):=by simp [List.getD,h]
def bO (sv:Option Nat) (cap r c:Nat) (bs:List Nat):Own:=a8 sv 57 .one cap r (fun q=>one (slV (some (bs.getD q 0)) c c))
def bg (c:Nat) (bs:List Nat) (F:Nat→Nat→Int):Own:=bX 55 (.agg 2) c bs (fun q k=>bm (F q k))
theorem du {c:Nat} {bs:List Nat} {F G:Nat→Nat→Int} (h : ∀ i j,i<bs.length→j<c→F i j=G i j):Own.le (bg c bs F) (bg c bs G):=dM fun i j hi hj=>by rw [h i j hi hj]
abbrev yd (r:Nat) := {s:List Nat × Option Nat × Nat // s.1.length=r∧(s.2.1=none→r=0)}
def gS (r c:Nat) (s:yd r):VT:=bG 3 [(0, .one,one (.int .i64 r)),(1, .one,one (.int .i64 c)),(2, .one,one (slV s.1.2.1 r s.1.2.2))]
theorem jd {r c:Nat} {sv:Option Nat} {cap:Nat} {bs:List Nat} {F:Nat→Nat→Int} {cs:cf} (hb:bs.length=r) (hc:(0,Lay.one,one (.int .i64 r))∈cs∧(1,Lay.one,one (.int .i64 c))∈cs∧(2,Lay.one,one (slV sv r cap))∈cs) :
  n7 [bO sv cap r c bs,bg c bs F] cs [(0, .one,one (.int .i64 r)),(1, .one,one (.int .i64 c)),(2, .one,slT .one r (fun i=>cX c (F i)))]:=by
 refine .cons hc.1 (Ent.refl _) (.cons hc.2.1 (Ent.refl _) (.cons hc.2.2 ?_ .nil))
 refine Ent.slE List.mem_cons_self fun q hq => ?_
 exact Ent.row (List.mem_cons_of_mem _ List.mem_cons_self) (bC S)
attribute [local irreducible] J PJ aQ one slT cA bG bZ exT cE eP aX a8 slV VT.le Ret bS
attribute [local irreducible] bX
theorem je (r c:Nat) (hr:r≤1048576) (hc:c≤1048576):OkM Tryz.prog 62 [one (.int .i64 r),one (.int .i64 c)] (gS r c) (fun s => [bO s.1.2.1 s.1.2.2 r c s.1.1,bg c s.1.1 (fun _ _=>0)]):=by
 refine OkM.enter Tryz.func62 Z Tryz.ntmps62 Z (fun w O => ?_)
 refine ah (aj ?_)
 refine a7 (T:=29) Z Z Z (fun b => ?_)
 refine Ap (aa (ah (aj (sJ (n:=0) Z Z Z Z Z ?_))))
 refine PartsK.nil (fun b => ?_)
 refine An Z (Ap (aa (ah (ah (aj (An Z (Ap (aa (ar ?_)))))))))
 rename_i bc
 refine iM (ConvM.rows0 (T:=55) (L := .agg 2) (c:=c) (φ:=fun _ _=>bm 0) _) ?_
 refine cO (σ:=List Nat × Option Nat × Nat) (fun s => [(0,one (.int .i64 r)),(1,one (.int .i64 c)),(4,one (.pointer (some ⟨bc,0,none⟩))),(5,one (slV s.2.1 s.1.length s.2.2)),(6,one (.int .i64 s.1.length))])
  (fun s => [a8 s.2.1 57 .one s.2.2 s.1.length (fun q=>one (slV (some (s.1.getD q 0)) c c)),aX bc 29 3 (dw #[Value.int IntKind.i64 0,Value.int IntKind.i64 0,Value.slice none 0 0] [(0,Lay.one),(1,Lay.one),(2,Lay.one)]),bg c s.1 (fun _ _=>0)])
  (fun s=>s.1.length≤r) (fun s=>r - s.1.length) ([],some b,0) (Nat.zero_le _) Ai (.keep (cy (fun q hq=>by omega)) (SubM.refl _)) (fun s hk => ?_)
 obtain ⟨bs,sv0,cap0⟩:=s
 simp only at hk ⊢
 refine ah (ah (aj (Am Z (Am Z (Al (aS Z Z) (Ap (aa ?_)))))))
 refine a5 Z (fun hc => ?_) (fun hc => ?_) <;> simp at hc
 ·refine au (aa (ah (ar (aj (Am Z (Am Z ?_))))))
  refine cK c c Z Z Z Z (Nat.le_refl _) Z Z S Z Z (fun bz => ?_)
  refine pt Z Z Z Z ?_
  (refine fD 1 Z Z Z (leN Z) ?_ ?_ Z (ltN Z) (fun sv cap => ?_);omega;omega)
  refine An Z (Ap (aD (aa (aj (Am Z ?_)))))
  (refine Al (cq Z Z (aR ?_ ?_)) ?_;omega;omega)
  refine An Z (Ap (gv (ConvM.row (k:=2) Z) (bM (s:=(bs,sv0,cap0)) (bs ++ [bz],sv,cap) (by simp;omega) (by simp;omega) (.cons Z W (.cons Z W (.cons Z W (.cons Z (ov (by simp)) (.cons Z (aq (by simp)) .nil))))) ?_)))
  refine .keep (mn (by simp) (fun q hq => ?_)) (.keep Ak (.keep (jU fun i j hi hj => ?_) .nil))
  ·by_cases h:q<bs.length
   ·rw [if_pos h]; simp [List.getElem?_append_left h]
   ·have:q=bs.length:=by omega
    subst this;rw [if_neg h]; simp
  ·simp only
   split
   ·exact VT.le_refl _
   ·exact iS
 ·have hlen:bs.length=r:=by omega
  subst hlen
  refine eU (i:=0) (F:=sv0=none→bs.length=0) Z (fun g h hp he=>s9 hp he) (fun hF => ?_)
  refine aU (av (av (aC (aa (ah (aj (Am Z (Am Z (Am Z ?_)))))))))
  refine stB Z Z Z (BuildK.cons Z Z Z (BuildK.cons Z Z Z (BuildK.cons Z Z Z (BuildK.nil (aW 1 Z Z Z Z (Ap (aa (aG ?_))))))))
  refine iB ⟨(bs,sv0,cap0),rfl,hF⟩ Tryz.results62 (.cellW 1 Z Z W) ?_
  exact .keep Ak (.drop (SubM.refl _))
end Tor
end
section
namespace Tor
open Go Go.RowKit Go.Proofs
attribute [local irreducible] J PJ aQ one slT cA bG bZ exT cE eP aX a8 slV VT.le Ret bS
attribute [local irreducible] bm bX
theorem ko (n:Nat) (hn:n≤1048576):Ok Tryz.prog 32 [one (.int .i64 n)] (bp n n (fun i j=>if i=j then 1 else 0)):=by
 refine Ok.enter Tryz.func32 Z Tryz.ntmps32 Z (fun w O => ?_)
 refine ah (aj ?_)
 refine a7 (T:=29) Z Z Z (fun b => ?_)
 refine Ap (aa (ah (aj (Am Z (Am Z ?_)))))
 refine eu (je n n hn hn) Z ⟨W,W,Aq⟩ Z Z (fun s => ?_)
 obtain ⟨⟨bs,sv1,cap1⟩,hlen,hsv⟩:=s
 simp only at hlen hsv
 unfold gS
 refine a7 (T:=29) Z Z Z (fun b => ?_)
 refine aW 0 Z Z Z Z (Ap (aa (ah (ah (aj (An Z (Ap (aa (ar ?_)))))))))
 rename_i b2
 refine cO (σ:=Nat) (fun i => [(0,one (.int .i64 n)),(2,one (.pointer (some ⟨b2,0,none⟩))),(3,one (.pointer (some ⟨b,0,none⟩))),(4,one (.int .i64 (i:Nat)))])
  (fun i => [aX b 29 3 [(0, .one,one (.int .i64 n)),(1, .one,one (.int .i64 n)),(2, .one,one (slV sv1 n cap1))],bO sv1 cap1 n n bs,bg n bs (fun q k=>if q<i then (if q=k then 1 else 0) else 0),
   aX b2 29 3 (dw #[Value.int IntKind.i64 0,Value.int IntKind.i64 0,Value.slice none 0 0] [(0,Lay.one),(1,Lay.one),(2,Lay.one)])])
  (fun i=>i≤n) (fun i=>n - i) 0 (Nat.zero_le _) Ai (.keep Ak (.keep Ak (.keep (du fun i j hi hj=>by simp) (SubM.refl _)))) (fun i hi => ?_)
 refine ah (ah (aj (Am Z (Am Z (Al (aS Z Z) (Ap (aa ?_)))))))
 refine a5 Z (fun hc => ?_) (fun hc => ?_) <;> simp at hc
 ·obtain ⟨bo,rfl⟩ : ∃ bo,sv1=some bo:=by
   cases sv1 with
   | none => have := hsv Z; omega
   | some bo => exact ⟨bo, rfl⟩
  refine au (aa (ah (ar (aZ 8 aV X Y (Al (ab Z) (Al (ak 0 Z Z Z) (Am Z ?_)))))))
  (refine Al (an Z Z ?_) ?_;omega)
  (refine Al (aI 1 Z Z ?_) ?_;omega)
  refine Am Z ?_
  refine Al (am (jF 1 Y Y) Z ⟨W,Aq⟩) ?_
  (refine Al (an Z Z ?_) ?_;omega)
  refine Ap ?_
  (refine a9 2 Z Z Z (bC ?_) ?_ Z ?_;omega;omega)
  refine Ap (aD (aa (aj (Am Z ?_))))
  (refine Al (cq Z Z (aR ?_ ?_)) ?_;omega;omega)
  refine An Z (Ap ?_)
  refine bM (s:=i) (i+1) (show _ from by omega) S Ai (.keep Ak (.keep Ak (.keep (dM fun q k hq hk => ?_) (SubM.refl _))))
  unfold eO
  by_cases h:q=i
  ·subst h
   by_cases h2:k=q
   ·subst h2;simp
   ·have h3 : ¬ q=k:=fun e=>h2 e.symm
    simp [h2,h3]
  ·have h3:q<i+1↔q<i:=by omega
   simp [h,h3]
 ·have hin:i=n:=by omega
  subst hin
  refine aU (av (av (aC (aa (ah (aj (Al (aL 0 Z Z) (aW 3 Z Z Z Z (Ap ?_)))))))))
  refine aa (aG ?_)
  have hperm : ∀ (x y z u:Own), [x,y,z,u].Perm ([y,z] ++ [x,u]):=fun x y z u=>(List.Perm.swap y x _).trans (List.Perm.cons y (List.Perm.swap z x _))
  refine fQ [bO sv1 cap1 i i bs,bg i bs (fun q k=>if q<i then (if q=k then 1 else 0) else 0)] (hperm _ _ _ _) (.keep (vF.refl _) (.keep (vF.box (jd hlen ⟨by simp,by simp,by simp⟩)) .nil)) (qN.refl _) ?_
  refine aP Tryz.results32 (.cellW 1 Z Z ?_)
  exact kn fun a b ha hb=>by simp [ha]
end Tor
end
section
namespace Tor
open Go Go.RowKit Go.Proofs
def kR (k:IntKind) (l:List Int):VT:=slT .one l.length (fun i=>one (.int k (l.getD i 0)))
theorem jf {sv:Option Nat} {r:Nat} (h:sv=none→r=0) (hr:0<r) : ∃ b,sv=some b:=by
 cases sv with
 | none => have := h Z; omega
 | some b => exact ⟨b, rfl⟩
theorem m5 (i c j:Nat):((i:Int)*c+j).toNat=i*c+j:=by
 have:((i:Int)*c+j)=((i*c+j:Nat):Int):=by simp
 rw [this,Int.toNat_natCast]
def fL (f:Nat→Int) (c i j:Nat):Nat→Nat→Int:=fun q k=>if q<i∨(q=i∧k<j) then f (q*c+k) else 0
theorem uA {l:List Int} {i:Nat} {p:Int→Prop} (h : ∀ x∈l,p x) (h0:p 0):p (l.getD i 0):=by
 rcases Nat.lt_or_ge i l.length with hi | hi
 ·simp only [List.getD,List.getElem?_eq_getElem hi,Option.getD_some]; exact h _ (List.getElem_mem hi)
 ·simp only [List.getD,List.getElem?_eq_none hi,Option.getD_none]; exact h0
theorem pU {T:TypeId} {c:Nat} {bs:List Nat} {f:Nat→Int} {i j:Nat} (x:Int) (hx:x=f (i*c+j)) :
  Own.le (bX T (.agg 2) c bs (eO (fun q k=>bm (fL f c i j q k)) i j (bm x))) (bX T (.agg 2) c bs (fun q k=>bm (fL f c i (j+1) q k))):=by
 subst hx
 refine dM fun q k hq hk => ?_
 unfold eO fL
 by_cases h:q=i∧k=j
 ·obtain ⟨rfl,rfl⟩:=h;simp
 ·rw [if_neg h]
  have e:(q<i∨q=i∧k<j+1)↔(q<i∨q=i∧k<j):=by omega
  simp only [e]
attribute [local irreducible] J PJ aQ one slT cA bG bZ exT cE eP aX a8 slV VT.le Ret bS
attribute [local irreducible] bm bX
theorem uC (r c:Nat) (l:List Int) (hr0:r≤1048576) (hc0:c≤1048576) (hl : ∀ x∈l, -9223372036854775808≤x∧x≤9223372036854775807):Ok Tryz.prog 26 [one (.int .i64 r),one (.int .i64 c),kR .i64 l] (bp r c (fun i j=>l.getD (i*c+j) 0)):=by
 unfold kR
 refine Ok.enter Tryz.func26 Z Tryz.ntmps26 Z (fun w O => ?_)
 refine ah (aj ?_)
 refine a7 (T:=29) Z Z Z (fun b => ?_)
 refine Ap (aa (ah (aj (Am Z (Am Z ?_)))))
 refine eu (je r c hr0 hc0) Z ⟨W,W,Aq⟩ Z Z (fun s => ?_)
 obtain ⟨⟨bs,sv1,cap1⟩,hlen,hsv⟩:=s
 simp only at hlen hsv
 unfold gS
 refine a7 (T:=29) Z Z Z (fun b => ?_)
 refine aW 0 Z Z Z Z (Ap (aa (ah (ah (aj (An Z (Ap (aa (ar ?_)))))))))
 rename_i b2
 refine cO (σ:=Nat) (fun i => [(0,one (.int .i64 r)),(1,one (.int .i64 c)),(2,slT .one l.length (fun i=>one (.int .i64 (l.getD i 0)))),(6,one (.pointer (some ⟨b2,0,none⟩))),(7,one (.pointer (some ⟨b,0,none⟩))),(8,one (.int .i64 (i:Nat)))])
  (fun i => [aX b 29 3 [(0, .one,one (.int .i64 r)),(1, .one,one (.int .i64 c)),(2, .one,one (slV sv1 r cap1))],bO sv1 cap1 r c bs,bg c bs (fL (fun n=>l.getD n 0) c i 0),
   aX b2 29 3 (dw #[Value.int IntKind.i64 0,Value.int IntKind.i64 0,Value.slice none 0 0] [(0,Lay.one),(1,Lay.one),(2,Lay.one)])])
  (fun i=>i≤r) (fun i=>r - i) 0 (Nat.zero_le _) Ai (.keep Ak (.keep Ak (.keep (du fun i j hi hj=>by simp [fL]) (SubM.refl _)))) (fun i hi => ?_)
 refine ah (ah (aj (Am Z (Am Z (Al (aS Z Z) (Ap (aa ?_)))))))
 refine a5 Z (fun hc => ?_) (fun hc => ?_) <;> simp at hc
 ·have hir:i<r:=by omega
  obtain ⟨bo,rfl⟩:=jf hsv S
  refine au (aa (ah (ar (ah (aj (An Z (Ap (aa (ar ?_)))))))))
  refine cO (σ:=Nat) (fun j => [(0,one (.int .i64 r)),(1,one (.int .i64 c)),(2,slT .one l.length (fun i=>one (.int .i64 (l.getD i 0)))),(6,one (.pointer (some ⟨b2,0,none⟩))),(7,one (.pointer (some ⟨b,0,none⟩))),(8,one (.int .i64 (i:Nat))),(9,one (.int .i64 (j:Nat)))])
   (fun j => [aX b 29 3 [(0, .one,one (.int .i64 r)),(1, .one,one (.int .i64 c)),(2, .one,one (slV (some bo) r cap1))],bO (some bo) cap1 r c bs,bg c bs (fL (fun n=>l.getD n 0) c i j),
   aX b2 29 3 (dw #[Value.int IntKind.i64 0,Value.int IntKind.i64 0,Value.slice none 0 0] [(0,Lay.one),(1,Lay.one),(2,Lay.one)])])
   (fun j=>j≤c) (fun j=>c - j) 0 (Nat.zero_le _) Ai (SubM.refl _) (fun j hj => ?_)
  have hm:i*c≤1048576*1048576:=Nat.mul_le_mul S hc0
  have hm2:(i:Int)*c≤1099511627776:=by omega
  have hm3:0≤(i:Int)*c:=by have:=Nat.zero_le (i*c);omega
  refine ah (ah ?_)
  refine fh (σ:=Unit) (fun _ => [(0,one (.int .i64 r)),(1,one (.int .i64 c)),(2,slT .one l.length (fun i=>one (.int .i64 (l.getD i 0)))),(6,one (.pointer (some ⟨b2,0,none⟩))),(7,one (.pointer (some ⟨b,0,none⟩))),(8,one (.int .i64 (i:Nat))),(9,one (.int .i64 (j:Nat))),(30,one (.bool (decide (j<c∧i*c+j<l.length))))])
   (fun _ => [aX b 29 3 [(0, .one,one (.int .i64 r)),(1, .one,one (.int .i64 c)),(2, .one,one (slV (some bo) r cap1))],bO (some bo) cap1 r c bs,bg c bs (fL (fun n=>l.getD n 0) c i j),
   aX b2 29 3 (dw #[Value.int IntKind.i64 0,Value.int IntKind.i64 0,Value.slice none 0 0] [(0,Lay.one),(1,Lay.one),(2,Lay.one)])]) (fun _=>True) ?_ (fun _ _ => ?_)
  ·refine aj (Am Z (Am Z (Al (aS Z Z) (Am Z ?_))))
   refine jp (t:=21) Z (fun b h1 => ?_)
   rw [h1]
   cases b
   ·simp at h1
    refine sg0 Z Z Z Z (sg0 Z Z Z Z (sg0 Z Z Z Z (sg0 Z Z Z Z (sg0 Z Z Z Z (sg0 Z Z Z Z (sg0 Z Z Z Z (sg0 Z Z Z Z (Al (ay Z Z) (Ap ?_)))))))))
    refine cZ () trivial (.cons Z W (.cons Z W (.cons Z W (.cons Z W (.cons Z W (.cons Z W (.cons Z W (.cons Z (aq ?_) .nil)))))))) (SubM.refl _)
    congr 1;symm;rw [decide_eq_false_iff_not]; omega
   ·simp at h1
    refine Ao (ae Z) (Ao (ae Z) ?_)
    (refine Ao (lk Z Z (aR ?_ ?_)) ?_;omega;omega)
    refine Ao (ae Z) ?_
    (refine Ao (cq Z Z (aR ?_ ?_)) ?_;omega;omega)
    refine Ao (ae Z) (Ao (be Z) (Ao (aS Z Z) (Al (aE Z Z) (Ap ?_))))
    refine cZ () trivial (.cons Z W (.cons Z W (.cons Z W (.cons Z W (.cons Z W (.cons Z W (.cons Z W (.cons Z (aq ?_) .nil)))))))) (SubM.refl _)
    congr 1;rw [decide_eq_decide]
    have:((i*c:Nat):Int)=(i:Int)*c:=by simp
    omega
  ·refine aa ?_
   refine a5 Z (fun hc2 => ?_) (fun hc2 => ?_) <;> simp only [decide_eq_true_eq,decide_eq_false_iff_not] at hc2
   ·have hm4:((i*c:Nat):Int)=(i:Int)*c:=by simp
    refine au (aa (ah (ar (aZ 16 aV X Y (Al (ab Z) (Al (ak 0 Z Z Z) (Am Z ?_)))))))
    (refine Al (an Z Z ?_) ?_;omega)
    (refine Al (aI 1 Z Z ?_) ?_;omega)
    refine Am Z (Am Z (Am Z (Am Z ?_)))
    (refine Al (lk Z Z (aR ?_ ?_)) ?_;omega;omega)
    refine Am Z ?_
    (refine Al (cq Z Z (aR ?_ ?_)) ?_;omega;omega)
    (refine Al (ax Z Z ?_) ?_;omega)
    refine Al (aH Z) ?_
    have hv:=uA (i:=((i:Int)*c+j).toNat) hl Y
    refine Al (am (jF _ hv.1 hv.2) Z ⟨W,Aq⟩) ?_
    (refine Al (an Z Z ?_) ?_;omega)
    refine Ap ?_
    (refine a9 2 Z Z Z (bC ?_) ?_ Z ?_;omega;omega)
    refine Ap (aD (aa (aj (Am Z ?_))))
    (refine Al (cq Z Z (aR ?_ ?_)) ?_;omega;omega)
    refine An Z (Ap ?_)
    refine bM (s:=j) (j+1) (show _ from by omega) S Ai (.keep Ak (.keep Ak (.keep (pU _ (by rw [m5])) (SubM.refl _))))
   ·refine aU (av (av (aC (aD (aa (aj (Am Z ?_)))))))
    (refine Al (cq Z Z (aR ?_ ?_)) ?_;omega;omega)
    refine An Z (Ap ?_)
    refine bM (s:=i) (i+1) (show _ from by omega) S Ai (.keep Ak (.keep Ak (.keep (du fun q k hq hk => ?_) (SubM.refl _))))
    unfold fL
    by_cases h:q<i∨(q=i∧k<j)
    ·rw [if_pos h,if_pos S]
    ·rw [if_neg h]
     by_cases h2:q=i
     ·subst h2;rw [if_pos S]
      have:l.length≤q*c+k:=by omega
      simp [List.getD,List.getElem?_eq_none this]
     ·rw [if_neg S]
 ·have hin:i=r:=by omega
  subst hin
  refine aU (av (av (aC (aa (ah (aj (Al (aL 0 Z Z) (aW 3 Z Z Z Z (Ap ?_)))))))))
  refine aa (aG ?_)
  have hperm : ∀ (x y z u:Own), [x,y,z,u].Perm ([y,z] ++ [x,u]):=fun x y z u=>(List.Perm.swap y x _).trans (List.Perm.cons y (List.Perm.swap z x _))
  refine fQ [bO sv1 cap1 i c bs,bg c bs (fL (fun n=>l.getD n 0) c i 0)] (hperm _ _ _ _) (.keep (vF.refl _) (.keep (vF.box (jd hlen ⟨by simp,by simp,by simp⟩)) .nil)) (qN.refl _) ?_
  refine aP Tryz.results26 (.cellW 1 Z Z ?_)
  exact kn fun a b ha hb=>by simp [fL,ha]
end Tor
end
section
namespace Tor
open Go Go.RowKit Go.Proofs
theorem xp (x:Int) : -10<x.tmod 10∧x.tmod 10<10:=⟨by
 have:=Int.tmod_lt_of_pos (-x) (show (0:Int)<10 by decide)
 rw [Int.neg_tmod] at this;omega,Int.tmod_lt_of_pos x Y⟩
def dig (l:List Int) (n:Nat):Int:=(l.getD n 0).tmod 10
attribute [local irreducible] J PJ aQ one slT cA bG bZ exT cE eP aX a8 slV VT.le Ret bS
attribute [local irreducible] bm bX
theorem pV (r c:Nat) (l:List Int) (hr0:r≤16) (hc0:c≤16):OkM Tryz.prog 27 [one (.int .i64 r),one (.int .i64 c),kR .i8 l] (gS r c) (fun s => [bO s.1.2.1 s.1.2.2 r c s.1.1,bg c s.1.1 (fun i j=>dig l (i*c+j))]):=by
 unfold kR
 refine OkM.enter Tryz.func27 Z Tryz.ntmps27 Z (fun w O => ?_)
 refine ah (aj ?_)
 refine a7 (T:=29) Z Z Z (fun b => ?_)
 refine Ap (aa (ah (aj (Am Z (Al (pn Z Z) (Al (wL Z Z) (Am Z (Al (pn Z Z) (Al (wL Z Z) ?_)))))))))
 refine eu (je r c S S) Z ⟨aq (by congr 1;omega),aq (by congr 1;omega),Aq⟩ Z Z (fun s => ?_)
 obtain ⟨⟨bs,sv1,cap1⟩,hlen,hsv⟩:=s
 simp only at hlen hsv
 unfold gS
 refine a7 (T:=29) Z Z Z (fun b => ?_)
 refine aW 0 Z Z Z Z (Ap (aa (ah (ah (aj (An Z (Ap (aa (ar ?_)))))))))
 rename_i b2
 refine cO (σ:=Nat) (fun i => [(2,slT .one l.length (fun i=>one (.int .i8 (l.getD i 0)))),(6,one (.pointer (some ⟨b2,0,none⟩))),(7,one (.pointer (some ⟨b,0,none⟩))),(8,one (.int .i64 (i:Nat)))])
  (fun i => [aX b 29 3 [(0, .one,one (.int .i64 r)),(1, .one,one (.int .i64 c)),(2, .one,one (slV sv1 r cap1))],bO sv1 cap1 r c bs,bg c bs (fL (dig l) c i 0),
   aX b2 29 3 (dw #[Value.int IntKind.i64 0,Value.int IntKind.i64 0,Value.slice none 0 0] [(0,Lay.one),(1,Lay.one),(2,Lay.one)])])
  (fun i=>i≤r) (fun i=>r - i) 0 (Nat.zero_le _) Ai (.keep Ak (.keep Ak (.keep (du fun i j hi hj=>by simp [fL]) (SubM.refl _)))) (fun i hi => ?_)
 refine ah (ah (aj (Am Z (Al (ab Z) (Al (ak 0 Z Z Z) (Al (aS Z Z) (Ap (aa ?_))))))))
 refine a5 Z (fun hc => ?_) (fun hc => ?_) <;> simp at hc
 ·have hir:i<r:=by omega
  obtain ⟨bo,rfl⟩:=jf hsv S
  refine au (aa (ah (ar (ah (aj (An Z (Ap (aa (ar ?_)))))))))
  refine cO (σ:=Nat) (fun j => [(2,slT .one l.length (fun i=>one (.int .i8 (l.getD i 0)))),(6,one (.pointer (some ⟨b2,0,none⟩))),(7,one (.pointer (some ⟨b,0,none⟩))),(8,one (.int .i64 (i:Nat))),(9,one (.int .i64 (j:Nat)))])
   (fun j => [aX b 29 3 [(0, .one,one (.int .i64 r)),(1, .one,one (.int .i64 c)),(2, .one,one (slV (some bo) r cap1))],bO (some bo) cap1 r c bs,bg c bs (fL (dig l) c i j),
   aX b2 29 3 (dw #[Value.int IntKind.i64 0,Value.int IntKind.i64 0,Value.slice none 0 0] [(0,Lay.one),(1,Lay.one),(2,Lay.one)])])
   (fun j=>j≤c) (fun j=>c - j) 0 (Nat.zero_le _) Ai (SubM.refl _) (fun j hj => ?_)
  have hm:i*c≤16*16:=Nat.mul_le_mul S hc0
  have hm2:(i:Int)*c≤256:=by omega
  have hm3:0≤(i:Int)*c:=by have:=Nat.zero_le (i*c);omega
  refine ah (ah ?_)
  refine fh (σ:=Unit) (fun _ => [(2,slT .one l.length (fun i=>one (.int .i8 (l.getD i 0)))),(6,one (.pointer (some ⟨b2,0,none⟩))),(7,one (.pointer (some ⟨b,0,none⟩))),(8,one (.int .i64 (i:Nat))),(9,one (.int .i64 (j:Nat))),(37,one (.bool (decide (j<c∧i*c+j<l.length))))])
   (fun _ => [aX b 29 3 [(0, .one,one (.int .i64 r)),(1, .one,one (.int .i64 c)),(2, .one,one (slV (some bo) r cap1))],bO (some bo) cap1 r c bs,bg c bs (fL (dig l) c i j),
   aX b2 29 3 (dw #[Value.int IntKind.i64 0,Value.int IntKind.i64 0,Value.slice none 0 0] [(0,Lay.one),(1,Lay.one),(2,Lay.one)])]) (fun _=>True) ?_ (fun _ _ => ?_)
  ·refine aj (Am Z (Al (ab Z) (Al (ak 0 Z Z Z) (Al (aS Z Z) (Am Z ?_)))))
   refine jp (t:=27) Z (fun b h1 => ?_)
   rw [h1]
   cases b
   ·simp at h1
    refine sg0 Z Z Z Z (sg0 Z Z Z Z (sg0 Z Z Z Z (sg0 Z Z Z Z (sg0 Z Z Z Z (sg0 Z Z Z Z (sg0 Z Z Z Z (sg0 Z Z Z Z (sg0 Z Z Z Z (Al (ay Z Z) ?_)))))))))
    refine Ap ?_
    refine cZ () trivial (.cons Z W (.cons Z W (.cons Z W (.cons Z W (.cons Z W (.cons Z (aq ?_) .nil)))))) (SubM.refl _)
    congr 1;symm;rw [decide_eq_false_iff_not]; omega
   ·simp at h1
    refine Ao (ae Z) (Ao (ab Z) (Ao (ak 0 Z Z Z) ?_))
    (refine Ao (lk Z Z (aR ?_ ?_)) ?_;omega;omega)
    refine Ao (ae Z) ?_
    (refine Ao (cq Z Z (aR ?_ ?_)) ?_;omega;omega)
    refine Ao (ae Z) (Ao (be Z) (Ao (aS Z Z) (Al (aE Z Z) (Ap ?_))))
    refine cZ () trivial (.cons Z W (.cons Z W (.cons Z W (.cons Z W (.cons Z W (.cons Z (aq ?_) .nil)))))) (SubM.refl _)
    congr 1;rw [decide_eq_decide]
    have:((i*c:Nat):Int)=(i:Int)*c:=by simp
    omega
  ·refine aa ?_
   refine a5 Z (fun hc2 => ?_) (fun hc2 => ?_) <;> simp only [decide_eq_true_eq,decide_eq_false_iff_not] at hc2
   ·have hm4:((i*c:Nat):Int)=(i:Int)*c:=by simp
    refine au (aa (ah (ar (aZ 19 aV X Y (Al (ab Z) (Al (ak 0 Z Z Z) (Am Z ?_)))))))
    (refine Al (an Z Z ?_) ?_;omega)
    (refine Al (aI 1 Z Z ?_) ?_;omega)
    refine Am Z (Am Z (Am Z (Al (ab Z) (Al (ak 0 Z Z Z) ?_))))
    (refine Al (lk Z Z (aR ?_ ?_)) ?_;omega;omega)
    refine Am Z ?_
    (refine Al (cq Z Z (aR ?_ ?_)) ?_;omega;omega)
    (refine Al (ax Z Z ?_) ?_;omega)
    refine Al (aH Z) (Al (rC Z Z Y Z) ?_)
    have hv:=xp (l.getD (i*c+j) 0)
    refine Al (fy Z ?_ ?_) ?_; · omega
    ·omega
    refine Al (am (jF _ S S) Z ⟨W,Aq⟩) ?_
    (refine Al (an Z Z ?_) ?_;omega)
    refine Ap ?_
    (refine a9 2 Z Z Z (bC ?_) ?_ Z ?_;omega;omega)
    refine Ap (aD (aa (aj (Am Z ?_))))
    (refine Al (cq Z Z (aR ?_ ?_)) ?_;omega;omega)
    refine An Z (Ap ?_)
    refine bM (s:=j) (j+1) (show _ from by omega) S Ai (.keep Ak (.keep Ak (.keep (pU _ Z) (SubM.refl _))))
   ·refine aU (av (av (aC (aD (aa (aj (Am Z ?_)))))))
    (refine Al (cq Z Z (aR ?_ ?_)) ?_;omega;omega)
    refine An Z (Ap ?_)
    refine bM (s:=i) (i+1) (show _ from by omega) S Ai (.keep Ak (.keep Ak (.keep (du fun q k hq hk => ?_) (SubM.refl _))))
    unfold fL
    by_cases h:q<i∨(q=i∧k<j)
    ·rw [if_pos h,if_pos S]
    ·rw [if_neg h]
     by_cases h2:q=i
     ·subst h2;rw [if_pos S]
      have:l.length≤q*c+k:=by omega
      simp [dig,List.getD,List.getElem?_eq_none this]
     ·rw [if_neg S]
 ·have hin:i=r:=by omega
  subst hin
  refine aU (av (av (aC (aa (ah (aj (Al (aL 0 Z Z) (aW 3 Z Z Z Z (Ap ?_)))))))))
  refine aa (aG ?_)
  refine iB ⟨(bs,sv1,cap1),hlen,hsv⟩ Tryz.results27 (.cellW 3 Z Z ?_) ?_
  ·show VT.le _ (gS i c _)
   unfold gS
   exact VT.le_refl _
  ·refine .drop (.keep Ak (.keep (du fun a b ha hb => ?_) (.drop .nil)))
   have:a<i:=by have:a<bs.length:=ha;omega
   simp [fL,this]
end Tor
end
section
namespace Tor
open Go Go.RowKit Go.Proofs
instance {neg:Bool} {l:List Nat} : Flat (jG neg l) (.agg 2):=by unfold jG;infer_instance
theorem qZ {neg:Bool} {l:List Nat} {v:Value} {h:Hp} (Ae:(jG neg l).p v h):l.length≤281474976710656:=by
 obtain ⟨c,_,_,_,h4⟩:=Ae
 obtain ⟨x,_,hp⟩:=h4 _ (List.mem_cons_of_mem _ List.mem_cons_self)
 exact et hp
theorem m6 {r c:Int} {a:List pS} {v:Value} {h:Hp} (Ae:(io r c a).p v h):a.length≤2^48:=by
 obtain ⟨c,_,_,_,h4⟩:=Ae
 obtain ⟨x,_,hp⟩:=h4 _ (List.mem_cons_of_mem _ (List.mem_cons_of_mem _ List.mem_cons_self))
 exact et hp
def iT (r c:Nat) (F:Nat→Nat→Int):List pS:=(tab r c F).map (·.map kg)
theorem pW (r c:Nat) (F:Nat→Nat→Int):VT.le (bp r c F) (io r c (iT r c F)):=by
 refine VT.le_trans (mp r c F) ?_
 unfold s4 io
 refine ej (fun q hq => ?_)
 rcases List.mem_cons.1 hq with rfl | hq
 ·exact ⟨_,List.mem_cons_self,W⟩
 rcases List.mem_cons.1 hq with rfl | hq
 ·exact ⟨_,List.mem_cons_of_mem _ List.mem_cons_self,W⟩
 rcases List.mem_cons.1 hq with rfl | hq
 ·refine ⟨_,List.mem_cons_of_mem _ (List.mem_cons_of_mem _ List.mem_cons_self),?_⟩
  unfold mo dO iT
  refine VT.le_trans (fe (ψ:=fun i=>dN (((tab r c F).map (·.map kg)).getD i [])) (fun i hi => ?_)) (jt (by simp))
  refine VT.le_trans (uy _) (jt ?_)
  simp [List.getD,List.getElem?_eq_getElem hi]
 ·cases hq
theorem mq (r c:Nat) (F:Nat→Nat→Int):ew r c (iT r c F)=true:=by
 unfold ew iT
 simp only [List.length_map,tab_length,Bool.and_eq_true,decide_eq_true_eq,List.all_map]
 refine ⟨⟨by omega,by omega,Aq⟩,?_⟩
 rw [List.all_eq_true]
 intro x hx
 simp only [tab,List.mem_map,List.mem_range] at hx
 obtain ⟨i,hi,rfl⟩:=hx
 simp only [e7,Function.comp,List.length_map,List.length_range,List.all_map,Bool.and_eq_true,decide_eq_true_eq]
 refine ⟨trivial,?_⟩
 rw [List.all_eq_true]
 intro y hy
 exact qY _
attribute [local irreducible] J PJ aQ one slT cA bG bZ exT cE eP aX a8 slV VT.le Ret bS
theorem uD (neg:Bool) (l:List Nat):Ok Tryz.prog 63 [jG neg l] (one (.bool (fm neg l))):=by
 refine Ok.enter Tryz.func63 Z Tryz.ntmps63 Z (fun w O => ?_)
 refine gC (t:=0) Z (fun _ _=>qZ) (fun hl => ?_)
 unfold jG
 by_cases h0:l.length=0
 ·refine ah (aj ?_)
  refine aY Z Z (ltN Z) (fun b => ?_)
  refine An Z (Ap (aa (ah (ah (aj (Al (ab Z) (Al (ak 0 Z Z Z) (Al (be Z) (An Z ?_)))))))))
  refine Ap (aa (ah (aj (Am Z (Al (dS Z Z) (Ap (aa ?_)))))))
  refine a5 Z (fun hc => ?_) (fun hc => ?_) <;> simp only [decide_eq_true_eq,decide_eq_false_iff_not,ne_eq,Decidable.not_not] at hc
  ·omega
  ·refine au (aa (ah (aj (Al (ab Z) (Al (ak 0 Z Z Z) (Al (bx Z) (An Z (Ap (aa ?_)))))))))
   refine aG ?_
   exact aP Tryz.results63 (.tmp Z (aq (by unfold fm;rw [if_pos h0])))
 ·refine ah (aj ?_)
  refine aY Z Z (ltN Z) (fun b => ?_)
  refine An Z (Ap (aa (ah (ah (aj (Al (ab Z) (Al (ak 0 Z Z Z) (Al (be Z) (An Z ?_)))))))))
  refine Ap (aa (ah (aj (Am Z (Al (dS Z Z) (Ap (aa ?_)))))))
  refine a5 Z (fun hc => ?_) (fun hc => ?_) <;> simp only [decide_eq_true_eq,decide_eq_false_iff_not,ne_eq,Decidable.not_not] at hc
  ·refine ah (aj (Al (ab Z) (Al (ak 0 Z Z Z) (Am Z ?_))))
   (refine Al (ey Z Z (aR ?_ ?_)) ?_;omega;omega)
   (refine Al (ed Z Z ?_ ?_) ?_;omega;omega)
   refine Al (aH Z) (Al (dy Z Z) (An Z (Ap (aa (aG (aB ?_))))))
   refine aP Tryz.results63 (.tmp Z (aq ?_))
   have e:(↑l.length - 1:Int).toNat=l.length - 1:=by omega
   unfold fm;rw [if_neg h0,e]; congr 1;rw [decide_eq_decide]; omega
  ·omega
attribute [local irreducible] bm jG
theorem vU (v:List Int):Ok Tryz.prog 48 [iR v] (one (.bool (v.all fun x=>decide (x=0)))):=by
 unfold iR
 refine Ok.enter Tryz.func48 Z Tryz.ntmps48 Z (fun w O => ?_)
 refine gC (t:=0) Z (fun _ _=>et) (fun hb => ?_)
 refine ah (aj (An Z (Ap (aa (ah (ah (aj (Am Z (Al (be Z) ?_)))))))))
 refine Am Z (Ap (aa (ar ?_)))
 refine cO (σ:=Nat) (fun i => [(5,iR v),(6,one (.int .i64 v.length)),(7,one (.int .i64 (i:Nat)))]) (fun _ => []) (fun i=>i≤v.length∧(v.take i).all (fun x=>decide (x=0))=true) (fun i=>v.length - i) 0 ⟨Nat.zero_le _,rfl⟩ Ai (SubM.refl _) (fun i ⟨hi,ht⟩ => ?_)
 unfold iR
 refine ah (aj (Al (aS Z Z) (Ap (aa (ah ?_)))))
 refine a5 Z (fun hc => ?_) (fun hc => ?_) <;> simp at hc
 ·refine au (aa (ah (ar (ah (aj ?_)))))
  (refine Al (ax Z Z ?_) ?_;omega)
  refine Al (aH Z) ?_
  refine aT (T:=55) Z (ltN Z) (fun b => ?_)
  refine aF 0 Z Z Z Z Z (leN Z) Z (Ap (aa (ah (aj (Al (ak 0 Z Z Z) ?_)))))
  refine Al (am (lJ (decide (v.getD i 0<0)) (v.getD i 0).natAbs) Z ⟨d8 _,Aq⟩) ?_
  rw [eG]
  refine Al (dy Z Z) (Ap (aa ?_))
  have hs : ∀ x:Int,de x=0↔x=0:=cI
  refine a5 Z (fun hc2 => ?_) (fun hc2 => ?_) <;> simp only [decide_eq_true_eq,decide_eq_false_iff_not,ne_eq,Decidable.not_not,hs] at hc2
  ·refine ah (aj (An Z (Ap (aa (aG (a6 (aB (aB (a6 ?_)))))))))
   refine aB ?_
   refine aP Tryz.results48 (.tmp Z (aq ?_))
   rw [jH (d:=0) hc (decide_eq_false hc2)]
  ·refine au (aD (aa (aj ?_)))
   (refine Al (cq Z Z (aR ?_ ?_)) ?_;omega;omega)
   refine Am Z (Ap ?_)
   exact bM (s:=i) (i+1) ⟨by omega,kj (d:=0) ht hc (decide_eq_true hc2)⟩ (by show v.length - (i+1)<v.length - i;omega) Ai (.drop .nil)
 ·refine aU (av (av (aC (aa (ah (aj (An Z (Ap (aa ?_)))))))))
  refine aG ?_
  refine aP Tryz.results48 (.tmp Z (aq ?_))
  rw [List.take_of_length_le S] at ht
  rw [ht]
attribute [local irreducible] dN
theorem pX (r c:Int) (a:List pS):Ok Tryz.prog 28 [io r c a] (one (.bool (ew r c a))):=by
 refine Ok.enter Tryz.func28 Z Tryz.ntmps28 Z (fun w O => ?_)
 refine gC (t:=0) Z (fun _ _=>m6) (fun ha => ?_)
 unfold io
 unfold dO
 refine ah (aj ?_)
 refine aY Z Z (ltN Z) (fun b => ?_)
 refine An Z (Ap (aa (ah (ah (aj (Al (ab Z) (Al (ak 0 Z Z Z) (Al (aS Z Z) (Am Z ?_)))))))))
 refine jp (t:=10) Z (fun bo hb => ?_)
 rw [hb]
 cases bo
 ·have e1:0≤r:=by simpa using hb
  refine Ao (ab Z) (Ao (ak 0 Z Z Z) (Ao (aS Z Z) (Al (ay Z Z) (Am Z ?_))))
  refine jp (t:=15) Z (fun bo hb2 => ?_)
  rw [hb2]
  cases bo
  ·have e2:0≤c:=by simpa using hb2
   refine Ao (ab Z) (Ao (ak 0 Z Z Z) (Ao (be Z) (Ao (ab Z) (Ao (ak 0 Z Z Z) (Ao (dy Z Z) (Al (ay Z Z) (Ap (aa ?_))))))))
   refine a5 Z (fun hc => ?_) (fun hc => ?_) <;> simp only [decide_eq_true_eq,decide_eq_false_iff_not,ne_eq,Decidable.not_not] at hc
   ·refine ah (aj (An Z (Ap (aa (aG (aB ?_))))))
    refine aP Tryz.results28 (.tmp Z (aq ?_))
    simp [ew,hc]
   ·have e3:(a.length:Int)=r:=hc
    refine au (aa (ah (ah (aj (Al (ab Z) (Al (ak 0 Z Z Z) (Al (be Z) (Am Z (Ap ?_)))))))))
    refine aa (ar ?_)
    refine cO (σ:=Nat) (fun i => [(1,one (.pointer (some ⟨b,0,none⟩))),(24,dO a),(25,one (.int .i64 a.length)),(26,one (.int .i64 (i:Nat)))])
     (fun _ => [aX b 29 3 [(0, .one,one (.int .i64 r)),(1, .one,one (.int .i64 c)),(2, .one,dO a)]])
     (fun i=>i≤a.length∧(a.take i).all (e7 c)=true) (fun i=>a.length - i) 0 ⟨Nat.zero_le _,rfl⟩ Ai (SubM.refl _) (fun i ⟨hi,ht⟩ => ?_)
    unfold dO
    refine ah (aj (Al (aS Z Z) (Ap (aa (ah ?_)))))
    refine a5 Z (fun hc => ?_) (fun hc => ?_) <;> simp at hc
    ·refine au (aa (ah (ar (ah (aj ?_)))))
     (refine Al (ax Z Z ?_) ?_;omega)
     refine Al (aH Z) (An Z (Ap (aa (ah (ah (aj (Am Z ?_)))))))
     unfold dN
     refine Al (be Z) (Al (ab Z) (Al (ak 0 Z Z Z) (Al (dy Z Z) (Ap (aa ?_)))))
     refine a5 Z (fun hc2 => ?_) (fun hc2 => ?_) <;> simp only [decide_eq_true_eq,decide_eq_false_iff_not,ne_eq,Decidable.not_not] at hc2
     ·refine ah (aj (An Z (Ap (aa (aG (aB (a6 (aB (aB ?_)))))))))
      refine a6 (aB ?_)
      refine aP Tryz.results28 (.tmp Z (aq ?_))
      have:=jH (p:=e7 c) (d := []) hc (by simp only [e7,Bool.and_eq_false_iff]; left;simpa using hc2)
      simp [ew,this]
     ·refine gC (t:=29) Z (fun _ _=>et) (fun hlb => ?_)
      refine au (aa (ah (aj (Am Z (Al (be Z) (Am Z (Ap (aa (ar ?_)))))))))
      refine cO (σ:=Nat) (fun j => [(1,one (.pointer (some ⟨b,0,none⟩))),(24,dO a),(25,one (.int .i64 a.length)),(26,one (.int .i64 (i:Nat))),(35,dN (a.getD i [])),(36,one (.int .i64 (a.getD i []).length)),(37,one (.int .i64 (j:Nat)))])
       (fun _ => [aX b 29 3 [(0, .one,one (.int .i64 r)),(1, .one,one (.int .i64 c)),(2, .one,dO a)]])
       (fun j=>j≤(a.getD i []).length∧((a.getD i []).take j).all (fun p=>fm p.1 p.2)=true) (fun j=>(a.getD i []).length - j) 0 ⟨Nat.zero_le _,rfl⟩ (by unfold dO dN;repeat (first | exact eS.nil | refine eS.cons Z W ?_ | (refine eS.cons Z (aq ?_) ?_;(congr 1;first | omega | (simp;omega) | simp)))) (by unfold dO dN;exact SubM.refl _) (fun j ⟨hj,hu⟩ => ?_)
      unfold dO dN
      refine ah (aj (Al (aS Z Z) (Ap (aa (ah ?_)))))
      refine a5 Z (fun hc3 => ?_) (fun hc3 => ?_) <;> simp only [decide_eq_true_eq,decide_eq_false_iff_not,Int.ofNat_lt] at hc3
      ·refine au (aa (ah (ar (ah (aj ?_)))))
       (refine Al (ax Z Z ?_) ?_;omega)
       refine Al (aH Z) ?_
       refine aT (T:=55) Z (ltN Z) (fun b => ?_)
       refine aF 0 Z Z Z Z Z (leN Z) Z (Ap (aa (ah (aj (Al (ak 0 Z Z Z) ?_)))))
       refine Al (am (uD ((a.getD i []).getD j (false, [])).1 ((a.getD i []).getD j (false, [])).2) Z ⟨W,Aq⟩) ?_
       refine Al (bx Z) (Ap (aa ?_))
       refine a5 Z (fun hc4 => ?_) (fun hc4 => ?_)
       ·refine ah (aj (An Z (Ap (aa (aG (a6 (aB (aB (a6 ?_)))))))))
        refine a6 (aB (aB (a6 (aB ?_))))
        refine aP Tryz.results28 (.tmp Z (aq ?_))
        have h1:=jH (p:=fun p:Bool × List Nat=>fm p.1 p.2) (d:=(false, [])) (v:=a.getD i []) hc3 (by simpa using hc4)
        have h2:=jH (p:=e7 c) (d := []) hc (by simp only [e7,Bool.and_eq_false_iff]; right;exact h1)
        simp [ew,h2]
       ·refine au (aD (aa (aj ?_)))
        (refine Al (cq Z Z (aR ?_ ?_)) ?_;omega;omega)
        refine Am Z (Ap ?_)
        exact bM (s:=j) (j+1) ⟨by omega,kj (d:=(false, [])) hu hc3 (by simpa using hc4)⟩ (by show (a.getD i []).length - (j+1)<(a.getD i []).length - j;omega) Ai (.drop (SubM.refl _))
      ·refine aU (av (av (aC (aD (aa (aj ?_))))))
       (refine Al (cq Z Z (aR ?_ ?_)) ?_;omega;omega)
       refine Am Z (Ap ?_)
       rw [List.take_of_length_le S] at hu
       exact bM (s:=i) (i+1) ⟨by omega,kj (d := []) ht hc (by simp only [e7,Bool.and_eq_true]; exact ⟨by simpa using hc2,hu⟩)⟩ (by show a.length - (i+1)<a.length - i;omega) Ai (SubM.refl _)
    ·refine aU (av (av (aC (aa (ah (aj (An Z (Ap (aa ?_)))))))))
     refine aG ?_
     refine aP Tryz.results28 (.tmp Z (aq ?_))
     rw [List.take_of_length_le S] at ht
     simp [ew,ht,e1,e2,e3]
  ·have e2 : ¬ (0≤r∧0≤c):=by simp at hb2;omega
   refine sg0 Z Z Z Z (sg0 Z Z Z Z (sg0 Z Z Z Z (sg0 Z Z Z Z (sg0 Z Z Z Z (sg0 Z Z Z Z (Al (aE Z Z) (Ap (aa ?_))))))))
   refine a5 Z (fun hc => ?_) (fun hc => ?_)
   ·refine ah (aj (An Z (Ap (aa (aG (aB ?_))))))
    refine aP Tryz.results28 (.tmp Z (aq ?_))
    simp only [ew]; rw [decide_eq_false S]; rfl
   ·cases hc
 ·have e1 : ¬ 0≤r:=by simpa using hb
  refine sg0 Z Z Z Z (sg0 Z Z Z Z (sg0 Z Z Z Z (Al (aE Z Z) (Am Z (sg0 Z Z Z Z (sg0 Z Z Z Z (sg0 Z Z Z Z (sg0 Z Z Z Z (sg0 Z Z Z Z ?_)))))))))
  refine sg0 Z Z Z Z (Al (aE Z Z) (Ap (aa ?_)))
  refine a5 Z (fun hc => ?_) (fun hc => ?_)
  ·refine ah (aj (An Z (Ap (aa (aG (aB ?_))))))
   refine aP Tryz.results28 (.tmp Z (aq ?_))
   simp [ew,e1]
  ·cases hc
end Tor
end
