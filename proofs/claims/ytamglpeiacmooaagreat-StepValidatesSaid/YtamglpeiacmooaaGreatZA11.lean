/-
  Proofs that laws of this seat return true for every input, and that their arguments read afterwards as before.
  No condition.
-/
import Derived.Test.YtamglpeiacmooaaGreatZA10
import Derived.Test.YtamglpeiacmooaaGreatRows
set_option maxHeartbeats 20000000
set_option linter.unusedVariables false
set_option linter.unusedSimpArgs false
section
namespace Tor
open Go Go.RowKit Go.Proofs
theorem t4 {r c:Nat} {A:Nat→Nat→Int} {s:SS} (d:Bool) (h:StL r c s) (hr:r≤4) (hc:c≤4) (hmA : ∀ i j,bV (A i j)):Ok Tryz.prog 18 [stT r c A s (one (.bool d))] (stT r c A s (one (.bool d))) :=
 (lJ r c A s.M s.U s.V s.row s.col d S S hmA h.m h.u h.v).ok fun s2 g h0 h' v ho hp=>by
  have hA:ok3 r s2.1:=ho.mem _ (a8 0 Z)
  have hM:ok3 r s2.2.1:=ho.mem _ (a8 3 Z)
  have hU:ok3 r s2.2.2.1:=ho.mem _ (a8 6 Z)
  have hV:ok3 r s2.2.2.2:=ho.mem _ (a8 9 Z)
  exact Ent.agg (gC (cn hA.1 (a8 1 Z) (a8 2 Z)) (cn hM.1 (a8 4 Z) (a8 5 Z)) (cn hU.1 (a8 7 Z) (a8 8 Z)) (cn hV.1 (a8 10 Z) (a8 11 Z))) g h0 h' v ho hp
attribute [local irreducible] J PJ aU one slT cC bJ ci exT cH eP aY bf slV VT.le Ret bW
attribute [local irreducible] ce bq be
set_option maxRecDepth 100000 in
theorem pr (r c:Nat) (l d:List Int) (hd : ∀ x∈d, -128≤x∧x≤127):Ok Tryz.prog 4 [eG r c l,iL .i8 d] (one (.bool true)):=by
 have hr:r % 5≤4:=by omega
 have hc:c % 5≤4:=by omega
 have hm:=jM r c l
 have hall:=kS r c l
 have hb:=nj c l
 unfold eG at hm ⊢
 unfold iL
 generalize r % 5=R at *
 generalize c % 5=C at *
 generalize kQ c l=A at *
 have hS : ∀ t,StL R C (bD R C t (bA A)):=fun t=>(hall t).stL hc
 have hmA : ∀ i j,bV (A i j):=fun i j=>(hS 0).m i j
 have hs:=gS
 have p1:=iu R C A S S
 have p3:=fun s=>jL R C A s (cz R C s) S
 have hdn : ∀ i,i<d.length → -128≤d.getD i 0∧d.getD i 0≤127:=fun i hi=>by
  rw [List.getD_eq_getElem?_getD,List.getElem?_eq_getElem hi]; exact hd _ (List.getElem_mem hi)
 refine Ok.enter Tryz.func4 Z Tryz.ntmps4 Z (fun w O => ?_)
 refine ah (aj ?_)
 refine aR Z Z (ltN Z) (fun b2 => ?_)
 refine An Z (Ap (ab (ah (aj (Al (am (hs) Z trivial) (An Z (Ap (ab (ah ?_)))))))))
 refine aj (Al (aC 0 Z Z) ?_)
 refine Al (am (hm) Z ⟨W,Aq⟩) ?_
 refine aW (T:=29) Z Z Z (fun b6 => ?_)
 refine ia 0 Z Z Z Z (Ap (ab (ah (aj (Al (ak 0 Z Z Z) ?_)))))
 refine Al (am (p1) Z ⟨W,Aq⟩) ?_
 refine aW (T:=32) Z Z Z (fun b7 => ?_)
 refine aL 0 Z Z Z Z (Ap (ab (ah (aj (An Z (Ap (ab (ah (ah ?_)))))))))
 refine aj (An Z (Ap (ab (ao (bL (Γ' := [(1,_),(4,_),(5,_),(6,_),(7,_),(8,_),(9,_)]) Ag (SubM.refl _) ?_)))))
 refine bE (σ:=Nat × Nat) (Γk := [(1,_),(5,_),(6,_),(7,_)]) Ag (fun x => [(9,one (.int .i64 (x.1:Nat))),(8,one (.int .i64 (x.2:Nat)))]) (fun x M0=>(M0.set 0 (aY b7 32 15 (stC R C A (bD R C x.2 (bA A)) (one (.bool (cz R C (bD R C x.2 (bA A))))))))) (fun x=>x.1≤8∧x.2≤16*x.1) (fun x=>8 - x.1) ((0,0)) (⟨Nat.zero_le _,Nat.zero_le _⟩) Ah (.keep Ak (.keep Ak (.keep Ak (.nil)))) (fun x hx => ?_)
 refine bN (Γ' := [(9,_),(8,_),(1,_),(5,_),(6,_),(7,_)]) (M' := [_,_,_]) Z Z ?_
 obtain ⟨i,t⟩:=x
 obtain ⟨hi1,hi2⟩:=hx
 dsimp only at hi1 hi2 ⊢
 by_cases hid:i<d.length
 ·by_cases hi8:i<8
  ·have hx:=hdn i hid
   have v2:=qH (hall t) hr hc hmA
   have cp:=t4 (cz R C (bD R C t (bA A))) (hS t) hr hc hmA
   have k1:=gR R C A (bD R C t (bA A)) ((d.getD i 0).tmod 16) (pq Y Y) S S (fun u=>by rw [eE]; exact hS _)
   rw [eE] at k1
   have hk16:((d.getD i 0).tmod 16).toNat≤16:=by
    have:=Int.tmod_lt_of_pos (d.getD i 0) (show (0:Int)<16 by decide)
    omega
   have hmx:max ((d.getD i 0).tmod 16) 0=(((d.getD i 0).tmod 16).toNat:Int):=by omega
   refine ah (ah (aj (Am Z (Am Z (Al (bk Z) (Al (sT S (aO Z Z)) (Am Z (Ao (ae Z) (Ao (sT S (aO Z Z)) ?_)))))))))
   refine Al (aA Z Z) (Ap (ab (aB Z (av (ab (ah (ao (ah (aj ?_)))))))))
   refine Am Z (Am Z (Al (ax Z Z S) (Al (aG Z) (Al (cY Z S S) (Al (nC Z Z Y Z) (An Z (Ap (ab (ah ?_)))))))))
   refine aj (Al (aC 0 Z Z) ?_)
   refine Al (am (v2) Z ⟨W,Aq⟩) ?_
   refine An Z (Ap (ab (ah (ah (aj (Am Z (Al (aX Z) (Ap (ab ?_)))))))))
   refine ay Z (av (ab (ah (aj (Al (aC 0 Z Z) ?_)))))
   refine Al (am (cp) Z ⟨W,Aq⟩) ?_
   refine aW (T:=32) Z Z Z (fun b12 => ?_)
   refine aL 0 Z Z Z Z (Ap (ab (ah (aj (Al (aC 1 Z Z) (Am Z ?_))))))
   refine Al (am (k1) Z ⟨W,W,Aq⟩) ?_
   refine aW (T:=32) Z Z Z (fun b13 => ?_)
   refine aL 0 Z Z Z Z (Ap (ab (ah (ah (aN 12 aK X Y (Al (aC 2 Z Z) (Al (aC 1 Z Z) ?_)))))))
   refine Al (am (p3 _) Z ⟨W,W,Aq⟩) ?_
   refine Al (aX Z) (Am Z (Ao (aC 2 Z Z) (Ao (ae Z) ?_)))
   refine Ao (am (k1) Z ⟨W,W,Aq⟩) ?_
   refine Ao (aC 0 Z Z) ?_
   refine Ao (am (p3 _) Z ⟨W,W,Aq⟩) ?_
   refine Ao (aX Z) (Al (aw Z Z) (Ap (Ap (ab (ay Z (av (ab (ah (aj ?_)))))))))
   refine Am Z (Am Z (Al (nD Z Z) (Al (cr Z Z (aV S S)) (An Z (Ap (ab (aj (Al (aC 0 Z Z) (aL 2 Z Z Z Z ?_)))))))))
   refine Ap (aD (ab (aj (Am Z (Al (bj _ 1 Z Z S) (An Z (Ap ?_)))))))
   refine aM ((i+1,t+((d.getD i 0).tmod 16).toNat)) (⟨hi8,by show t+((d.getD i 0).tmod 16).toNat≤16*(i+1);omega⟩) S Ah (.drop (.drop (.keep Ak (.keep Ak (.keep Ak (.nil))))))
  ·have k1:=gR R C A (bA A) (t:Nat) S S S hS
   rw [Int.toNat_natCast] at k1
   refine ah (ah (aj (Am Z (Am Z (Al (bk Z) (Al (sT S (aO Z Z)) (Am Z (Ao (ae Z) (Ao (sF S (aO Z Z)) ?_)))))))))
   refine Al (aA Z Z) (Ap (ab (ay Z (a4 (az (az (aI (ab (ah ?_)))))))))
   refine aN 9 aK X Y (Am Z (Am Z (Ao (aC 0 Z Z) (Ao (ak 1 Z Z Z) ?_))))
   refine Ao (am (p1) Z ⟨W,Aq⟩) ?_
   refine Ao (ae Z) ?_
   refine Ao (am (k1) Z ⟨W,W,Aq⟩) ?_
   refine Ao (am (p3 _) Z ⟨W,W,Aq⟩) ?_
   refine Al (aA Z Z) (Ap (An Z (Ap (ab (aH ?_)))))
   refine aJ Tryz.results4 (.tmp Z W)
 ·have k1:=gR R C A (bA A) (t:Nat) S S S hS
  rw [Int.toNat_natCast] at k1
  refine ah (ah (aj (Am Z (Am Z (Al (bk Z) (Al (sF S (aO Z Z)) (Am Z (sn0 Z Z Z Z Z (sn0 Z Z Z Z Z ?_)))))))))
  refine Al (aw Z Z) (Ap (ab (ay Z (a4 (az (az (aI (ab (ah ?_)))))))))
  refine aN 9 aK X Y (Am Z (Am Z (Ao (aC 0 Z Z) (Ao (ak 1 Z Z Z) ?_))))
  refine Ao (am (p1) Z ⟨W,Aq⟩) ?_
  refine Ao (ae Z) ?_
  refine Ao (am (k1) Z ⟨W,W,Aq⟩) ?_
  refine Ao (am (p3 _) Z ⟨W,W,Aq⟩) ?_
  refine Al (aA Z Z) (Ap (An Z (Ap (ab (aH ?_)))))
  refine aJ Tryz.results4 (.tmp Z W)
end Tor
end
section
namespace Tor
open Go Go.RowKit Go.Proofs
theorem qI {p0:Prop} (r c:Nat) (l:List Int) (n:Int) (y0:p0) (y1:(IntKind.min .i8≤n∧n≤IntKind.max .i8)∧True):Ok Tryz.prog 3 [eG r c l,one (.int .i8 n)] (one (.bool true)) :=
 rF r c l n y1.1
theorem ny {p0:Prop} (r c:Nat) (l d:List Int) (y0:p0) (y1:(∀ x∈d,IntKind.min .i8≤x∧x≤IntKind.max .i8)∧True):Ok Tryz.prog 4 [eG r c l,iL .i8 d] (one (.bool true)) :=
 pr r c l d (fun x hx=>y1.1 x hx)
end Tor
end
section
set_option maxRecDepth 100000
namespace Tor
open Go Go.RowKit Go.ChangeShapes Go.WideShapes Go.ChangeAt Go.Joins Go.Proofs
theorem rH {Ae:Type} {enc:TypeId × Value→Ae} {Af:World} {base:Nat} {v:Value} {d:DataW Ae} {ps:List MemPlace} (hval:Value.okWide Tryz.prog Af .any base 24 v) (hT:DataW.Trod enc Tryz.prog Af 0 (fun _=>true) true 24 v d ps) (hw : ∀ x∈DataW.weights Tryz.prog 24 d,x≤reachBytes) :
  ∃ (r:Nat) (c:Nat) (l:List Int),(eG r c l).p v (cy Af)∧(r:Int)≤IntKind.max .u8∧(c:Int)≤IntKind.max .u8∧(∀ x∈l,IntKind.min .i8≤x∧x≤IntKind.max .i8)∧True:=by
 obtain ⟨cs,rfl,h⟩:=oz 8 (ts := [5,5,22]) X (.inl ⟨_,Tryz.underlying24⟩) hval hT hw
 obtain ⟨c0,r0,rfl,h0,g0⟩:=h
 obtain ⟨c1,r1,rfl,h1,g1⟩:=g0
 obtain ⟨c2,r2,rfl,h2,g2⟩:=g1
 cases g2
 obtain ⟨r,rfl,b0⟩:=fO Tryz.underlying5 Z h0
 obtain ⟨c,rfl,b1⟩:=fO Tryz.underlying5 Z h1
 obtain ⟨l,k2,b2⟩:=ld Tryz.underlying22 Tryz.underlying25 X (of_decide_eq_true X) h2
 exact ⟨r,c,l,un (φs := [one (.int .u8 r),one (.int .u8 c),iL .i8 l]) ⟨rfl,rfl,⟨rfl,rfl,⟨k2,rY k2,Aq⟩⟩⟩,b0,b1,b2,Aq⟩
theorem yj {Ae:Type} {enc:TypeId × Value→Ae} {Af:World} {base:Nat} {v:Value} {d:DataW Ae} {ps:List MemPlace} (hval:Value.okWide Tryz.prog Af .any base 22 v) (hT:DataW.Trod enc Tryz.prog Af 0 (fun _=>true) true 22 v d ps) (hw : ∀ x∈DataW.weights Tryz.prog 22 d,x≤reachBytes) :
  ∃ (d:List Int),(iL .i8 d).p v (cy Af)∧(∀ x∈d,IntKind.min .i8≤x∧x≤IntKind.max .i8)∧True:=by
 have h:=mu (.inr (.inr ⟨_,Tryz.underlying22⟩)) hval hT hw
 obtain ⟨d,k0,b0⟩:=ld Tryz.underlying22 Tryz.underlying25 X (of_decide_eq_true X) h
 exact ⟨d,k0,b0,Aq⟩
theorem yk {Ae:Type} {enc:TypeId × Value→Ae} {Af:World} {base:Nat} {v:Value} {d:DataW Ae} {ps:List MemPlace} (hval:Value.okWide Tryz.prog Af .any base 25 v) (hT:DataW.Trod enc Tryz.prog Af 0 (fun _=>true) true 25 v d ps) (hw : ∀ x∈DataW.weights Tryz.prog 25 d,x≤reachBytes) :
  ∃ (n:Int),(one (.int .i8 n)).p v (cy Af)∧(IntKind.min .i8≤n∧n≤IntKind.max .i8)∧True:=by
 have h:=mu (.inl ⟨_,Tryz.underlying25⟩) hval hT hw
 obtain ⟨n,rfl,b0⟩:=ks Tryz.underlying25 h
 exact ⟨n,rfl,b0,Aq⟩
end Tor
namespace Go.Proofs.YtamglpeiacmooaaGreat
open Go.ChangeShapes Go.WideShapes Go.ChangeAt Go.RowKit Go.Joins Tor
theorem stepMatchesReference_own:ownKnob Tryz.prog.godebug=none:=by kernel_rfl
theorem stepMatchesReference_laid:laidOutB Tryz.prog=true:=by kernel_rfl
set_option maxRecDepth 100000 in
theorem stepMatchesReference_lifted (os:Os) (started:os.Started) (Ae:Type) (enc:TypeId × Value→Ae) :
  ReturnsInHanded {} Tryz.checked os 3 .any (Rows.stepMatchesReferenceSpec.pre6 enc Tryz.prog Tryz.f3 Rows.stepMatchesReferenceRow.domain false) (Rows.stepMatchesReferenceSpec.post enc Tryz.prog Tryz.f3 false true false false):=by
 refine returnsInHanded_of_change_sized (C:=Tryz.checked) stepMatchesReference_own started X Tryz.func3
  (ChangeSpec.witness6 (enc:=enc) (C:=Tryz.checked) false ⟨#[], #[.agg #[.int .u8 0, .int .u8 0, .slice none 0 0], .int .i8 0], []⟩ 8 X X X X) ?_
 intro Af base args ds gs before hval0 hW hcnd hsz0 _
 have hval : ∀ (j:Nat) t v,Tryz.f3.params[j]? = some t→args[j]? = some v→Value.okWide Tryz.prog Af .any base t v:=hval0
 have hsz:(DataW.weightsEach Tryz.prog (Tryz.f3.params.toList ++ Rows.stepMatchesReferenceSpec.plain.varTypes Tryz.prog) (ds ++ gs)).all (· ≤ reachBytes)=true:=hsz0
 have hW':=hW
 obtain ⟨p,q,hA0,hV,rfl,hfz,hnd⟩:=hW
 have hA:DataW.TrodAll enc Tryz.prog Af 0 (fun _=>true) true Tryz.f3.params.toList args.toList ds p:=hA0
 rw [Tryz.params3] at hA hval hsz
 obtain ⟨v0,v1,d0,d1,p0,p1,rfl,rfl,rfl,h0,h1⟩:=trodAll_two hA
 obtain ⟨rfl,rfl⟩:=trodVars_none hV
 obtain ⟨r_0,c_0,l_0,x0,y0⟩:=rH (hval 0 24 _ Z Z) h0 (ec hsz 0 Z Z)
 obtain ⟨n_1,x1,y1⟩:=yk (hval 1 25 _ Z Z) h1 (ec hsz 1 Z Z)
 refine (Ok.outside (Af:=Af) (args := #[v0,v1]) (qI r_0 c_0 l_0 n_1 y0 y1) (And.intro x0 (And.intro x1 (trivial)))).mono fun e W' ⟨v,he,hv,hw⟩ => ?_
 subst he
 have hv:v = .bool true:=hv
 subst hv
 refine ⟨_,rfl,_, [],_, [],_, [],hW',trodAll_mk1 (shut_bool Tryz.underlying4 true),trodAll_mk2
  (Below.trod stepMatchesReference_laid X (of_decide_eq_true X) h0 hw (fun x hx=>by simpa using hW'.lt x (by simp only [List.mem_append] at hx ⊢; simp [hx])))
  (Below.trod stepMatchesReference_laid X (of_decide_eq_true X) h1 hw (fun x hx=>by simpa using hW'.lt x (by simp only [List.mem_append] at hx ⊢; simp [hx]))),rfl,hw.frame _,fun h=>by cases h⟩
theorem stepMatchesReference_holds:Rows.StepMatchesReferenceSaid :=
 OpenClaim.holds_of_wide 3 Tryz.f3 Z Z Z Z Z Z Z ⟨rfl,rfl,rfl,rfl,rfl⟩ Z Z Z Z Z X Tryz.func3 X
  (of_decide_eq_true X) (by unfold Func.isWrapper;first | (rw [if_pos H]; kernel_rfl) | (rw [if_neg H]; exact ⟨rfl,rfl⟩))
  (fun os started Ae enc _=>stepMatchesReference_lifted os started Ae enc)
end Go.Proofs.YtamglpeiacmooaaGreat
namespace Tor
end Tor
namespace Go.Proofs.YtamglpeiacmooaaGreat
open Go.ChangeShapes Go.WideShapes Go.ChangeAt Go.RowKit Go.Joins Tor
theorem stepKeepsInvariant_own:ownKnob Tryz.prog.godebug=none:=by kernel_rfl
theorem stepKeepsInvariant_laid:laidOutB Tryz.prog=true:=by kernel_rfl
set_option maxRecDepth 100000 in
theorem stepKeepsInvariant_lifted (os:Os) (started:os.Started) (Ae:Type) (enc:TypeId × Value→Ae) :
  ReturnsInHanded {} Tryz.checked os 5 .any (Rows.stepKeepsInvariantSpec.pre6 enc Tryz.prog Tryz.f5 Rows.stepKeepsInvariantRow.domain false) (Rows.stepKeepsInvariantSpec.post enc Tryz.prog Tryz.f5 false true false false):=by
 refine returnsInHanded_of_change_sized (C:=Tryz.checked) stepKeepsInvariant_own started X Tryz.func5
  (ChangeSpec.witness6 (enc:=enc) (C:=Tryz.checked) false ⟨#[], #[.agg #[.int .u8 0, .int .u8 0, .slice none 0 0]], []⟩ 8 X X X X) ?_
 intro Af base args ds gs before hval0 hW hcnd hsz0 _
 have hval : ∀ (j:Nat) t v,Tryz.f5.params[j]? = some t→args[j]? = some v→Value.okWide Tryz.prog Af .any base t v:=hval0
 have hsz:(DataW.weightsEach Tryz.prog (Tryz.f5.params.toList ++ Rows.stepKeepsInvariantSpec.plain.varTypes Tryz.prog) (ds ++ gs)).all (· ≤ reachBytes)=true:=hsz0
 have hW':=hW
 obtain ⟨p,q,hA0,hV,rfl,hfz,hnd⟩:=hW
 have hA:DataW.TrodAll enc Tryz.prog Af 0 (fun _=>true) true Tryz.f5.params.toList args.toList ds p:=hA0
 rw [Tryz.params5] at hA hval hsz
 obtain ⟨v0,d0,rfl,rfl,h0⟩:=trodAll_one hA
 obtain ⟨rfl,rfl⟩:=trodVars_none hV
 obtain ⟨r_0,c_0,l_0,x0,y0⟩:=rH (hval 0 24 _ Z Z) h0 (ec hsz 0 Z Z)
 refine (Ok.outside (Af:=Af) (args := #[v0]) (rG r_0 c_0 l_0) (And.intro x0 (trivial))).mono fun e W' ⟨v,he,hv,hw⟩ => ?_
 subst he
 have hv:v = .bool true:=hv
 subst hv
 refine ⟨_,rfl,_, [],_, [],_, [],hW',trodAll_mk1 (shut_bool Tryz.underlying4 true),trodAll_mk1
  (Below.trod stepKeepsInvariant_laid X (of_decide_eq_true X) h0 hw (fun x hx=>by simpa using hW'.lt x (by simp only [List.mem_append] at hx ⊢; simp [hx]))),rfl,hw.frame _,fun h=>by cases h⟩
theorem stepKeepsInvariant_holds:Rows.StepKeepsInvariantSaid :=
 OpenClaim.holds_of_wide 5 Tryz.f5 Z Z Z Z Z Z Z ⟨rfl,rfl,rfl,rfl,rfl⟩ Z Z Z Z Z X Tryz.func5 X
  (of_decide_eq_true X) (by unfold Func.isWrapper;first | (rw [if_pos H]; kernel_rfl) | (rw [if_neg H]; exact ⟨rfl,rfl⟩))
  (fun os started Ae enc _=>stepKeepsInvariant_lifted os started Ae enc)
end Go.Proofs.YtamglpeiacmooaaGreat
namespace Tor
end Tor
namespace Go.Proofs.YtamglpeiacmooaaGreat
open Go.ChangeShapes Go.WideShapes Go.ChangeAt Go.RowKit Go.Joins Tor
theorem stepResumes_own:ownKnob Tryz.prog.godebug=none:=by kernel_rfl
theorem stepResumes_laid:laidOutB Tryz.prog=true:=by kernel_rfl
set_option maxRecDepth 100000 in
theorem stepResumes_lifted (os:Os) (started:os.Started) (Ae:Type) (enc:TypeId × Value→Ae) :
  ReturnsInHanded {} Tryz.checked os 4 .any (Rows.stepResumesSpec.pre6 enc Tryz.prog Tryz.f4 Rows.stepResumesRow.domain false) (Rows.stepResumesSpec.post enc Tryz.prog Tryz.f4 false true false false):=by
 refine returnsInHanded_of_change_sized (C:=Tryz.checked) stepResumes_own started X Tryz.func4
  (ChangeSpec.witness6 (enc:=enc) (C:=Tryz.checked) false ⟨#[], #[.agg #[.int .u8 0, .int .u8 0, .slice none 0 0], .slice none 0 0], []⟩ 8 X X X X) ?_
 intro Af base args ds gs before hval0 hW hcnd hsz0 _
 have hval : ∀ (j:Nat) t v,Tryz.f4.params[j]? = some t→args[j]? = some v→Value.okWide Tryz.prog Af .any base t v:=hval0
 have hsz:(DataW.weightsEach Tryz.prog (Tryz.f4.params.toList ++ Rows.stepResumesSpec.plain.varTypes Tryz.prog) (ds ++ gs)).all (· ≤ reachBytes)=true:=hsz0
 have hW':=hW
 obtain ⟨p,q,hA0,hV,rfl,hfz,hnd⟩:=hW
 have hA:DataW.TrodAll enc Tryz.prog Af 0 (fun _=>true) true Tryz.f4.params.toList args.toList ds p:=hA0
 rw [Tryz.params4] at hA hval hsz
 obtain ⟨v0,v1,d0,d1,p0,p1,rfl,rfl,rfl,h0,h1⟩:=trodAll_two hA
 obtain ⟨rfl,rfl⟩:=trodVars_none hV
 obtain ⟨r_0,c_0,l_0,x0,y0⟩:=rH (hval 0 24 _ Z Z) h0 (ec hsz 0 Z Z)
 obtain ⟨d_1,x1,y1⟩:=yj (hval 1 22 _ Z Z) h1 (ec hsz 1 Z Z)
 refine (Ok.outside (Af:=Af) (args := #[v0,v1]) (ny r_0 c_0 l_0 d_1 y0 y1) (And.intro x0 (And.intro x1 (trivial)))).mono fun e W' ⟨v,he,hv,hw⟩ => ?_
 subst he
 have hv:v = .bool true:=hv
 subst hv
 refine ⟨_,rfl,_, [],_, [],_, [],hW',trodAll_mk1 (shut_bool Tryz.underlying4 true),trodAll_mk2
  (Below.trod stepResumes_laid X (of_decide_eq_true X) h0 hw (fun x hx=>by simpa using hW'.lt x (by simp only [List.mem_append] at hx ⊢; simp [hx])))
  (Below.trod stepResumes_laid X (of_decide_eq_true X) h1 hw (fun x hx=>by simpa using hW'.lt x (by simp only [List.mem_append] at hx ⊢; simp [hx]))),rfl,hw.frame _,fun h=>by cases h⟩
theorem stepResumes_holds:Rows.StepResumesSaid :=
 OpenClaim.holds_of_wide 4 Tryz.f4 Z Z Z Z Z Z Z ⟨rfl,rfl,rfl,rfl,rfl⟩ Z Z Z Z Z X Tryz.func4 X
  (of_decide_eq_true X) (by unfold Func.isWrapper;first | (rw [if_pos H]; kernel_rfl) | (rw [if_neg H]; exact ⟨rfl,rfl⟩))
  (fun os started Ae enc _=>stepResumes_lifted os started Ae enc)
end Go.Proofs.YtamglpeiacmooaaGreat
namespace Tor
end Tor
end
section
namespace Tor
open Go Go.RowKit Go.Proofs
def wU (w i j:Nat) (k:Int):VT:=bJ 4 [(0, .one,one (.int .u8 w)),(1, .one,one (.int .u8 i)),(2, .one,one (.int .u8 j)),(3, .one,one (.int .i8 k))]
theorem qJ {x K:Int} {k:Nat} (h:(aP x.natAbs).length≤k) (hK:K.natAbs≤128) (hk:1≤k):(aP (x+K).natAbs).length≤k+1:=by
 have h1:=wc h
 refine dj ?_
 have h2:4294967296^1≤4294967296^k:=Nat.pow_le_pow_right Y hk
 rw [Nat.pow_one] at h2
 rw [Nat.pow_succ]
 generalize 4294967296^k=B at *
 have:(x+K).natAbs≤x.natAbs+K.natAbs:=Int.natAbs_add_le x K
 omega
def iw (a b:Nat) (k:Int) (F:Nat→Nat→Int):Nat→Nat→Int:=fun i j=>if i=a∧j=b then F i j+k else F i j
theorem fS {a b:Nat} {k:Int} {F:Nat→Nat→Int} (h : ∀ i j,(aP (F i j).natAbs).length≤600000000) (hk:k.natAbs≤128) : ∀ i j,bV (iw a b k F i j):=fun i j=>by
 unfold iw
 split
 ·have:=qJ (h i j) hk Y
  unfold bV;omega
 ·have:=h i j;unfold bV;omega
theorem mb {c a b:Nat} {k:Int} {bs:List Nat} {F:Nat→Nat→Int} : Own.le (ce 55 (.agg 2) c bs (fd (fun i j=>bq (F i j)) a b (bq (F a b+k)))) (aZ c bs (iw a b k F)):=dW fun i j _ _=>by
 unfold fd iw
 by_cases h:i=a∧j=b
 ·obtain ⟨rfl,rfl⟩:=h;rw [if_pos ⟨rfl,rfl⟩,if_pos ⟨rfl,rfl⟩]
 ·rw [if_neg h,if_neg h]
theorem fH {P:Program} {E:Env} {D:List Deferred} {Γ:Ctx} {co:Code} {Q:Exit→Act→World→Prop} {T:TypeId} {b r c:Nat} {sA sM sU sV:S3} {A M U V:Nat→Nat→Int} {row col:Int} {d:VT} (hA:ok3 r sA) (hM:ok3 r sM) (hU:ok3 r sU) (hV:ok3 r sV)
  (h:J P E D Γ [aY b T 15 (ew (be r c A) (be r c M) (be r r U) (be r r V) row col d)] co Q) :
  J P E D Γ [aY b T 15 (ew (bh r c sA) (bh r c sM) (bh r r sU) (bh r r sV) row col d),bn sA.2.1 sA.2.2 r c sA.1,aZ c sA.1 A,bn sM.2.1 sM.2.2 r c sM.1,aZ c sM.1 M,bn sU.2.1 sU.2.2 r r sU.1,aZ r sU.1 U,bn sV.2.1 sV.2.2 r r sV.1,aZ r sV.1 V] co Q:=by
 have hE:=(vO.box (b:=b) (T:=T) (m:=15) (gC (Ms := [bn sA.2.1 sA.2.2 r c sA.1,aZ c sA.1 A,bn sM.2.1 sM.2.2 r c sM.1,aZ c sM.1 M,bn sU.2.1 sU.2.2 r r sU.1,aZ r sU.1 U,bn sV.2.1 sV.2.2 r r sV.1,aZ r sV.1 V]) (row:=row) (col:=col) (d:=d) (cn hA.1 (a8 0 Z) (a8 1 Z)) (cn hM.1 (a8 2 Z) (a8 3 Z)) (cn hU.1 (a8 4 Z) (a8 5 Z)) (cn hV.1 (a8 6 Z) (a8 7 Z))))
 exact qS [bn sA.2.1 sA.2.2 r c sA.1,aZ c sA.1 A,bn sM.2.1 sM.2.2 r c sM.1,aZ c sM.1 M,bn sU.2.1 sU.2.2 r r sU.1,aZ r sU.1 U,bn sV.2.1 sV.2.2 r r sV.1,aZ r sV.1 V] (iR 9 [1,2,3,4,5,6,7,8,0] H Z Z) (.keep hE (EntM.refl _)) (qR.refl _) h
theorem vK {b:Nat} {T:TypeId} {a m v:VT} {row col:Int} {d:VT} : Own.le (aY b T 15 (ew a m (bJ 3 (dy #[Value.int .i64 0,Value.int .i64 0,Value.slice none 0 0] [(0, .one),(1, .one),(2, .one)])) v row col d)) (aY b T 15 (ew a m (be 0 0 fun _ _=>0) v row col d)):=rN fun q hq=>by
 simp only [List.mem_cons,List.not_mem_nil,or_false] at hq
 rcases hq with rfl | rfl | rfl | rfl | rfl | rfl | rfl
 ·exact ⟨_,a8 0 Z,W⟩
 ·exact ⟨_,a8 1 Z,W⟩
 ·exact ⟨_,a8 2 Z,sL Z (a8 0 Z) (a8 1 Z) (a8 2 Z)⟩
 ·exact ⟨_,a8 3 Z,W⟩
 ·exact ⟨_,a8 4 Z,W⟩
 ·exact ⟨_,a8 5 Z,W⟩
 ·exact ⟨_,a8 6 Z,W⟩
theorem xR {P:Program} {E:Env} {D:List Deferred} {Γ:Ctx} {co:Code} {Q:Exit→Act→World→Prop} {T:TypeId} {b r c:Nat} {sA sM sU sV:S3} {A M U V:Nat→Nat→Int} {Ac:VT} {row col:Int} {d:VT} (hA:ok3 r sA) (hM:ok3 r sM) (hV:ok3 r sV)
  (h:J P E D Γ [aY b T 15 (ew (be r c A) (be r c M) Ac (be r r V) row col d)] co Q) :
  J P E D Γ [aY b T 15 (ew (bh r c sA) (bh r c sM) Ac (bh r r sV) row col d),bn sA.2.1 sA.2.2 r c sA.1,aZ c sA.1 A,bn sM.2.1 sM.2.2 r c sM.1,aZ c sM.1 M,bn sU.2.1 sU.2.2 r r sU.1,aZ r sU.1 U,bn sV.2.1 sV.2.2 r r sV.1,aZ r sV.1 V] co Q:=by
 have hE:=(vO.box (b:=b) (T:=T) (m:=15) (gC (Ms := [bn sA.2.1 sA.2.2 r c sA.1,aZ c sA.1 A,bn sM.2.1 sM.2.2 r c sM.1,aZ c sM.1 M,bn sU.2.1 sU.2.2 r r sU.1,aZ r sU.1 U,bn sV.2.1 sV.2.2 r r sV.1,aZ r sV.1 V]) (row:=row) (col:=col) (d:=d) (cn hA.1 (a8 0 Z) (a8 1 Z)) (cn hM.1 (a8 2 Z) (a8 3 Z)) (Ent.refl Ac) (cn hV.1 (a8 6 Z) (a8 7 Z))))
 exact qS [bn sA.2.1 sA.2.2 r c sA.1,aZ c sA.1 A,bn sM.2.1 sM.2.2 r c sM.1,aZ c sM.1 M,bn sU.2.1 sU.2.2 r r sU.1,aZ r sU.1 U,bn sV.2.1 sV.2.2 r r sV.1,aZ r sV.1 V] (iR 9 [1,2,3,4,5,6,7,8,0] H Z Z) (.keep hE (EntM.refl _)) (qR.refl _) h
attribute [local irreducible] J PJ aU one slT cC bJ ci exT cH eP aY bf slV VT.le Ret bW
attribute [local irreducible] ce bq be
set_option maxRecDepth 100000 in
theorem nk (r c:Nat) (l:List Int) (n:Nat) (hn:n≤255) (wt i j:Nat) (k:Int) (hw:wt≤255) (hi:i≤255) (hj:j≤255) (hk : -128≤k∧k≤127):Ok Tryz.prog 7 [eG r c l,one (.int .u8 n),wU wt i j k] (one (.bool true)):=by
 have hr:r % 5≤4:=by omega
 have hc:c % 5≤4:=by omega
 have hm:=jM r c l
 have hall:=kS r c l
 have hb:=nj c l
 unfold eG at hm ⊢
 unfold iL wU
 generalize r % 5=R at *
 generalize c % 5=C at *
 generalize kQ c l=A at *
 have hS : ∀ t,StL R C (bD R C t (bA A)):=fun t=>(hall t).stL hc
 have hmA : ∀ i j,bV (A i j):=fun i j=>(hS 0).m i j
 have hs:=gS
 have p1:=iV R C A S S
 have k1:=od R C A (bA A) ((n % 31:Nat):Int) S S S hS
 rw [Int.toNat_natCast] at k1
 have made0:=(hall 0).modM hc
 have hal:=hall (n % 31)
 have hl:=hS (n % 31)
 have cp:=lJ R C A (bD R C (n % 31) (bA A)).M (bD R C (n % 31) (bA A)).U (bD R C (n % 31) (bA A)).V (bD R C (n % 31) (bA A)).row (bD R C (n % 31) (bA A)).col (cz R C (bD R C (n % 31) (bA A))) S S hmA hl.m hl.u hl.v
 have hrow:=hl.row
 have hcol:=hl.col
 generalize cz R C (bD R C (n % 31) (bA A))=df at *
 generalize bD R C (n % 31) (bA A)=sx at *
 have hA6 : ∀ i j,(aP (A i j).natAbs).length≤600000000:=fun i j=>((made0 i j).1)
 have hM6 : ∀ i j,(aP (sx.M i j).natAbs).length≤600000000:=fun i j=>(hal.modM hc i j).1
 have hU6 : ∀ i j,(aP (sx.U i j).natAbs).length≤600000000:=fun i j=>(hal.modM hc i j).2.1
 have hV6 : ∀ i j,(aP (sx.V i j).natAbs).length≤600000000:=fun i j=>(hal.modM hc i j).2.2
 refine Ok.enter Tryz.func7 Z Tryz.ntmps7 Z (fun w O => ?_)
 refine ah (aj ?_)
 refine aR Z Z (ltN Z) (fun b3 => ?_)
 refine aR Z Z (ltN Z) (fun b5 => ?_)
 refine An Z (Ap (ab (ah (aj (Al (am (hs) Z trivial) (An Z (Ap (ab (ah ?_)))))))))
 refine aj (Al (aC 1 Z Z) ?_)
 refine Al (am (hm) Z ⟨W,Aq⟩) ?_
 refine aW (T:=29) Z Z Z (fun b8 => ?_)
 refine ia 0 Z Z Z Z (Ap (ab (ah (aj (Al (ak 0 Z Z Z) ?_)))))
 refine Al (am (p1) Z ⟨W,Aq⟩) ?_
 refine Am Z (Al (cP 31 Z Z Z Y) (Al (cY Z S S) ?_))
 refine Al (am (k1) Z ⟨W,W,Aq⟩) ?_
 refine eO (cp) Z ⟨W,Aq⟩ Z Z (fun s23 => ?_)
 refine aW (T:=32) Z Z Z (fun b9 => ?_)
 refine aL 0 Z Z Z Z (Ap (ab (ah (aj (Al (aa Z) (Al (ak 0 Z Z Z) (Al (aa Z) (Al (ak 0 Z Z Z) (Al (aa Z) ?_)))))))))
 refine Al (ak 0 Z Z Z) (Al (aa Z) (Al (ak 0 Z Z Z) (stS Z Z Z Z (PartsK.cons Z (PartsK.cons Z (PartsK.cons Z (PartsK.cons Z (PartsK.nil (An Z ?_)))))))))
 refine Ap (ab (ah (ah ?_)))
 obtain ⟨sA,sM,sU,sV⟩:=s23
 dsimp only
 refine eh (i:=1) (F:=ok3 R sA) Z (fun g h hp=>hp) (fun hA => ?_)
 refine eh (i:=4) (F:=ok3 R sM) Z (fun g h hp=>hp) (fun hM => ?_)
 refine eh (i:=7) (F:=ok3 R sU) Z (fun g h hp=>hp) (fun hU => ?_)
 refine eh (i:=10) (F:=ok3 R sV) Z (fun g h hp=>hp) (fun hV => ?_)
 refine bL (Γ' := [(10,_),(9,_),(7,_),(5,_)]) (M' := [_,_,_,_,_,_,_,_,_,_,_,_]) Aj (.keep Ak (.drop (.keep Ak (.keep Ak (.drop (.keep Ak (.keep Ak (.drop (.keep Ak (.keep Ak (.drop (SubM.refl _)))))))))))) ?_
 have hk128:k.natAbs≤128:=by omega
 have hks:cg k:=uO (n:=128) hk128 H
 rcases (show wt % 8=4∨wt % 8=5∨wt % 8=6∨wt % 8=7∨wt % 8=0∨wt % 8=1∨wt % 8=2∨wt % 8=3 by omega) with h8 | h8 | h8 | h8 | h8 | h8 | h8 | h8
 ·refine aj (Al (aa Z) (Al (ak 10 Z Z Z) (Al (cP 8 Z Z Z Y) (Ap (ab (ao (ah (aj (Al (sT S (bI Z Z)) ?_)))))))))
  refine An Z (Ap (ab (aB Z (aj (Al (aa Z) (Al (ak 0 Z Z Z) (Al (aa Z) (Al (ak 10 Z Z Z) (Al (cY Z S S) ?_)))))))))
  refine Al (cr Z Z (aV S S)) (Al (aa Z) (aF 0 Z Z Z Z Z (leN Z) Z (Ap (aD (ab (ah ?_))))))
  refine bL (Γ' := [(9,one (.pointer (some ⟨b9,0,none⟩))),(7,one (.bool true))]) (M' := [aY b9 32 15 (ew (bh R C sA) (bh R C sM) (bh R R sU) (bh R R sV) ((sx.row:Int)+k) (sx.col:Int) (one (.bool df))),bn sA.2.1 sA.2.2 R C sA.1,aZ C sA.1 A,bn sM.2.1 sM.2.2 R C sM.1,aZ C sM.1 sx.M,bn sU.2.1 sU.2.2 R R sU.1,aZ R sU.1 sx.U,bn sV.2.1 sV.2.2 R R sV.1,aZ R sV.1 sx.V]) Aj (.keep Ak (.keep Ak (.keep Ak (.keep Ak (.keep Ak (.keep Ak (.keep Ak (.keep Ak (.keep Ak (SubM.nilR _)))))))))) ?_
  refine fH hA hM hU hV ?_
  have v1:=dh R C R C R R R R A sx.M sx.U sx.V ((sx.row:Int)+k) (sx.col:Int) df S S hmA hl.m hl.u hl.v
  have v2:=dg R C R C R R R R A sx.M sx.U sx.V ((sx.row:Int)+k) (sx.col:Int) df S ⟨by omega,by omega,by omega⟩ S hmA hl.m hl.u hl.v
  generalize g8 R C R C R R R R A sx.M sx.U sx.V ((sx.row:Int)+k) (sx.col:Int) df=vb at v1 v2
  refine aN 8 aK X Y (Am Z (Am Z (Ao (aC 0 Z Z) ?_)))
  refine Ao (am (v1) Z ⟨W,Aq⟩) ?_
  refine Ao (aC 0 Z Z) ?_
  refine Ao (am (v2) Z ⟨W,Aq⟩) ?_
  refine Ao (sBt (beq_self_eq_true _) (ff Z Z)) (Al (aA Z Z) (Ap (An Z (Ap (ab (aH ?_))))))
  refine aJ Tryz.results7 (.tmp Z W)
 ·refine aj (Al (aa Z) (Al (ak 10 Z Z Z) (Al (cP 8 Z Z Z Y) (Ap (ab (ao (ah (aj (Al (sF S (bI Z Z)) ?_)))))))))
  refine An Z (Ap (ab (ay Z (ah (aj (Al (sT S (bI Z Z)) (An Z (Ap (ab ?_)))))))))
  refine aB Z (aj (Al (aa Z) (Al (ak 0 Z Z Z) (Al (aa Z) (Al (ak 10 Z Z Z) (Al (cY Z S S) (Al (cr Z Z (aV S S)) (Al (aa Z) (aF 0 Z Z Z Z Z (leN Z) Z ?_)))))))))
  refine Ap (aD (ab (ah ?_)))
  refine bL (Γ' := [(9,one (.pointer (some ⟨b9,0,none⟩))),(7,one (.bool true))]) (M' := [aY b9 32 15 (ew (bh R C sA) (bh R C sM) (bh R R sU) (bh R R sV) (sx.row:Int) ((sx.col:Int)+k) (one (.bool df))),bn sA.2.1 sA.2.2 R C sA.1,aZ C sA.1 A,bn sM.2.1 sM.2.2 R C sM.1,aZ C sM.1 sx.M,bn sU.2.1 sU.2.2 R R sU.1,aZ R sU.1 sx.U,bn sV.2.1 sV.2.2 R R sV.1,aZ R sV.1 sx.V]) Aj (.keep Ak (.keep Ak (.keep Ak (.keep Ak (.keep Ak (.keep Ak (.keep Ak (.keep Ak (.keep Ak (SubM.nilR _)))))))))) ?_
  refine fH hA hM hU hV ?_
  have v1:=dh R C R C R R R R A sx.M sx.U sx.V (sx.row:Int) ((sx.col:Int)+k) df S S hmA hl.m hl.u hl.v
  have v2:=dg R C R C R R R R A sx.M sx.U sx.V (sx.row:Int) ((sx.col:Int)+k) df S ⟨by omega,by omega,by omega⟩ S hmA hl.m hl.u hl.v
  generalize g8 R C R C R R R R A sx.M sx.U sx.V (sx.row:Int) ((sx.col:Int)+k) df=vb at v1 v2
  refine aN 8 aK X Y (Am Z (Am Z (Ao (aC 0 Z Z) ?_)))
  refine Ao (am (v1) Z ⟨W,Aq⟩) ?_
  refine Ao (aC 0 Z Z) ?_
  refine Ao (am (v2) Z ⟨W,Aq⟩) ?_
  refine Ao (sBt (beq_self_eq_true _) (ff Z Z)) (Al (aA Z Z) (Ap (An Z (Ap (ab (aH ?_))))))
  refine aJ Tryz.results7 (.tmp Z W)
 ·refine aj (Al (aa Z) (Al (ak 10 Z Z Z) (Al (cP 8 Z Z Z Y) (Ap (ab (ao (ah (aj (Al (sF S (bI Z Z)) ?_)))))))))
  refine An Z (Ap (ab (ay Z (ah (aj (Al (sF S (bI Z Z)) (An Z (Ap (ab ?_)))))))))
  refine ay Z (ah (aj (Al (sT S (bI Z Z)) (An Z (Ap (ab (aB Z (aj (Al (aa Z) ?_)))))))))
  refine Al (ak 0 Z Z Z) (Al (aX Z) (Al (aa Z) (aF 0 Z Z Z Z Z (leN Z) Z (Ap (aD (ab (ah ?_)))))))
  refine bL (Γ' := [(9,one (.pointer (some ⟨b9,0,none⟩))),(7,one (.bool true))]) (M' := [aY b9 32 15 (ew (bh R C sA) (bh R C sM) (bh R R sU) (bh R R sV) (sx.row:Int) (sx.col:Int) (one (.bool (!df)))),bn sA.2.1 sA.2.2 R C sA.1,aZ C sA.1 A,bn sM.2.1 sM.2.2 R C sM.1,aZ C sM.1 sx.M,bn sU.2.1 sU.2.2 R R sU.1,aZ R sU.1 sx.U,bn sV.2.1 sV.2.2 R R sV.1,aZ R sV.1 sx.V]) Aj (.keep Ak (.keep Ak (.keep Ak (.keep Ak (.keep Ak (.keep Ak (.keep Ak (.keep Ak (.keep Ak (SubM.nilR _)))))))))) ?_
  refine fH hA hM hU hV ?_
  have v1:=dh R C R C R R R R A sx.M sx.U sx.V (sx.row:Int) (sx.col:Int) (!df) S S hmA hl.m hl.u hl.v
  have v2:=dg R C R C R R R R A sx.M sx.U sx.V (sx.row:Int) (sx.col:Int) (!df) S ⟨by omega,by omega,by omega⟩ S hmA hl.m hl.u hl.v
  generalize g8 R C R C R R R R A sx.M sx.U sx.V (sx.row:Int) (sx.col:Int) (!df)=vb at v1 v2
  refine aN 8 aK X Y (Am Z (Am Z (Ao (aC 0 Z Z) ?_)))
  refine Ao (am (v1) Z ⟨W,Aq⟩) ?_
  refine Ao (aC 0 Z Z) ?_
  refine Ao (am (v2) Z ⟨W,Aq⟩) ?_
  refine Ao (sBt (beq_self_eq_true _) (ff Z Z)) (Al (aA Z Z) (Ap (An Z (Ap (ab (aH ?_))))))
  refine aJ Tryz.results7 (.tmp Z W)
 ·refine aj (Al (aa Z) (Al (ak 10 Z Z Z) (Al (cP 8 Z Z Z Y) (Ap (ab (ao (ah (aj (Al (sF S (bI Z Z)) ?_)))))))))
  refine An Z (Ap (ab (ay Z (ah (aj (Al (sF S (bI Z Z)) (An Z (Ap (ab ?_)))))))))
  refine ay Z (ah (aj (Al (sF S (bI Z Z)) (An Z (Ap (ab (ay Z (ah (aj ?_)))))))))
  refine Al (sT S (bI Z Z)) (An Z (Ap (ab (aB Z (aj (stB Z Z Z (BuildK.nil (Al (aa Z) (aF 0 Z Z Z Z Z (leN Z) Z ?_)))))))))
  refine Ap (aD (ab (ah ?_)))
  refine bL (Γ' := [(9,one (.pointer (some ⟨b9,0,none⟩))),(7,one (.bool true))]) (M' := [aY b9 32 15 (ew (bh R C sA) (bh R C sM) (be 0 0 fun _ _=>0) (bh R R sV) (sx.row:Int) (sx.col:Int) (one (.bool df))),bn sA.2.1 sA.2.2 R C sA.1,aZ C sA.1 A,bn sM.2.1 sM.2.2 R C sM.1,aZ C sM.1 sx.M,bn sU.2.1 sU.2.2 R R sU.1,aZ R sU.1 sx.U,bn sV.2.1 sV.2.2 R R sV.1,aZ R sV.1 sx.V]) Aj (.keep (vK) (.keep Ak (.keep Ak (.keep Ak (.keep Ak (.keep Ak (.keep Ak (.keep Ak (.keep Ak (SubM.nilR _)))))))))) ?_
  refine xR (sU:=sU) (U:=sx.U) hA hM hV ?_
  have v1:=dh R C R C 0 0 R R A sx.M (fun _ _=>0) sx.V (sx.row:Int) (sx.col:Int) df S S hmA hl.m (fun _ _=>Nat.zero_le _) hl.v
  have v2:=dg R C R C 0 0 R R A sx.M (fun _ _=>0) sx.V (sx.row:Int) (sx.col:Int) df S ⟨by omega,by omega,by omega⟩ S hmA hl.m (fun _ _=>Nat.zero_le _) hl.v
  generalize g8 R C R C 0 0 R R A sx.M (fun _ _=>0) sx.V (sx.row:Int) (sx.col:Int) df=vb at v1 v2
  refine aN 8 aK X Y (Am Z (Am Z (Ao (aC 0 Z Z) ?_)))
  refine Ao (am (v1) Z ⟨W,Aq⟩) ?_
  refine Ao (aC 0 Z Z) ?_
  refine Ao (am (v2) Z ⟨W,Aq⟩) ?_
  refine Ao (sBt (beq_self_eq_true _) (ff Z Z)) (Al (aA Z Z) (Ap (An Z (Ap (ab (aH ?_))))))
  refine aJ Tryz.results7 (.tmp Z W)
 ·by_cases hz:R=0∨C=0
  ·by_cases hR:R=0
   ·refine aj (Al (aa Z) (Al (ak 10 Z Z Z) (Al (cP 8 Z Z Z Y) (Ap (ab (ao (ah (aj (Al (sF S (bI Z Z)) ?_)))))))))
    refine An Z (Ap (ab (ay Z (ah (aj (Al (sF S (bI Z Z)) (An Z (Ap (ab ?_)))))))))
    refine ay Z (ah (aj (Al (sF S (bI Z Z)) (An Z (Ap (ab (ay Z (ah (aj ?_)))))))))
    refine Al (sF S (bI Z Z)) (An Z (Ap (ab (ay Z (ah (aj (Am Z (Al (aa Z) (Al (ak 10 Z Z Z) ?_)))))))))
    refine Al (cP 8 Z Z Z Y) (Al (ax Z Z S) (Al (aG Z) ?_))
    refine aW (T:=29) Z Z Z (fun b11 => ?_)
    refine de (t:=41) (ψ:=bh R C sA) Z (e8 (by rw [h8]; rfl)) (aL 0 Z Z Z Z (Ap (ab (ah (aj (Al (aa Z) (Al (ak 0 Z Z Z) (Al (sF S (cK Z Z)) (Am Z ?_)))))))))
    refine sn0 Z Z Z Z Z (sn0 Z Z Z Z Z (sn0 Z Z Z Z Z (Al (aw Z Z) (Ap (ab (ay Z (av (aD (ab ?_)))))))))
    refine ah ?_
    refine bL (Γ' := [(9,one (.pointer (some ⟨b9,0,none⟩))),(7,one (.bool true))]) (M' := [aY b9 32 15 (ew (bh R C sA) (bh R C sM) (bh R R sU) (bh R R sV) (sx.row:Int) (sx.col:Int) (one (.bool df))),bn sA.2.1 sA.2.2 R C sA.1,aZ C sA.1 A,bn sM.2.1 sM.2.2 R C sM.1,aZ C sM.1 sx.M,bn sU.2.1 sU.2.2 R R sU.1,aZ R sU.1 sx.U,bn sV.2.1 sV.2.2 R R sV.1,aZ R sV.1 sx.V]) Aj (.drop <| .keep Ak (.keep Ak (.keep Ak (.keep Ak (.keep Ak (.keep Ak (.keep Ak (.keep Ak (.keep Ak (SubM.nilR _)))))))))) ?_
    refine fH hA hM hU hV ?_
    have v1:=dh R C R C R R R R A sx.M sx.U sx.V (sx.row:Int) (sx.col:Int) df S S hmA hl.m hl.u hl.v
    have v2:=dg R C R C R R R R A sx.M sx.U sx.V (sx.row:Int) (sx.col:Int) df S ⟨by omega,by omega,by omega⟩ S hmA hl.m hl.u hl.v
    generalize g8 R C R C R R R R A sx.M sx.U sx.V (sx.row:Int) (sx.col:Int) df=vb at v1 v2
    refine aN 8 aK X Y (Am Z (Am Z (Ao (aC 0 Z Z) ?_)))
    refine Ao (am (v1) Z ⟨W,Aq⟩) ?_
    refine Ao (aC 0 Z Z) ?_
    refine Ao (am (v2) Z ⟨W,Aq⟩) ?_
    refine Ao (sBt (beq_self_eq_true _) (ff Z Z)) (Al (aA Z Z) (Ap (An Z (Ap (ab (aH ?_))))))
    refine aJ Tryz.results7 (.tmp Z W)
   ·refine aj (Al (aa Z) (Al (ak 10 Z Z Z) (Al (cP 8 Z Z Z Y) (Ap (ab (ao (ah (aj (Al (sF S (bI Z Z)) ?_)))))))))
    refine An Z (Ap (ab (ay Z (ah (aj (Al (sF S (bI Z Z)) (An Z (Ap (ab ?_)))))))))
    refine ay Z (ah (aj (Al (sF S (bI Z Z)) (An Z (Ap (ab (ay Z (ah (aj ?_)))))))))
    refine Al (sF S (bI Z Z)) (An Z (Ap (ab (ay Z (ah (aj (Am Z (Al (aa Z) (Al (ak 10 Z Z Z) ?_)))))))))
    refine Al (cP 8 Z Z Z Y) (Al (ax Z Z S) (Al (aG Z) ?_))
    refine aW (T:=29) Z Z Z (fun b11 => ?_)
    refine de (t:=41) (ψ:=bh R C sA) Z (e8 (by rw [h8]; rfl)) (aL 0 Z Z Z Z (Ap (ab (ah (aj (Al (aa Z) (Al (ak 0 Z Z Z) (Al (sT S (cK Z Z)) (Am Z ?_)))))))))
    refine Ao (aa Z) (Ao (ak 0 Z Z Z) (Ao (sF S (cK Z Z)) (Al (aA Z Z) (Ap (ab (ay Z (av (aD (ab ?_)))))))))
    refine ah ?_
    refine bL (Γ' := [(9,one (.pointer (some ⟨b9,0,none⟩))),(7,one (.bool true))]) (M' := [aY b9 32 15 (ew (bh R C sA) (bh R C sM) (bh R R sU) (bh R R sV) (sx.row:Int) (sx.col:Int) (one (.bool df))),bn sA.2.1 sA.2.2 R C sA.1,aZ C sA.1 A,bn sM.2.1 sM.2.2 R C sM.1,aZ C sM.1 sx.M,bn sU.2.1 sU.2.2 R R sU.1,aZ R sU.1 sx.U,bn sV.2.1 sV.2.2 R R sV.1,aZ R sV.1 sx.V]) Aj (.drop <| .keep Ak (.keep Ak (.keep Ak (.keep Ak (.keep Ak (.keep Ak (.keep Ak (.keep Ak (.keep Ak (SubM.nilR _)))))))))) ?_
    refine fH hA hM hU hV ?_
    have v1:=dh R C R C R R R R A sx.M sx.U sx.V (sx.row:Int) (sx.col:Int) df S S hmA hl.m hl.u hl.v
    have v2:=dg R C R C R R R R A sx.M sx.U sx.V (sx.row:Int) (sx.col:Int) df S ⟨by omega,by omega,by omega⟩ S hmA hl.m hl.u hl.v
    generalize g8 R C R C R R R R A sx.M sx.U sx.V (sx.row:Int) (sx.col:Int) df=vb at v1 v2
    refine aN 8 aK X Y (Am Z (Am Z (Ao (aC 0 Z Z) ?_)))
    refine Ao (am (v1) Z ⟨W,Aq⟩) ?_
    refine Ao (aC 0 Z Z) ?_
    refine Ao (am (v2) Z ⟨W,Aq⟩) ?_
    refine Ao (sBt (beq_self_eq_true _) (ff Z Z)) (Al (aA Z Z) (Ap (An Z (Ap (ab (aH ?_))))))
    refine aJ Tryz.results7 (.tmp Z W)
  ·have hR0:0<R:=by omega
   have hC0:0<C:=by omega
   have hi1:i % R<R:=Nat.mod_lt _ hR0
   have hj1:j % C<C:=Nat.mod_lt _ hC0
   obtain ⟨bs,bo,cap,rfl,hbl⟩:=hA.some S
   dsimp only at hbl ⊢
   refine aj (Al (aa Z) (Al (ak 10 Z Z Z) (Al (cP 8 Z Z Z Y) (Ap (ab (ao (ah (aj (Al (sF S (bI Z Z)) ?_)))))))))
   refine An Z (Ap (ab (ay Z (ah (aj (Al (sF S (bI Z Z)) (An Z (Ap (ab ?_)))))))))
   refine ay Z (ah (aj (Al (sF S (bI Z Z)) (An Z (Ap (ab (ay Z (ah (aj ?_)))))))))
   refine Al (sF S (bI Z Z)) (An Z (Ap (ab (ay Z (ah (aj (Am Z (Al (aa Z) (Al (ak 10 Z Z Z) ?_)))))))))
   refine Al (cP 8 Z Z Z Y) (Al (ax Z Z S) (Al (aG Z) ?_))
   refine aW (T:=29) Z Z Z (fun b11 => ?_)
   refine de (t:=41) (ψ:=bJ 3 [(0, .one,one (.int .i64 R)),(1, .one,one (.int .i64 C)),(2, .one,one (slV (some bo) R cap))]) Z (e8 (by rw [h8]; rfl)) (aL 0 Z Z Z Z (Ap (ab (ah (aj (Al (aa Z) (Al (ak 0 Z Z Z) (Al (sT S (cK Z Z)) (Am Z ?_)))))))))
   refine Ao (aa Z) (Ao (ak 0 Z Z Z) (Ao (sT S (cK Z Z)) (Al (aA Z Z) (Ap (ab (aB Z (ah (aj (Al (aa Z) ?_)))))))))
   refine Al (ak 11 Z Z Z) (Al (cY Z S S) (Al (aa Z) (Al (ak 0 Z Z Z) (Al (cP _ Z Z Z S) (An Z (Ap (ab (ah (aj ?_)))))))))
   refine Al (aa Z) (Al (ak 11 Z Z Z) (Al (cY Z S S) (Al (aa Z) (Al (ak 0 Z Z Z) (Al (cP _ Z Z Z S) (An Z (Ap (ab (aN 19 aK X Y ?_)))))))))
   refine Al (aa Z) (Al (ak 0 Z Z Z) (Am Z (Al (an Z Z S) (Al (aS 2 Z Z S) (Am Z (Al (aa Z) (Al (ak 0 Z Z Z) (Am Z (Al (an Z Z S) ?_)))))))))
   refine Al (aS 2 Z Z S) (Am Z (Al (an Z Z S) (Al (bF 3 Z Z (bM S) S) (Al (aa Z) (Al (ak 11 Z Z Z) (Al (cY Z S S) ?_))))))
   refine Al (am (gY _ S S) Z ⟨W,Aq⟩) ?_
   refine Al (am (eL _ _ (bv (hmA _ _)) (by assumption)) Z ⟨W,W,Aq⟩) ?_
   refine Ap (Al (an Z Z S) ?_)
   (refine bg 3 Z Z Z (bM ?_) ?_ Z ?_;omega;omega)
   refine Ap (aD (ab (ah ?_)))
   refine bL (Γ' := [(9,one (.pointer (some ⟨b9,0,none⟩))),(7,one (.bool true))]) (M' := [aY b9 32 15 (ew (bh R C (bs,some bo,cap)) (bh R C sM) (bh R R sU) (bh R R sV) (sx.row:Int) (sx.col:Int) (one (.bool df))),bn (some bo) cap R C bs,aZ C bs (iw (i % R) (j % C) k A),bn sM.2.1 sM.2.2 R C sM.1,aZ C sM.1 sx.M,bn sU.2.1 sU.2.2 R R sU.1,aZ R sU.1 sx.U,bn sV.2.1 sV.2.2 R R sV.1,aZ R sV.1 sx.V]) Aj (.drop <| .keep Ak (.keep Ak (.keep (mb) (.keep Ak (.keep Ak (.keep Ak (.keep Ak (.keep Ak (.keep Ak (SubM.nilR _)))))))))) ?_
   refine fH hA hM hU hV ?_
   have v1:=dh R C R C R R R R (iw (i % R) (j % C) k A) sx.M sx.U sx.V (sx.row:Int) (sx.col:Int) df S S (fS hA6 S) hl.m hl.u hl.v
   have v2:=dg R C R C R R R R (iw (i % R) (j % C) k A) sx.M sx.U sx.V (sx.row:Int) (sx.col:Int) df S ⟨by omega,by omega,by omega⟩ S (fS hA6 S) hl.m hl.u hl.v
   generalize g8 R C R C R R R R (iw (i % R) (j % C) k A) sx.M sx.U sx.V (sx.row:Int) (sx.col:Int) df=vb at v1 v2
   refine aN 8 aK X Y (Am Z (Am Z (Ao (aC 0 Z Z) ?_)))
   refine Ao (am (v1) Z ⟨W,Aq⟩) ?_
   refine Ao (aC 0 Z Z) ?_
   refine Ao (am (v2) Z ⟨W,Aq⟩) ?_
   refine Ao (sBt (beq_self_eq_true _) (ff Z Z)) (Al (aA Z Z) (Ap (An Z (Ap (ab (aH ?_))))))
   refine aJ Tryz.results7 (.tmp Z W)
 ·by_cases hz:R=0∨C=0
  ·by_cases hR:R=0
   ·refine aj (Al (aa Z) (Al (ak 10 Z Z Z) (Al (cP 8 Z Z Z Y) (Ap (ab (ao (ah (aj (Al (sF S (bI Z Z)) ?_)))))))))
    refine An Z (Ap (ab (ay Z (ah (aj (Al (sF S (bI Z Z)) (An Z (Ap (ab ?_)))))))))
    refine ay Z (ah (aj (Al (sF S (bI Z Z)) (An Z (Ap (ab (ay Z (ah (aj ?_)))))))))
    refine Al (sF S (bI Z Z)) (An Z (Ap (ab (ay Z (ah (aj (Am Z (Al (aa Z) (Al (ak 10 Z Z Z) ?_)))))))))
    refine Al (cP 8 Z Z Z Y) (Al (ax Z Z S) (Al (aG Z) ?_))
    refine aW (T:=29) Z Z Z (fun b11 => ?_)
    refine de (t:=41) (ψ:=bh R C sM) Z (e8 (by rw [h8]; rfl)) (aL 0 Z Z Z Z (Ap (ab (ah (aj (Al (aa Z) (Al (ak 0 Z Z Z) (Al (sF S (cK Z Z)) (Am Z ?_)))))))))
    refine sn0 Z Z Z Z Z (sn0 Z Z Z Z Z (sn0 Z Z Z Z Z (Al (aw Z Z) (Ap (ab (ay Z (av (aD (ab ?_)))))))))
    refine ah ?_
    refine bL (Γ' := [(9,one (.pointer (some ⟨b9,0,none⟩))),(7,one (.bool true))]) (M' := [aY b9 32 15 (ew (bh R C sA) (bh R C sM) (bh R R sU) (bh R R sV) (sx.row:Int) (sx.col:Int) (one (.bool df))),bn sA.2.1 sA.2.2 R C sA.1,aZ C sA.1 A,bn sM.2.1 sM.2.2 R C sM.1,aZ C sM.1 sx.M,bn sU.2.1 sU.2.2 R R sU.1,aZ R sU.1 sx.U,bn sV.2.1 sV.2.2 R R sV.1,aZ R sV.1 sx.V]) Aj (.drop <| .keep Ak (.keep Ak (.keep Ak (.keep Ak (.keep Ak (.keep Ak (.keep Ak (.keep Ak (.keep Ak (SubM.nilR _)))))))))) ?_
    refine fH hA hM hU hV ?_
    have v1:=dh R C R C R R R R A sx.M sx.U sx.V (sx.row:Int) (sx.col:Int) df S S hmA hl.m hl.u hl.v
    have v2:=dg R C R C R R R R A sx.M sx.U sx.V (sx.row:Int) (sx.col:Int) df S ⟨by omega,by omega,by omega⟩ S hmA hl.m hl.u hl.v
    generalize g8 R C R C R R R R A sx.M sx.U sx.V (sx.row:Int) (sx.col:Int) df=vb at v1 v2
    refine aN 8 aK X Y (Am Z (Am Z (Ao (aC 0 Z Z) ?_)))
    refine Ao (am (v1) Z ⟨W,Aq⟩) ?_
    refine Ao (aC 0 Z Z) ?_
    refine Ao (am (v2) Z ⟨W,Aq⟩) ?_
    refine Ao (sBt (beq_self_eq_true _) (ff Z Z)) (Al (aA Z Z) (Ap (An Z (Ap (ab (aH ?_))))))
    refine aJ Tryz.results7 (.tmp Z W)
   ·refine aj (Al (aa Z) (Al (ak 10 Z Z Z) (Al (cP 8 Z Z Z Y) (Ap (ab (ao (ah (aj (Al (sF S (bI Z Z)) ?_)))))))))
    refine An Z (Ap (ab (ay Z (ah (aj (Al (sF S (bI Z Z)) (An Z (Ap (ab ?_)))))))))
    refine ay Z (ah (aj (Al (sF S (bI Z Z)) (An Z (Ap (ab (ay Z (ah (aj ?_)))))))))
    refine Al (sF S (bI Z Z)) (An Z (Ap (ab (ay Z (ah (aj (Am Z (Al (aa Z) (Al (ak 10 Z Z Z) ?_)))))))))
    refine Al (cP 8 Z Z Z Y) (Al (ax Z Z S) (Al (aG Z) ?_))
    refine aW (T:=29) Z Z Z (fun b11 => ?_)
    refine de (t:=41) (ψ:=bh R C sM) Z (e8 (by rw [h8]; rfl)) (aL 0 Z Z Z Z (Ap (ab (ah (aj (Al (aa Z) (Al (ak 0 Z Z Z) (Al (sT S (cK Z Z)) (Am Z ?_)))))))))
    refine Ao (aa Z) (Ao (ak 0 Z Z Z) (Ao (sF S (cK Z Z)) (Al (aA Z Z) (Ap (ab (ay Z (av (aD (ab ?_)))))))))
    refine ah ?_
    refine bL (Γ' := [(9,one (.pointer (some ⟨b9,0,none⟩))),(7,one (.bool true))]) (M' := [aY b9 32 15 (ew (bh R C sA) (bh R C sM) (bh R R sU) (bh R R sV) (sx.row:Int) (sx.col:Int) (one (.bool df))),bn sA.2.1 sA.2.2 R C sA.1,aZ C sA.1 A,bn sM.2.1 sM.2.2 R C sM.1,aZ C sM.1 sx.M,bn sU.2.1 sU.2.2 R R sU.1,aZ R sU.1 sx.U,bn sV.2.1 sV.2.2 R R sV.1,aZ R sV.1 sx.V]) Aj (.drop <| .keep Ak (.keep Ak (.keep Ak (.keep Ak (.keep Ak (.keep Ak (.keep Ak (.keep Ak (.keep Ak (SubM.nilR _)))))))))) ?_
    refine fH hA hM hU hV ?_
    have v1:=dh R C R C R R R R A sx.M sx.U sx.V (sx.row:Int) (sx.col:Int) df S S hmA hl.m hl.u hl.v
    have v2:=dg R C R C R R R R A sx.M sx.U sx.V (sx.row:Int) (sx.col:Int) df S ⟨by omega,by omega,by omega⟩ S hmA hl.m hl.u hl.v
    generalize g8 R C R C R R R R A sx.M sx.U sx.V (sx.row:Int) (sx.col:Int) df=vb at v1 v2
    refine aN 8 aK X Y (Am Z (Am Z (Ao (aC 0 Z Z) ?_)))
    refine Ao (am (v1) Z ⟨W,Aq⟩) ?_
    refine Ao (aC 0 Z Z) ?_
    refine Ao (am (v2) Z ⟨W,Aq⟩) ?_
    refine Ao (sBt (beq_self_eq_true _) (ff Z Z)) (Al (aA Z Z) (Ap (An Z (Ap (ab (aH ?_))))))
    refine aJ Tryz.results7 (.tmp Z W)
  ·have hR0:0<R:=by omega
   have hC0:0<C:=by omega
   have hi1:i % R<R:=Nat.mod_lt _ hR0
   have hj1:j % C<C:=Nat.mod_lt _ hC0
   obtain ⟨bs,bo,cap,rfl,hbl⟩:=hM.some S
   dsimp only at hbl ⊢
   refine aj (Al (aa Z) (Al (ak 10 Z Z Z) (Al (cP 8 Z Z Z Y) (Ap (ab (ao (ah (aj (Al (sF S (bI Z Z)) ?_)))))))))
   refine An Z (Ap (ab (ay Z (ah (aj (Al (sF S (bI Z Z)) (An Z (Ap (ab ?_)))))))))
   refine ay Z (ah (aj (Al (sF S (bI Z Z)) (An Z (Ap (ab (ay Z (ah (aj ?_)))))))))
   refine Al (sF S (bI Z Z)) (An Z (Ap (ab (ay Z (ah (aj (Am Z (Al (aa Z) (Al (ak 10 Z Z Z) ?_)))))))))
   refine Al (cP 8 Z Z Z Y) (Al (ax Z Z S) (Al (aG Z) ?_))
   refine aW (T:=29) Z Z Z (fun b11 => ?_)
   refine de (t:=41) (ψ:=bJ 3 [(0, .one,one (.int .i64 R)),(1, .one,one (.int .i64 C)),(2, .one,one (slV (some bo) R cap))]) Z (e8 (by rw [h8]; rfl)) (aL 0 Z Z Z Z (Ap (ab (ah (aj (Al (aa Z) (Al (ak 0 Z Z Z) (Al (sT S (cK Z Z)) (Am Z ?_)))))))))
   refine Ao (aa Z) (Ao (ak 0 Z Z Z) (Ao (sT S (cK Z Z)) (Al (aA Z Z) (Ap (ab (aB Z (ah (aj (Al (aa Z) ?_)))))))))
   refine Al (ak 11 Z Z Z) (Al (cY Z S S) (Al (aa Z) (Al (ak 0 Z Z Z) (Al (cP _ Z Z Z S) (An Z (Ap (ab (ah (aj ?_)))))))))
   refine Al (aa Z) (Al (ak 11 Z Z Z) (Al (cY Z S S) (Al (aa Z) (Al (ak 0 Z Z Z) (Al (cP _ Z Z Z S) (An Z (Ap (ab (aN 19 aK X Y ?_)))))))))
   refine Al (aa Z) (Al (ak 0 Z Z Z) (Am Z (Al (an Z Z S) (Al (aS 4 Z Z S) (Am Z (Al (aa Z) (Al (ak 0 Z Z Z) (Am Z (Al (an Z Z S) ?_)))))))))
   refine Al (aS 4 Z Z S) (Am Z (Al (an Z Z S) (Al (bF 5 Z Z (bM S) S) (Al (aa Z) (Al (ak 11 Z Z Z) (Al (cY Z S S) ?_))))))
   refine Al (am (gY _ S S) Z ⟨W,Aq⟩) ?_
   refine Al (am (eL _ _ (bv (hl.m _ _)) (by assumption)) Z ⟨W,W,Aq⟩) ?_
   refine Ap (Al (an Z Z S) ?_)
   (refine bg 5 Z Z Z (bM ?_) ?_ Z ?_;omega;omega)
   refine Ap (aD (ab (ah ?_)))
   refine bL (Γ' := [(9,one (.pointer (some ⟨b9,0,none⟩))),(7,one (.bool true))]) (M' := [aY b9 32 15 (ew (bh R C sA) (bh R C (bs,some bo,cap)) (bh R R sU) (bh R R sV) (sx.row:Int) (sx.col:Int) (one (.bool df))),bn sA.2.1 sA.2.2 R C sA.1,aZ C sA.1 A,bn (some bo) cap R C bs,aZ C bs (iw (i % R) (j % C) k sx.M),bn sU.2.1 sU.2.2 R R sU.1,aZ R sU.1 sx.U,bn sV.2.1 sV.2.2 R R sV.1,aZ R sV.1 sx.V]) Aj (.drop <| .keep Ak (.keep Ak (.keep Ak (.keep Ak (.keep (mb) (.keep Ak (.keep Ak (.keep Ak (.keep Ak (SubM.nilR _)))))))))) ?_
   refine fH hA hM hU hV ?_
   have v1:=dh R C R C R R R R A (iw (i % R) (j % C) k sx.M) sx.U sx.V (sx.row:Int) (sx.col:Int) df S S hmA (fS hM6 S) hl.u hl.v
   have v2:=dg R C R C R R R R A (iw (i % R) (j % C) k sx.M) sx.U sx.V (sx.row:Int) (sx.col:Int) df S ⟨by omega,by omega,by omega⟩ S hmA (fS hM6 S) hl.u hl.v
   generalize g8 R C R C R R R R A (iw (i % R) (j % C) k sx.M) sx.U sx.V (sx.row:Int) (sx.col:Int) df=vb at v1 v2
   refine aN 8 aK X Y (Am Z (Am Z (Ao (aC 0 Z Z) ?_)))
   refine Ao (am (v1) Z ⟨W,Aq⟩) ?_
   refine Ao (aC 0 Z Z) ?_
   refine Ao (am (v2) Z ⟨W,Aq⟩) ?_
   refine Ao (sBt (beq_self_eq_true _) (ff Z Z)) (Al (aA Z Z) (Ap (An Z (Ap (ab (aH ?_))))))
   refine aJ Tryz.results7 (.tmp Z W)
 ·by_cases hz:R=0∨R=0
  ·refine aj (Al (aa Z) (Al (ak 10 Z Z Z) (Al (cP 8 Z Z Z Y) (Ap (ab (ao (ah (aj (Al (sF S (bI Z Z)) ?_)))))))))
   refine An Z (Ap (ab (ay Z (ah (aj (Al (sF S (bI Z Z)) (An Z (Ap (ab ?_)))))))))
   refine ay Z (ah (aj (Al (sF S (bI Z Z)) (An Z (Ap (ab (ay Z (ah (aj ?_)))))))))
   refine Al (sF S (bI Z Z)) (An Z (Ap (ab (ay Z (ah (aj (Am Z (Al (aa Z) (Al (ak 10 Z Z Z) ?_)))))))))
   refine Al (cP 8 Z Z Z Y) (Al (ax Z Z S) (Al (aG Z) ?_))
   refine aW (T:=29) Z Z Z (fun b11 => ?_)
   refine de (t:=41) (ψ:=bh R R sU) Z (e8 (by rw [h8]; rfl)) (aL 0 Z Z Z Z (Ap (ab (ah (aj (Al (aa Z) (Al (ak 0 Z Z Z) (Al (sF S (cK Z Z)) (Am Z ?_)))))))))
   refine sn0 Z Z Z Z Z (sn0 Z Z Z Z Z (sn0 Z Z Z Z Z (Al (aw Z Z) (Ap (ab (ay Z (av (aD (ab ?_)))))))))
   refine ah ?_
   refine bL (Γ' := [(9,one (.pointer (some ⟨b9,0,none⟩))),(7,one (.bool true))]) (M' := [aY b9 32 15 (ew (bh R C sA) (bh R C sM) (bh R R sU) (bh R R sV) (sx.row:Int) (sx.col:Int) (one (.bool df))),bn sA.2.1 sA.2.2 R C sA.1,aZ C sA.1 A,bn sM.2.1 sM.2.2 R C sM.1,aZ C sM.1 sx.M,bn sU.2.1 sU.2.2 R R sU.1,aZ R sU.1 sx.U,bn sV.2.1 sV.2.2 R R sV.1,aZ R sV.1 sx.V]) Aj (.drop <| .keep Ak (.keep Ak (.keep Ak (.keep Ak (.keep Ak (.keep Ak (.keep Ak (.keep Ak (.keep Ak (SubM.nilR _)))))))))) ?_
   refine fH hA hM hU hV ?_
   have v1:=dh R C R C R R R R A sx.M sx.U sx.V (sx.row:Int) (sx.col:Int) df S S hmA hl.m hl.u hl.v
   have v2:=dg R C R C R R R R A sx.M sx.U sx.V (sx.row:Int) (sx.col:Int) df S ⟨by omega,by omega,by omega⟩ S hmA hl.m hl.u hl.v
   generalize g8 R C R C R R R R A sx.M sx.U sx.V (sx.row:Int) (sx.col:Int) df=vb at v1 v2
   refine aN 8 aK X Y (Am Z (Am Z (Ao (aC 0 Z Z) ?_)))
   refine Ao (am (v1) Z ⟨W,Aq⟩) ?_
   refine Ao (aC 0 Z Z) ?_
   refine Ao (am (v2) Z ⟨W,Aq⟩) ?_
   refine Ao (sBt (beq_self_eq_true _) (ff Z Z)) (Al (aA Z Z) (Ap (An Z (Ap (ab (aH ?_))))))
   refine aJ Tryz.results7 (.tmp Z W)
  ·have hR0:0<R:=by omega
   have hC0:0<R:=by omega
   have hi1:i % R<R:=Nat.mod_lt _ hR0
   have hj1:j % R<R:=Nat.mod_lt _ hC0
   obtain ⟨bs,bo,cap,rfl,hbl⟩:=hU.some S
   dsimp only at hbl ⊢
   refine aj (Al (aa Z) (Al (ak 10 Z Z Z) (Al (cP 8 Z Z Z Y) (Ap (ab (ao (ah (aj (Al (sF S (bI Z Z)) ?_)))))))))
   refine An Z (Ap (ab (ay Z (ah (aj (Al (sF S (bI Z Z)) (An Z (Ap (ab ?_)))))))))
   refine ay Z (ah (aj (Al (sF S (bI Z Z)) (An Z (Ap (ab (ay Z (ah (aj ?_)))))))))
   refine Al (sF S (bI Z Z)) (An Z (Ap (ab (ay Z (ah (aj (Am Z (Al (aa Z) (Al (ak 10 Z Z Z) ?_)))))))))
   refine Al (cP 8 Z Z Z Y) (Al (ax Z Z S) (Al (aG Z) ?_))
   refine aW (T:=29) Z Z Z (fun b11 => ?_)
   refine de (t:=41) (ψ:=bJ 3 [(0, .one,one (.int .i64 R)),(1, .one,one (.int .i64 R)),(2, .one,one (slV (some bo) R cap))]) Z (e8 (by rw [h8]; rfl)) (aL 0 Z Z Z Z (Ap (ab (ah (aj (Al (aa Z) (Al (ak 0 Z Z Z) (Al (sT S (cK Z Z)) (Am Z ?_)))))))))
   refine Ao (aa Z) (Ao (ak 0 Z Z Z) (Ao (sT S (cK Z Z)) (Al (aA Z Z) (Ap (ab (aB Z (ah (aj (Al (aa Z) ?_)))))))))
   refine Al (ak 11 Z Z Z) (Al (cY Z S S) (Al (aa Z) (Al (ak 0 Z Z Z) (Al (cP _ Z Z Z S) (An Z (Ap (ab (ah (aj ?_)))))))))
   refine Al (aa Z) (Al (ak 11 Z Z Z) (Al (cY Z S S) (Al (aa Z) (Al (ak 0 Z Z Z) (Al (cP _ Z Z Z S) (An Z (Ap (ab (aN 19 aK X Y ?_)))))))))
   refine Al (aa Z) (Al (ak 0 Z Z Z) (Am Z (Al (an Z Z S) (Al (aS 6 Z Z S) (Am Z (Al (aa Z) (Al (ak 0 Z Z Z) (Am Z (Al (an Z Z S) ?_)))))))))
   refine Al (aS 6 Z Z S) (Am Z (Al (an Z Z S) (Al (bF 7 Z Z (bM S) S) (Al (aa Z) (Al (ak 11 Z Z Z) (Al (cY Z S S) ?_))))))
   refine Al (am (gY _ S S) Z ⟨W,Aq⟩) ?_
   refine Al (am (eL _ _ (bv (hl.u _ _)) (by assumption)) Z ⟨W,W,Aq⟩) ?_
   refine Ap (Al (an Z Z S) ?_)
   (refine bg 7 Z Z Z (bM ?_) ?_ Z ?_;omega;omega)
   refine Ap (aD (ab (ah ?_)))
   refine bL (Γ' := [(9,one (.pointer (some ⟨b9,0,none⟩))),(7,one (.bool true))]) (M' := [aY b9 32 15 (ew (bh R C sA) (bh R C sM) (bh R R (bs,some bo,cap)) (bh R R sV) (sx.row:Int) (sx.col:Int) (one (.bool df))),bn sA.2.1 sA.2.2 R C sA.1,aZ C sA.1 A,bn sM.2.1 sM.2.2 R C sM.1,aZ C sM.1 sx.M,bn (some bo) cap R R bs,aZ R bs (iw (i % R) (j % R) k sx.U),bn sV.2.1 sV.2.2 R R sV.1,aZ R sV.1 sx.V]) Aj (.drop <| .keep Ak (.keep Ak (.keep Ak (.keep Ak (.keep Ak (.keep Ak (.keep (mb) (.keep Ak (.keep Ak (SubM.nilR _)))))))))) ?_
   refine fH hA hM hU hV ?_
   have v1:=dh R C R C R R R R A sx.M (iw (i % R) (j % R) k sx.U) sx.V (sx.row:Int) (sx.col:Int) df S S hmA hl.m (fS hU6 S) hl.v
   have v2:=dg R C R C R R R R A sx.M (iw (i % R) (j % R) k sx.U) sx.V (sx.row:Int) (sx.col:Int) df S ⟨by omega,by omega,by omega⟩ S hmA hl.m (fS hU6 S) hl.v
   generalize g8 R C R C R R R R A sx.M (iw (i % R) (j % R) k sx.U) sx.V (sx.row:Int) (sx.col:Int) df=vb at v1 v2
   refine aN 8 aK X Y (Am Z (Am Z (Ao (aC 0 Z Z) ?_)))
   refine Ao (am (v1) Z ⟨W,Aq⟩) ?_
   refine Ao (aC 0 Z Z) ?_
   refine Ao (am (v2) Z ⟨W,Aq⟩) ?_
   refine Ao (sBt (beq_self_eq_true _) (ff Z Z)) (Al (aA Z Z) (Ap (An Z (Ap (ab (aH ?_))))))
   refine aJ Tryz.results7 (.tmp Z W)
 ·by_cases hz:R=0∨R=0
  ·refine aj (Al (aa Z) (Al (ak 10 Z Z Z) (Al (cP 8 Z Z Z Y) (Ap (ab (ao (ah (aj (Al (sF S (bI Z Z)) ?_)))))))))
   refine An Z (Ap (ab (ay Z (ah (aj (Al (sF S (bI Z Z)) (An Z (Ap (ab ?_)))))))))
   refine ay Z (ah (aj (Al (sF S (bI Z Z)) (An Z (Ap (ab (ay Z (ah (aj ?_)))))))))
   refine Al (sF S (bI Z Z)) (An Z (Ap (ab (ay Z (ah (aj (Am Z (Al (aa Z) (Al (ak 10 Z Z Z) ?_)))))))))
   refine Al (cP 8 Z Z Z Y) (Al (ax Z Z S) (Al (aG Z) ?_))
   refine aW (T:=29) Z Z Z (fun b11 => ?_)
   refine de (t:=41) (ψ:=bh R R sV) Z (e8 (by rw [h8]; rfl)) (aL 0 Z Z Z Z (Ap (ab (ah (aj (Al (aa Z) (Al (ak 0 Z Z Z) (Al (sF S (cK Z Z)) (Am Z ?_)))))))))
   refine sn0 Z Z Z Z Z (sn0 Z Z Z Z Z (sn0 Z Z Z Z Z (Al (aw Z Z) (Ap (ab (ay Z (av (aD (ab ?_)))))))))
   refine ah ?_
   refine bL (Γ' := [(9,one (.pointer (some ⟨b9,0,none⟩))),(7,one (.bool true))]) (M' := [aY b9 32 15 (ew (bh R C sA) (bh R C sM) (bh R R sU) (bh R R sV) (sx.row:Int) (sx.col:Int) (one (.bool df))),bn sA.2.1 sA.2.2 R C sA.1,aZ C sA.1 A,bn sM.2.1 sM.2.2 R C sM.1,aZ C sM.1 sx.M,bn sU.2.1 sU.2.2 R R sU.1,aZ R sU.1 sx.U,bn sV.2.1 sV.2.2 R R sV.1,aZ R sV.1 sx.V]) Aj (.drop <| .keep Ak (.keep Ak (.keep Ak (.keep Ak (.keep Ak (.keep Ak (.keep Ak (.keep Ak (.keep Ak (SubM.nilR _)))))))))) ?_
   refine fH hA hM hU hV ?_
   have v1:=dh R C R C R R R R A sx.M sx.U sx.V (sx.row:Int) (sx.col:Int) df S S hmA hl.m hl.u hl.v
   have v2:=dg R C R C R R R R A sx.M sx.U sx.V (sx.row:Int) (sx.col:Int) df S ⟨by omega,by omega,by omega⟩ S hmA hl.m hl.u hl.v
   generalize g8 R C R C R R R R A sx.M sx.U sx.V (sx.row:Int) (sx.col:Int) df=vb at v1 v2
   refine aN 8 aK X Y (Am Z (Am Z (Ao (aC 0 Z Z) ?_)))
   refine Ao (am (v1) Z ⟨W,Aq⟩) ?_
   refine Ao (aC 0 Z Z) ?_
   refine Ao (am (v2) Z ⟨W,Aq⟩) ?_
   refine Ao (sBt (beq_self_eq_true _) (ff Z Z)) (Al (aA Z Z) (Ap (An Z (Ap (ab (aH ?_))))))
   refine aJ Tryz.results7 (.tmp Z W)
  ·have hR0:0<R:=by omega
   have hC0:0<R:=by omega
   have hi1:i % R<R:=Nat.mod_lt _ hR0
   have hj1:j % R<R:=Nat.mod_lt _ hC0
   obtain ⟨bs,bo,cap,rfl,hbl⟩:=hV.some S
   dsimp only at hbl ⊢
   refine aj (Al (aa Z) (Al (ak 10 Z Z Z) (Al (cP 8 Z Z Z Y) (Ap (ab (ao (ah (aj (Al (sF S (bI Z Z)) ?_)))))))))
   refine An Z (Ap (ab (ay Z (ah (aj (Al (sF S (bI Z Z)) (An Z (Ap (ab ?_)))))))))
   refine ay Z (ah (aj (Al (sF S (bI Z Z)) (An Z (Ap (ab (ay Z (ah (aj ?_)))))))))
   refine Al (sF S (bI Z Z)) (An Z (Ap (ab (ay Z (ah (aj (Am Z (Al (aa Z) (Al (ak 10 Z Z Z) ?_)))))))))
   refine Al (cP 8 Z Z Z Y) (Al (ax Z Z S) (Al (aG Z) ?_))
   refine aW (T:=29) Z Z Z (fun b11 => ?_)
   refine de (t:=41) (ψ:=bJ 3 [(0, .one,one (.int .i64 R)),(1, .one,one (.int .i64 R)),(2, .one,one (slV (some bo) R cap))]) Z (e8 (by rw [h8]; rfl)) (aL 0 Z Z Z Z (Ap (ab (ah (aj (Al (aa Z) (Al (ak 0 Z Z Z) (Al (sT S (cK Z Z)) (Am Z ?_)))))))))
   refine Ao (aa Z) (Ao (ak 0 Z Z Z) (Ao (sT S (cK Z Z)) (Al (aA Z Z) (Ap (ab (aB Z (ah (aj (Al (aa Z) ?_)))))))))
   refine Al (ak 11 Z Z Z) (Al (cY Z S S) (Al (aa Z) (Al (ak 0 Z Z Z) (Al (cP _ Z Z Z S) (An Z (Ap (ab (ah (aj ?_)))))))))
   refine Al (aa Z) (Al (ak 11 Z Z Z) (Al (cY Z S S) (Al (aa Z) (Al (ak 0 Z Z Z) (Al (cP _ Z Z Z S) (An Z (Ap (ab (aN 19 aK X Y ?_)))))))))
   refine Al (aa Z) (Al (ak 0 Z Z Z) (Am Z (Al (an Z Z S) (Al (aS 8 Z Z S) (Am Z (Al (aa Z) (Al (ak 0 Z Z Z) (Am Z (Al (an Z Z S) ?_)))))))))
   refine Al (aS 8 Z Z S) (Am Z (Al (an Z Z S) (Al (bF 9 Z Z (bM S) S) (Al (aa Z) (Al (ak 11 Z Z Z) (Al (cY Z S S) ?_))))))
   refine Al (am (gY _ S S) Z ⟨W,Aq⟩) ?_
   refine Al (am (eL _ _ (bv (hl.v _ _)) (by assumption)) Z ⟨W,W,Aq⟩) ?_
   refine Ap (Al (an Z Z S) ?_)
   (refine bg 9 Z Z Z (bM ?_) ?_ Z ?_;omega;omega)
   refine Ap (aD (ab (ah ?_)))
   refine bL (Γ' := [(9,one (.pointer (some ⟨b9,0,none⟩))),(7,one (.bool true))]) (M' := [aY b9 32 15 (ew (bh R C sA) (bh R C sM) (bh R R sU) (bh R R (bs,some bo,cap)) (sx.row:Int) (sx.col:Int) (one (.bool df))),bn sA.2.1 sA.2.2 R C sA.1,aZ C sA.1 A,bn sM.2.1 sM.2.2 R C sM.1,aZ C sM.1 sx.M,bn sU.2.1 sU.2.2 R R sU.1,aZ R sU.1 sx.U,bn (some bo) cap R R bs,aZ R bs (iw (i % R) (j % R) k sx.V)]) Aj (.drop <| .keep Ak (.keep Ak (.keep Ak (.keep Ak (.keep Ak (.keep Ak (.keep Ak (.keep Ak (.keep (mb) (SubM.nilR _)))))))))) ?_
   refine fH hA hM hU hV ?_
   have v1:=dh R C R C R R R R A sx.M sx.U (iw (i % R) (j % R) k sx.V) (sx.row:Int) (sx.col:Int) df S S hmA hl.m hl.u (fS hV6 S)
   have v2:=dg R C R C R R R R A sx.M sx.U (iw (i % R) (j % R) k sx.V) (sx.row:Int) (sx.col:Int) df S ⟨by omega,by omega,by omega⟩ S hmA hl.m hl.u (fS hV6 S)
   generalize g8 R C R C R R R R A sx.M sx.U (iw (i % R) (j % R) k sx.V) (sx.row:Int) (sx.col:Int) df=vb at v1 v2
   refine aN 8 aK X Y (Am Z (Am Z (Ao (aC 0 Z Z) ?_)))
   refine Ao (am (v1) Z ⟨W,Aq⟩) ?_
   refine Ao (aC 0 Z Z) ?_
   refine Ao (am (v2) Z ⟨W,Aq⟩) ?_
   refine Ao (sBt (beq_self_eq_true _) (ff Z Z)) (Al (aA Z Z) (Ap (An Z (Ap (ab (aH ?_))))))
   refine aJ Tryz.results7 (.tmp Z W)
end Tor
end
section
namespace Tor
open Go Go.RowKit Go.Proofs
theorem lO {p0:Prop} (r c:Nat) (l:List Int) (n:Nat) (wt i j:Nat) (k:Int) (y0:p0) (y1:(n:Int)≤IntKind.max .u8∧True) (y2:(wt:Int)≤IntKind.max .u8∧(i:Int)≤IntKind.max .u8∧(j:Int)≤IntKind.max .u8∧(IntKind.min .i8≤k∧k≤IntKind.max .i8)∧True):Ok Tryz.prog 7 [eG r c l,one (.int .u8 n),wU wt i j k] (one (.bool true)) :=
 nk r c l n (Int.ofNat_le.1 y1.1) wt i j k (Int.ofNat_le.1 y2.1) (Int.ofNat_le.1 y2.2.1) (Int.ofNat_le.1 y2.2.2.1) y2.2.2.2.1
end Tor
end
section
set_option maxRecDepth 100000
namespace Tor
open Go Go.RowKit Go.ChangeShapes Go.WideShapes Go.ChangeAt Go.Joins Go.Proofs
theorem wV {Ae:Type} {enc:TypeId × Value→Ae} {Af:World} {base:Nat} {v:Value} {d:DataW Ae} {ps:List MemPlace} (hval:Value.okWide Tryz.prog Af .any base 24 v) (hT:DataW.Trod enc Tryz.prog Af 0 (fun _=>true) true 24 v d ps) (hw : ∀ x∈DataW.weights Tryz.prog 24 d,x≤reachBytes) :
  ∃ (r:Nat) (c:Nat) (l:List Int),(eG r c l).p v (cy Af)∧(r:Int)≤IntKind.max .u8∧(c:Int)≤IntKind.max .u8∧(∀ x∈l,IntKind.min .i8≤x∧x≤IntKind.max .i8)∧True:=by
 obtain ⟨cs,rfl,h⟩:=oz 8 (ts := [5,5,22]) X (.inl ⟨_,Tryz.underlying24⟩) hval hT hw
 obtain ⟨c0,r0,rfl,h0,g0⟩:=h
 obtain ⟨c1,r1,rfl,h1,g1⟩:=g0
 obtain ⟨c2,r2,rfl,h2,g2⟩:=g1
 cases g2
 obtain ⟨r,rfl,b0⟩:=fO Tryz.underlying5 Z h0
 obtain ⟨c,rfl,b1⟩:=fO Tryz.underlying5 Z h1
 obtain ⟨l,k2,b2⟩:=ld Tryz.underlying22 Tryz.underlying25 X (of_decide_eq_true X) h2
 exact ⟨r,c,l,un (φs := [one (.int .u8 r),one (.int .u8 c),iL .i8 l]) ⟨rfl,rfl,⟨rfl,rfl,⟨k2,rY k2,Aq⟩⟩⟩,b0,b1,b2,Aq⟩
theorem xS {Ae:Type} {enc:TypeId × Value→Ae} {Af:World} {base:Nat} {v:Value} {d:DataW Ae} {ps:List MemPlace} (hval:Value.okWide Tryz.prog Af .any base 5 v) (hT:DataW.Trod enc Tryz.prog Af 0 (fun _=>true) true 5 v d ps) (hw : ∀ x∈DataW.weights Tryz.prog 5 d,x≤reachBytes) :
  ∃ (n:Nat),(one (.int .u8 n)).p v (cy Af)∧(n:Int)≤IntKind.max .u8∧True:=by
 have h:=mu (.inl ⟨_,Tryz.underlying5⟩) hval hT hw
 obtain ⟨n,rfl,b0⟩:=fO Tryz.underlying5 Z h
 exact ⟨n,rfl,b0,Aq⟩
theorem xT {Ae:Type} {enc:TypeId × Value→Ae} {Af:World} {base:Nat} {v:Value} {d:DataW Ae} {ps:List MemPlace} (hval:Value.okWide Tryz.prog Af .any base 51 v) (hT:DataW.Trod enc Tryz.prog Af 0 (fun _=>true) true 51 v d ps) (hw : ∀ x∈DataW.weights Tryz.prog 51 d,x≤reachBytes) :
  ∃ (wt:Nat) (i:Nat) (j:Nat) (k:Int),(wU wt i j k).p v (cy Af)∧(wt:Int)≤IntKind.max .u8∧(i:Int)≤IntKind.max .u8∧(j:Int)≤IntKind.max .u8∧(IntKind.min .i8≤k∧k≤IntKind.max .i8)∧True:=by
 obtain ⟨cs,rfl,h⟩:=oz 8 (ts := [5,5,5,25]) X (.inl ⟨_,Tryz.underlying51⟩) hval hT hw
 obtain ⟨c0,r0,rfl,h0,g0⟩:=h
 obtain ⟨c1,r1,rfl,h1,g1⟩:=g0
 obtain ⟨c2,r2,rfl,h2,g2⟩:=g1
 obtain ⟨c3,r3,rfl,h3,g3⟩:=g2
 cases g3
 obtain ⟨wt,rfl,b0⟩:=fO Tryz.underlying5 Z h0
 obtain ⟨i,rfl,b1⟩:=fO Tryz.underlying5 Z h1
 obtain ⟨j,rfl,b2⟩:=fO Tryz.underlying5 Z h2
 obtain ⟨k,rfl,b3⟩:=ks Tryz.underlying25 h3
 exact ⟨wt,i,j,k,un (φs := [one (.int .u8 wt),one (.int .u8 i),one (.int .u8 j),one (.int .i8 k)]) ⟨rfl,rfl,⟨rfl,rfl,⟨rfl,rfl,⟨rfl,rfl,Aq⟩⟩⟩⟩,b0,b1,b2,b3,Aq⟩
end Tor
namespace Go.Proofs.YtamglpeiacmooaaGreat
open Go.ChangeShapes Go.WideShapes Go.ChangeAt Go.RowKit Go.Joins Tor
theorem stepValidates_own:ownKnob Tryz.prog.godebug=none:=by kernel_rfl
theorem stepValidates_laid:laidOutB Tryz.prog=true:=by kernel_rfl
set_option maxRecDepth 100000 in
theorem stepValidates_lifted (os:Os) (started:os.Started) (Ae:Type) (enc:TypeId × Value→Ae) :
  ReturnsInHanded {} Tryz.checked os 7 .any (Rows.stepValidatesSpec.pre6 enc Tryz.prog Tryz.f7 Rows.stepValidatesRow.domain false) (Rows.stepValidatesSpec.post enc Tryz.prog Tryz.f7 false true false false):=by
 refine returnsInHanded_of_change_sized (C:=Tryz.checked) stepValidates_own started X Tryz.func7
  (ChangeSpec.witness6 (enc:=enc) (C:=Tryz.checked) false ⟨#[], #[.agg #[.int .u8 0, .int .u8 0, .slice none 0 0], .int .u8 0, .agg #[.int .u8 0, .int .u8 0, .int .u8 0, .int .i8 0]], []⟩ 8 X X X X) ?_
 intro Af base args ds gs before hval0 hW hcnd hsz0 _
 have hval : ∀ (j:Nat) t v,Tryz.f7.params[j]? = some t→args[j]? = some v→Value.okWide Tryz.prog Af .any base t v:=hval0
 have hsz:(DataW.weightsEach Tryz.prog (Tryz.f7.params.toList ++ Rows.stepValidatesSpec.plain.varTypes Tryz.prog) (ds ++ gs)).all (· ≤ reachBytes)=true:=hsz0
 have hW':=hW
 obtain ⟨p,q,hA0,hV,rfl,hfz,hnd⟩:=hW
 have hA:DataW.TrodAll enc Tryz.prog Af 0 (fun _=>true) true Tryz.f7.params.toList args.toList ds p:=hA0
 rw [Tryz.params7] at hA hval hsz
 obtain ⟨v0,v1,v2,d0,d1,d2,p0,p1,p2,rfl,rfl,rfl,h0,h1,h2⟩:=trodAll_three hA
 obtain ⟨rfl,rfl⟩:=trodVars_none hV
 obtain ⟨r_0,c_0,l_0,x0,y0⟩:=wV (hval 0 24 _ Z Z) h0 (ec hsz 0 Z Z)
 obtain ⟨n_1,x1,y1⟩:=xS (hval 1 5 _ Z Z) h1 (ec hsz 1 Z Z)
 obtain ⟨wt_2,i_2,j_2,k_2,x2,y2⟩:=xT (hval 2 51 _ Z Z) h2 (ec hsz 2 Z Z)
 refine (Ok.outside (Af:=Af) (args := #[v0,v1,v2]) (lO r_0 c_0 l_0 n_1 wt_2 i_2 j_2 k_2 y0 y1 y2) (And.intro x0 (And.intro x1 (And.intro x2 (trivial))))).mono fun e W' ⟨v,he,hv,hw⟩ => ?_
 subst he
 have hv:v = .bool true:=hv
 subst hv
 refine ⟨_,rfl,_, [],_, [],_, [],hW',trodAll_mk1 (shut_bool Tryz.underlying4 true),trodAll_mk3
  (Below.trod stepValidates_laid X (of_decide_eq_true X) h0 hw (fun x hx=>by simpa using hW'.lt x (by simp only [List.mem_append] at hx ⊢; simp [hx])))
  (Below.trod stepValidates_laid X (of_decide_eq_true X) h1 hw (fun x hx=>by simpa using hW'.lt x (by simp only [List.mem_append] at hx ⊢; simp [hx])))
  (Below.trod stepValidates_laid X (of_decide_eq_true X) h2 hw (fun x hx=>by simpa using hW'.lt x (by simp only [List.mem_append] at hx ⊢; simp [hx]))),rfl,hw.frame _,fun h=>by cases h⟩
theorem stepValidates_holds:Rows.StepValidatesSaid :=
 OpenClaim.holds_of_wide 7 Tryz.f7 Z Z Z Z Z Z Z ⟨rfl,rfl,rfl,rfl,rfl⟩ Z Z Z Z Z X Tryz.func7 X
  (of_decide_eq_true X) (by unfold Func.isWrapper;first | (rw [if_pos H]; kernel_rfl) | (rw [if_neg H]; exact ⟨rfl,rfl⟩))
  (fun os started Ae enc _=>stepValidates_lifted os started Ae enc)
end Go.Proofs.YtamglpeiacmooaaGreat
namespace Tor
end Tor
end
