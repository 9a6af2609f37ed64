/-
  Proofs that laws of this seat return true for every input, and that their arguments read afterwards as before.
  No condition.
-/
import Derived.Test.YtfaglimgjfhdfaaGreatZM11
import Derived.Test.YtfaglimgjfhdfaaGreatRows
set_option maxHeartbeats 20000000
set_option linter.unusedVariables false
set_option linter.unusedSimpArgs false
set_option linter.unusedSectionVars false
section
set_option maxRecDepth 100000
namespace Tor
open Go Go.RowKit Go.ChangeShapes Go.WideShapes Go.ChangeAt Go.Joins Go.Proofs
theorem qh {H:Type} {enc:TypeId × Value→H} {W:World} {base:Nat} {v:Value} {d:DataW H} {ps:List MemPlace} (hval:Value.okWide Tryz.prog W .any base 24 v) (hT:DataW.Trod enc Tryz.prog W 0 (fun _=>true) true 24 v d ps) (hw : ∀ x∈DataW.weights Tryz.prog 24 d,x≤reachBytes) :
  ∃ (r:Nat) (c:Nat) (l:List Int),(fX r c l).p v (view W)∧(r:Int)≤IntKind.max .u8∧(c:Int)≤IntKind.max .u8∧(∀ x∈l,IntKind.min .i8≤x∧x≤IntKind.max .i8)∧True:=by
 obtain ⟨cs,rfl,h⟩:=pt 8 (ts := [5,5,22]) Y (.inl ⟨_,Tryz.underlying24⟩) hval hT hw
 obtain ⟨c0,r0,rfl,h0,g0⟩:=h
 obtain ⟨c1,r1,rfl,h1,g1⟩:=g0
 obtain ⟨c2,r2,rfl,h2,g2⟩:=g1
 cases g2
 obtain ⟨r,rfl,b0⟩:=ij Tryz.underlying5 Z h0
 obtain ⟨c,rfl,b1⟩:=ij Tryz.underlying5 Z h1
 obtain ⟨l,k2,b2⟩:=ot Tryz.underlying22 Tryz.underlying65 Y (of_decide_eq_true Y) h2
 exact ⟨r,c,l,wI (φs := [one (.int .u8 r),one (.int .u8 c),ku .i8 l]) ⟨rfl,rfl,⟨rfl,rfl,⟨k2,yY k2,Cr⟩⟩⟩,b0,b1,b2,Cr⟩
theorem BV {H:Type} {enc:TypeId × Value→H} {W:World} {base:Nat} {v:Value} {d:DataW H} {ps:List MemPlace} (hval:Value.okWide Tryz.prog W .any base 22 v) (hT:DataW.Trod enc Tryz.prog W 0 (fun _=>true) true 22 v d ps) (hw : ∀ x∈DataW.weights Tryz.prog 22 d,x≤reachBytes) :
  ∃ (d:List Int),(ku .i8 d).p v (view W)∧(∀ x∈d,IntKind.min .i8≤x∧x≤IntKind.max .i8)∧True:=by
 have h:=qE (.inr (.inr ⟨_,Tryz.underlying22⟩)) hval hT hw
 obtain ⟨d,k0,b0⟩:=ot Tryz.underlying22 Tryz.underlying65 Y (of_decide_eq_true Y) h
 exact ⟨d,k0,b0,Cr⟩
theorem BW {H:Type} {enc:TypeId × Value→H} {W:World} {base:Nat} {v:Value} {d:DataW H} {ps:List MemPlace} (hval:Value.okWide Tryz.prog W .any base 5 v) (hT:DataW.Trod enc Tryz.prog W 0 (fun _=>true) true 5 v d ps) (hw : ∀ x∈DataW.weights Tryz.prog 5 d,x≤reachBytes) :
  ∃ (k:Nat),(one (.int .u8 k)).p v (view W)∧(k:Int)≤IntKind.max .u8∧True:=by
 have h:=qE (.inl ⟨_,Tryz.underlying5⟩) hval hT hw
 obtain ⟨k,rfl,b0⟩:=ij Tryz.underlying5 Z h
 exact ⟨k,rfl,b0,Cr⟩
theorem BX {H:Type} {enc:TypeId × Value→H} {W:World} {base:Nat} {v:Value} {d:DataW H} {ps:List MemPlace} (hval:Value.okWide Tryz.prog W .any base 76 v) (hT:DataW.Trod enc Tryz.prog W 0 (fun _=>true) true 76 v d ps) (hw : ∀ x∈DataW.weights Tryz.prog 76 d,x≤reachBytes) :
  ∃ (a:Nat) (b:Nat) (c:Nat),(w3D a b c).p v (view W)∧(a:Int)≤IntKind.max .u8∧(b:Int)≤IntKind.max .u8∧(c:Int)≤IntKind.max .u8∧True:=by
 obtain ⟨cs,rfl,h⟩:=pt 8 (ts := [5,5,5]) Y (.inr ⟨_,_,Tryz.underlying76⟩) hval hT hw
 obtain ⟨c0,r0,rfl,h0,g0⟩:=h
 obtain ⟨c1,r1,rfl,h1,g1⟩:=g0
 obtain ⟨c2,r2,rfl,h2,g2⟩:=g1
 cases g2
 obtain ⟨a,rfl,b0⟩:=ij Tryz.underlying5 Z h0
 obtain ⟨b,rfl,b1⟩:=ij Tryz.underlying5 Z h1
 obtain ⟨c,rfl,b2⟩:=ij Tryz.underlying5 Z h2
 exact ⟨a,b,c,wI (φs := [one (.int .u8 a),one (.int .u8 b),one (.int .u8 c)]) ⟨rfl,rfl,⟨rfl,rfl,⟨rfl,rfl,Cr⟩⟩⟩,b0,b1,b2,Cr⟩
theorem BY {H:Type} {enc:TypeId × Value→H} {W:World} {base:Nat} {v:Value} {d:DataW H} {ps:List MemPlace} (hval:Value.okWide Tryz.prog W .any base 77 v) (hT:DataW.Trod enc Tryz.prog W 0 (fun _=>true) true 77 v d ps) (hw : ∀ x∈DataW.weights Tryz.prog 77 d,x≤reachBytes) :
  ∃ (a:Int) (b:Int),(k2D a b).p v (view W)∧(IntKind.min .i8≤a∧a≤IntKind.max .i8)∧(IntKind.min .i8≤b∧b≤IntKind.max .i8)∧True:=by
 obtain ⟨cs,rfl,h⟩:=pt 8 (ts := [65,65]) Y (.inr ⟨_,_,Tryz.underlying77⟩) hval hT hw
 obtain ⟨c0,r0,rfl,h0,g0⟩:=h
 obtain ⟨c1,r1,rfl,h1,g1⟩:=g0
 cases g1
 obtain ⟨a,rfl,b0⟩:=kN Tryz.underlying65 h0
 obtain ⟨b,rfl,b1⟩:=kN Tryz.underlying65 h1
 exact ⟨a,b,wI (φs := [one (.int .i8 a),one (.int .i8 b)]) ⟨rfl,rfl,⟨rfl,rfl,Cr⟩⟩,b0,b1,Cr⟩
end Tor
namespace Go.Proofs.YtfaglimgjfhdfaaGreat
open Go.ChangeShapes Go.WideShapes Go.ChangeAt Go.RowKit Go.Joins Tor
theorem detMultiplies_own:ownKnob Tryz.prog.godebug=none:=by kernel_rfl
theorem detMultiplies_laid:laidOutB Tryz.prog=true:=by kernel_rfl
set_option maxRecDepth 100000 in
theorem detMultiplies_lifted (os:Os) (started:os.Started) (H:Type) (enc:TypeId × Value→H) :
  ReturnsInLeavingWide {} Tryz.checked os 5 .any (Rows.detMultipliesSpec.pre6 enc Tryz.prog Tryz.f5 Rows.detMultipliesRow.domain false) (Rows.detMultipliesSpec.post enc Tryz.prog Tryz.f5 false true false false):=by
 refine returnsInLeavingWide_of_change_sized (C:=Tryz.checked) detMultiplies_own started Tryz.func5
  (ChangeSpec.witness6 (enc:=enc) (C:=Tryz.checked) false ⟨#[], #[.agg #[.int .u8 0, .int .u8 0, .slice none 0 0], .agg #[.int .u8 0, .int .u8 0, .slice none 0 0]], []⟩ 8 Y Y Y Y) ?_
 intro W base args ds gs before hval0 hW hcnd hsz0 _
 have hval : ∀ (j:Nat) t v,Tryz.f5.params[j]? = some t→args[j]? = some v→Value.okWide Tryz.prog W .any base t v:=hval0
 have hsz:(DataW.weightsEach Tryz.prog (Tryz.f5.params.toList ++ Rows.detMultipliesSpec.plain.varTypes Tryz.prog) (ds ++ gs)).all (· ≤ reachBytes)=true:=hsz0
 have hW':=hW
 obtain ⟨p,q,hA0,hV,rfl,hfz,hnd⟩:=hW
 have hA:DataW.TrodAll enc Tryz.prog W 0 (fun _=>true) true Tryz.f5.params.toList args.toList ds p:=hA0
 rw [Tryz.params5] at hA hval hsz
 obtain ⟨v0,v1,d0,d1,p0,p1,rfl,rfl,rfl,h0,h1⟩:=trodAll_two hA
 obtain ⟨rfl,rfl⟩:=trodVars_none hV
 obtain ⟨r_0,c_0,l_0,x0,y0⟩:=qh (hval 0 24 _ Z Z) h0 (dN hsz 0 Z Z)
 obtain ⟨r_1,c_1,l_1,x1,y1⟩:=qh (hval 1 24 _ Z Z) h1 (dN hsz 1 Z Z)
 obtain ⟨M,last,o,w'',t'',r1,r2,r3,r4⟩:=nP Co.detT_ok (args := #[v0,v1]) Y (lW r_0 c_0 l_0 r_1 c_1 l_1) (And.intro x0 (And.intro x1 (trivial)))
 refine ⟨M,last,o,w'',t'',r1,r2,r3,r4.mono fun v hv => ?_⟩
 obtain ⟨hv,hw⟩:=hv
 subst hv
 refine ⟨_, [],_, [],_, [],hW',trodAll_mk1 (shut_bool Tryz.underlying4 true),trodAll_mk2
  (Below.trod detMultiplies_laid Y (of_decide_eq_true Y) h0 hw (fun x hx=>by simpa using hW'.lt x (by simp only [List.mem_append] at hx ⊢; simp [hx])))
  (Below.trod detMultiplies_laid Y (of_decide_eq_true Y) h1 hw (fun x hx=>by simpa using hW'.lt x (by simp only [List.mem_append] at hx ⊢; simp [hx]))),rfl,hw.frame _,fun h=>by cases h⟩
theorem detMultiplies_holds:Rows.DetMultipliesSaid :=
 OpenClaim.holds_of_wide_leaving 5 Tryz.f5 Z Z Z Z Z Z Z ⟨rfl,rfl,rfl,rfl,rfl⟩ Z Z Z Z Z Y Tryz.func5 Y
  (of_decide_eq_true Y) (by unfold Func.isWrapper;first | (rw [if_pos V]; kernel_rfl) | (rw [if_neg V]; exact ⟨rfl,rfl⟩))
  (fun os started H enc _=>detMultiplies_lifted os started H enc)
end Go.Proofs.YtfaglimgjfhdfaaGreat
namespace Tor
end Tor
namespace Go.Proofs.YtfaglimgjfhdfaaGreat
open Go.ChangeShapes Go.WideShapes Go.ChangeAt Go.RowKit Go.Joins Tor
theorem detLinear_own:ownKnob Tryz.prog.godebug=none:=by kernel_rfl
theorem detLinear_laid:laidOutB Tryz.prog=true:=by kernel_rfl
set_option maxRecDepth 100000 in
theorem detLinear_lifted (os:Os) (started:os.Started) (H:Type) (enc:TypeId × Value→H) :
  ReturnsInLeavingWide {} Tryz.checked os 7 .any (Rows.detLinearSpec.pre6 enc Tryz.prog Tryz.f7 Rows.detLinearRow.domain false) (Rows.detLinearSpec.post enc Tryz.prog Tryz.f7 false true false false):=by
 refine returnsInLeavingWide_of_change_sized (C:=Tryz.checked) detLinear_own started Tryz.func7
  (ChangeSpec.witness6 (enc:=enc) (C:=Tryz.checked) false ⟨#[], #[.agg #[.int .u8 0, .int .u8 0, .slice none 0 0], .slice none 0 0, .int .u8 0], []⟩ 8 Y Y Y Y) ?_
 intro W base args ds gs before hval0 hW hcnd hsz0 _
 have hval : ∀ (j:Nat) t v,Tryz.f7.params[j]? = some t→args[j]? = some v→Value.okWide Tryz.prog W .any base t v:=hval0
 have hsz:(DataW.weightsEach Tryz.prog (Tryz.f7.params.toList ++ Rows.detLinearSpec.plain.varTypes Tryz.prog) (ds ++ gs)).all (· ≤ reachBytes)=true:=hsz0
 have hW':=hW
 obtain ⟨p,q,hA0,hV,rfl,hfz,hnd⟩:=hW
 have hA:DataW.TrodAll enc Tryz.prog W 0 (fun _=>true) true Tryz.f7.params.toList args.toList ds p:=hA0
 rw [Tryz.params7] at hA hval hsz
 obtain ⟨v0,v1,v2,d0,d1,d2,p0,p1,p2,rfl,rfl,rfl,h0,h1,h2⟩:=trodAll_three hA
 obtain ⟨rfl,rfl⟩:=trodVars_none hV
 obtain ⟨r_0,c_0,l_0,x0,y0⟩:=qh (hval 0 24 _ Z Z) h0 (dN hsz 0 Z Z)
 obtain ⟨d_1,x1,y1⟩:=BV (hval 1 22 _ Z Z) h1 (dN hsz 1 Z Z)
 obtain ⟨k_2,x2,y2⟩:=BW (hval 2 5 _ Z Z) h2 (dN hsz 2 Z Z)
 obtain ⟨M,last,o,w'',t'',r1,r2,r3,r4⟩:=nP Co.detT_ok (args := #[v0,v1,v2]) Y (oc r_0 c_0 l_0 d_1 k_2 y0 y1 y2) (And.intro x0 (And.intro x1 (And.intro x2 (trivial))))
 refine ⟨M,last,o,w'',t'',r1,r2,r3,r4.mono fun v hv => ?_⟩
 obtain ⟨hv,hw⟩:=hv
 subst hv
 refine ⟨_, [],_, [],_, [],hW',trodAll_mk1 (shut_bool Tryz.underlying4 true),trodAll_mk3
  (Below.trod detLinear_laid Y (of_decide_eq_true Y) h0 hw (fun x hx=>by simpa using hW'.lt x (by simp only [List.mem_append] at hx ⊢; simp [hx])))
  (Below.trod detLinear_laid Y (of_decide_eq_true Y) h1 hw (fun x hx=>by simpa using hW'.lt x (by simp only [List.mem_append] at hx ⊢; simp [hx])))
  (Below.trod detLinear_laid Y (of_decide_eq_true Y) h2 hw (fun x hx=>by simpa using hW'.lt x (by simp only [List.mem_append] at hx ⊢; simp [hx]))),rfl,hw.frame _,fun h=>by cases h⟩
theorem detLinear_holds:Rows.DetLinearSaid :=
 OpenClaim.holds_of_wide_leaving 7 Tryz.f7 Z Z Z Z Z Z Z ⟨rfl,rfl,rfl,rfl,rfl⟩ Z Z Z Z Z Y Tryz.func7 Y
  (of_decide_eq_true Y) (by unfold Func.isWrapper;first | (rw [if_pos V]; kernel_rfl) | (rw [if_neg V]; exact ⟨rfl,rfl⟩))
  (fun os started H enc _=>detLinear_lifted os started H enc)
end Go.Proofs.YtfaglimgjfhdfaaGreat
namespace Tor
end Tor
namespace Go.Proofs.YtfaglimgjfhdfaaGreat
open Go.ChangeShapes Go.WideShapes Go.ChangeAt Go.RowKit Go.Joins Tor
theorem detBounded_own:ownKnob Tryz.prog.godebug=none:=by kernel_rfl
theorem detBounded_laid:laidOutB Tryz.prog=true:=by kernel_rfl
set_option maxRecDepth 100000 in
theorem detBounded_lifted (os:Os) (started:os.Started) (H:Type) (enc:TypeId × Value→H) :
  ReturnsInLeavingWide {} Tryz.checked os 9 .any (Rows.detBoundedSpec.pre6 enc Tryz.prog Tryz.f9 Rows.detBoundedRow.domain false) (Rows.detBoundedSpec.post enc Tryz.prog Tryz.f9 false true false false):=by
 refine returnsInLeavingWide_of_change_sized (C:=Tryz.checked) detBounded_own started Tryz.func9
  (ChangeSpec.witness6 (enc:=enc) (C:=Tryz.checked) false ⟨#[], #[.agg #[.int .u8 0, .int .u8 0, .slice none 0 0], .agg #[.int .u8 0, .int .u8 0, .int .u8 0], .agg #[.int .i8 0, .int .i8 0]], []⟩ 8 Y Y Y Y) ?_
 intro W base args ds gs before hval0 hW hcnd hsz0 _
 have hval : ∀ (j:Nat) t v,Tryz.f9.params[j]? = some t→args[j]? = some v→Value.okWide Tryz.prog W .any base t v:=hval0
 have hsz:(DataW.weightsEach Tryz.prog (Tryz.f9.params.toList ++ Rows.detBoundedSpec.plain.varTypes Tryz.prog) (ds ++ gs)).all (· ≤ reachBytes)=true:=hsz0
 have hW':=hW
 obtain ⟨p,q,hA0,hV,rfl,hfz,hnd⟩:=hW
 have hA:DataW.TrodAll enc Tryz.prog W 0 (fun _=>true) true Tryz.f9.params.toList args.toList ds p:=hA0
 rw [Tryz.params9] at hA hval hsz
 obtain ⟨v0,v1,v2,d0,d1,d2,p0,p1,p2,rfl,rfl,rfl,h0,h1,h2⟩:=trodAll_three hA
 obtain ⟨rfl,rfl⟩:=trodVars_none hV
 obtain ⟨r_0,c_0,l_0,x0,y0⟩:=qh (hval 0 24 _ Z Z) h0 (dN hsz 0 Z Z)
 obtain ⟨a_1,b_1,c_1,x1,y1⟩:=BX (hval 1 76 _ Z Z) h1 (dN hsz 1 Z Z)
 obtain ⟨a_2,b_2,x2,y2⟩:=BY (hval 2 77 _ Z Z) h2 (dN hsz 2 Z Z)
 obtain ⟨M,last,o,w'',t'',r1,r2,r3,r4⟩:=nP Co.detT_ok (args := #[v0,v1,v2]) Y (nS r_0 c_0 l_0 a_1 b_1 c_1 a_2 b_2 y0 y1 y2) (And.intro x0 (And.intro x1 (And.intro x2 (trivial))))
 refine ⟨M,last,o,w'',t'',r1,r2,r3,r4.mono fun v hv => ?_⟩
 obtain ⟨hv,hw⟩:=hv
 subst hv
 refine ⟨_, [],_, [],_, [],hW',trodAll_mk1 (shut_bool Tryz.underlying4 true),trodAll_mk3
  (Below.trod detBounded_laid Y (of_decide_eq_true Y) h0 hw (fun x hx=>by simpa using hW'.lt x (by simp only [List.mem_append] at hx ⊢; simp [hx])))
  (Below.trod detBounded_laid Y (of_decide_eq_true Y) h1 hw (fun x hx=>by simpa using hW'.lt x (by simp only [List.mem_append] at hx ⊢; simp [hx])))
  (Below.trod detBounded_laid Y (of_decide_eq_true Y) h2 hw (fun x hx=>by simpa using hW'.lt x (by simp only [List.mem_append] at hx ⊢; simp [hx]))),rfl,hw.frame _,fun h=>by cases h⟩
theorem detBounded_holds:Rows.DetBoundedSaid :=
 OpenClaim.holds_of_wide_leaving 9 Tryz.f9 Z Z Z Z Z Z Z ⟨rfl,rfl,rfl,rfl,rfl⟩ Z Z Z Z Z Y Tryz.func9 Y
  (of_decide_eq_true Y) (by unfold Func.isWrapper;first | (rw [if_pos V]; kernel_rfl) | (rw [if_neg V]; exact ⟨rfl,rfl⟩))
  (fun os started H enc _=>detBounded_lifted os started H enc)
end Go.Proofs.YtfaglimgjfhdfaaGreat
namespace Tor
end Tor
namespace Go.Proofs.YtfaglimgjfhdfaaGreat
open Go.ChangeShapes Go.WideShapes Go.ChangeAt Go.RowKit Go.Joins Tor
end Go.Proofs.YtfaglimgjfhdfaaGreat
namespace Tor
end Tor
namespace Go.Proofs.YtfaglimgjfhdfaaGreat
open Go.ChangeShapes Go.WideShapes Go.ChangeAt Go.RowKit Go.Joins Tor
end Go.Proofs.YtfaglimgjfhdfaaGreat
namespace Tor
end Tor
end
