/-
  Theorems that the proofs of laws of this seat rest on.
  No condition.
-/
import Derived.Test.YtfaglimgjfhdfaaGreatZO9
import Derived.Conc.LeavingOf
set_option maxHeartbeats 20000000
set_option linter.unusedVariables false
set_option linter.unusedSimpArgs false
set_option linter.unusedSectionVars false
section
namespace Tor
open Go Go.RowKit Go.Proofs
variable [Co.Kc]
def eqT (v:Value) (φ:VT):VT:=⟨fun x h=>x=v∧φ.p x h,fun H ⟨h1,h2⟩=>⟨h1, φ.mono H h2⟩⟩
theorem yy {v:Value} {φ:VT} : VT.le (eqT v φ) φ:=fun _ _ h=>h.2
theorem aB.reT {P:Program} {E:Env} {Γ:Ctx} {M:Mem} {o:Oper} {ψ φ φ':VT} {t:Nat} (ht:bD Γ t=some φ) (hle:VT.le φ φ') (h:aB P E ((t, φ') :: Γ) M o ψ):aB P E Γ M o ψ :=
 fun a w hb hf next hn=>h a w hb (fun x χ hx hχ=>by
  cases x with
  | tmp t' =>
   have hχ':bD ((t, φ') :: Γ) t'=some χ:=hχ
   rw [aY] at hχ'
   split at hχ'
   ·rename_i e;subst e;cases hχ'
    exact hle _ _ (hf _ φ hx ht)
   ·exact hf _ χ hx hχ'
  | _ => exact hf _ χ hx hχ) next hn
theorem w7 {E:Env} {D:List Deferred} {Γ:Ctx} {M:Mem} {e:Exit} {Q:Exit→Act→World→Prop} (h : ∀ a w,St E D Γ M a w→Q e a w):PJ E D Γ M e Q:=h
theorem w8 {P:Program} {E:Env} {D:List Deferred} {Γ:Ctx} {M:Mem} {c:Code} {Q:Exit→Act→World→Prop} (h:J P E D Γ M c Q) {a:Act} {w:World} (hS:St E D Γ M a w) (hc:OkC E.R c):Co.WpX P E.R c Q a w:=h a w hS hc
theorem z9 {b b' T T' m m':Nat} {cs cs':bT} (h:(aV [aQ b T m cs,aQ b' T' m' cs']).Nodup):b'≠b:=fun e=>by
 subst e
 unfold aV at h
 simp [aQ] at h
def yz (a:Act) (H:Hp) (Γ:Ctx):Prop := ∀ t φ,bD Γ t=some φ→φ.p (a.tmps.getD t undef) H
theorem yz.nil {a:Act} {H:Hp} : yz a H []:=fun _ _ h=>by cases h
theorem yz.cons {a:Act} {H:Hp} {Γ:Ctx} {t:Nat} {φ:VT} (h:φ.p (a.tmps.getD t undef) H) (k:yz a H Γ):yz a H ((t, φ) :: Γ):=fun t' φ' e=>by
 rw [aY] at e
 split at e
 ·rename_i e';subst e';cases e;exact h
 ·exact k t' φ' e
theorem St.start {w:World} {O:List Nat} {N:Nat} {R:Option Nat} {D:List Deferred} {Γ:Ctx} {a:Act} (hs:a.tmps.size=N) (hd:a.defers=D) (hO : ∀ b∈O,b<w.heap.size) (h:yz a (hid O (view w)) Γ):St ⟨w,O, [],N,R⟩ D Γ [] a w :=
 ⟨⟨fun o ho=>(by cases ho),List.nodup_nil,fun b hb=>(by cases hb),fun b hb=>(by cases hb),fun b hb=>hO b (by simpa using hb),Fr.refl _ _⟩,hs,hd,fun t φ ht=>by
  have:=h t φ ht
  simpa [hv] using this⟩
theorem tr (h:Hp):hid [] h=h:=funext fun b=>if_neg (by simp)
theorem oT {b T:Nat} {v:Value} {w:World} {h:Hp} (hb:(aQ b T 1 [(0, .one,one v)]).p (raw w) h):w.heap[b]? = some (.cells #[v] T (0,0)):=by
 obtain ⟨c,h1,h2,_,h3⟩:=hb
 obtain ⟨x,hx,hp⟩:=h3 _ List.mem_cons_self
 have hx':c[0]? = some x:=hx
 have hp':x=v:=hp
 subst hp'
 have hc:c = #[x]:=by
  obtain ⟨l⟩:=c
  match l,h2,hx' with
  | [y], _, h => simp at h; rw [h]
 subst hc
 unfold vw raw at h1
 split at h1
 ·rename_i e;cases h1;exact e
 ·cases h1
attribute [local irreducible] J PJ aB one slT bJ bB bv exT cd eP aQ aI slV VT.le Ret bN dD ek
attribute [local irreducible] eqT
theorem Aa (w0:World) (v1 v2 v7 v6:Value) (W n i:Nat) (ps:Nat→Nat) (hi:i<n) :
  J Tryz.prog ⟨w0, [], [],40,none⟩ [] [(1,one v1),(2,one v2),(7,one v7),(8,one (.pointer (some ⟨W,0,none⟩))),(25,eqT v6 (slT .one n fun q=>one (.int .u64 (ps q:Nat)))),(26,one (.int .i64 (n:Nat))),(27,one (.int .i64 (i:Nat)))] [] (.region 9 Co.ops9 false)
   (fun e a w=>e = .normal ∧ ∃ b9 b10,b9≠b10∧St ⟨w0, [], [],40,none⟩ [] [(9,one (.pointer (some ⟨b9,0,none⟩))),(10,one (.pointer (some ⟨b10,0,none⟩))),(1,one v1),(2,one v2),(7,one v7),(8,one (.pointer (some ⟨W,0,none⟩))),(25,eqT v6 (slT .one n fun q=>one (.int .u64 (ps q:Nat)))),(26,one (.int .i64 (n:Nat))),(27,one (.int .i64 (i:Nat)))]
    [aQ b10 47 1 [(0, .one,one (.int .u64 (ps i:Nat)))],aQ b9 3 1 [(0, .one,one (.int .i64 (i:Nat)))]] a w):=by
 dsimp only [Co.ops9,Co.opsC,Co.fstC,Co.sndC,Co.inrC,Co.rndC,Co.inC,Co.detC,Co.bodyD,Tryz.f40,Option.getD_some]
 refine ai (AQ Z (AP (aB.reT (t:=25) Z yy (aR Z Z hi)) (AP (bj Z) ?_)))
 refine aU (T:=3) Z (ltN Z) (fun b9 => ?_)
 refine aU (T:=47) Z (ltN Z) (fun b10 => ?_)
 refine au 1 Z Z Z Z Z (leN Z) Z (au 0 Z Z Z Z Z (leN Z) Z (AT ?_))
 refine w7 fun a w hS => ?_
 have hS':=hS.sub (Γ' := []) (M' := [aQ b10 47 1 [(0, .one,one (.int .u64 (ps i:Nat)))],aQ b9 3 1 [(0, .one,one (.int .i64 (i:Nat)))]]) dG.nil (SubM.refl _)
 exact ⟨rfl,b9,b10,z9 hS'.base.nd,hS.sub AM (SubM.refl _)⟩
end Tor
namespace Tor.Co
open Go Go.Conc Go.RowKit Go.Proofs
variable [Kc]
theorem reg9 {m:Bool} {b:Frame} {k:List Item} {cs:List Frame} {a0 a:Act} {W n i:Nat} {ps:Nat→Nat} {ĝ : World} {Stop:Goroutine→World→Prop} (hb:b.roundOf=none) (hk:b.kind ≠ .early) (h:RS a0 W n i a) (hi:i<n)
  (hp:(slT .one n fun q=>one (.int .u64 (ps q:Nat))).p (a0.tmps.getD 6 undef) (view ĝ))
  (hc : ∀ a' w' b9 b10,RS a0 W n i a'→a'.tmps.getD 9 undef = .pointer (some ⟨b9,0,none⟩)→a'.tmps.getD 10 undef = .pointer (some ⟨b10,0,none⟩)→b9≠b10→w'.heap[b9]? = some (.cells #[.int .i64 (i:Nat)] 3 (0,0)) →
   w'.heap[b10]? = some (.cells #[.int .u64 (ps i:Nat)] 47 (0,0))→GoI Tryz.prog m Stop (G (b.atR a' k) cs) w'):GoI Tryz.prog m Stop (G (b.atR a (.code (.region 9 ops9 false) :: k)) cs) ĝ := by
 have hS:St ⟨ĝ, [], [],40,none⟩ [] [(1,one (a0.tmps.getD 1 undef)),(2,one (a0.tmps.getD 2 undef)),(7,one (a0.tmps.getD 7 undef)),(8,one (.pointer (some ⟨W,0,none⟩))),(25,eqT (a0.tmps.getD 6 undef) (slT .one n fun q=>one (.int .u64 (ps q:Nat)))),(26,one (.int .i64 (n:Nat))),(27,one (.int .i64 (i:Nat)))] [] a ĝ := by
  refine St.start h.sz h.df (fun b hb=>(by cases hb)) ?_
  rw [tr]
  exact .cons (h.kp 1 X) (.cons (h.kp 2 X) (.cons (h.kp 7 X) (.cons h.s8 (.cons ⟨h.s25,by rw [h.s25]; exact hp⟩ (.cons h.s26 (.cons h.s27 .nil))))))
 have hq:=w8 (Aa ĝ _ _ _ _ W n i ps hi) hS ⟨.inl Z,by kernel_rfl⟩
 refine hq m b k cs Stop hb hk fun e a' w' ⟨he,b9,b10,hne,hS'⟩ => ?_
 subst he
 have g : ∀ t v,bD [(9,one (.pointer (some ⟨b9,0,none⟩))),(10,one (.pointer (some ⟨b10,0,none⟩))),(1,one (a0.tmps.getD 1 undef)),(2,one (a0.tmps.getD 2 undef)),(7,one (a0.tmps.getD 7 undef)),(8,one (.pointer (some ⟨W,0,none⟩))),(25,eqT (a0.tmps.getD 6 undef) (slT .one n fun q=>one (.int .u64 (ps q:Nat)))),(26,one (.int .i64 (n:Nat))),(27,one (.int .i64 (i:Nat)))] t=some (one v)→a'.tmps.getD t undef=v:=fun t v ht=>hS'.tm t _ ht
 refine hc a' w' b9 b10 ⟨hS'.sz,hS'.df,fun t ht => ?_,g 8 _ Z,(hS'.tm 25 _ Z).1,g 26 _ Z,g 27 _ Z⟩ (g 9 _ Z) (g 10 _ Z) hne ?_ ?_
 ·rcases ht with rfl | rfl | rfl
  ·exact g 1 _ Z
  ·exact g 2 _ Z
  ·exact g 7 _ Z
 ·exact oT (hS'.base.mem _ (List.mem_cons_of_mem _ List.mem_cons_self))
 ·exact oT (hS'.base.mem _ List.mem_cons_self)
end Tor.Co
end
section
namespace Tor.Co
open Go Go.Conc Go.ConcN Go.RowKit Go.Conc.Lib Go.ConcR.Gen Go.ConcN.Gen Go.Proofs
open Go.ConcR (KK wgBlock WgAt stA smA rd wr mk DC0)
noncomputable def botD:Frame := { (default:Frame) with fn:=Tryz.prog.funcs.size,defers := [],mode := .panicking [goexitEntry] }
noncomputable def bodyW:Code:=(Tryz.f65.body).getD .skip
noncomputable def opsD:Array Oper:=opsC (fstC bodyW)
noncomputable def opsW:Array Oper:=opsC (sndC bodyW)
theorem bodyW_eq:bodyW = .seq (.region 0 opsD false) (.region 1 opsW true):=by kernel_rfl
abbrev dDone (W:Nat):List Deferred := [dcall 66 #[.pointer (some ⟨W,0,none⟩)]]
theorem born_step (a0:Act) (W b9 b10:Nat) (w:World):stepG Tryz.prog false (born Tryz.prog (callD a0 W b9 b10)) w =
  .go (G ((baseD 65).at ⟨#[.pointer (some ⟨W,0,none⟩),a0.tmps.getD 1 undef, .pointer (some ⟨b10,0,none⟩),a0.tmps.getD 7 undef, .pointer (some ⟨b9,0,none⟩),undef,undef,undef,undef,undef,undef,undef,undef,undef], []⟩ [.code bodyW]) [botD]) w #[]:=by
 simp [born,callD,stepG,unwind,callDeferred,invoke,callFunc,Tryz.func65,Tryz.f65,seen,GStep.after,G,Frame.enter,Frame.at,baseD,botD,bodyW]
theorem quitsTail (T:Array Value) (td:List Item):QuitsD Tryz.prog 2 0 (G { (baseD 65).at ⟨T, []⟩ td with mode := .returning } [botD]):=by
 refine QuitsD.ctl (g':=G botD []) Z (fun w => ?_) ?_
 ·simp [G,stepG,unwind,doReturn,results,Frame.at,baseD,botD,Tryz.func65,Tryz.f65,seen,GStep.after,goexitEntry]
 refine QuitsD.ctl (g' := { G botD [] with status := .finished }) Z (fun w => ?_) ⟨rfl,rfl⟩
 simp [G,stepG,unwind,botD,goexitEntry,Frame.catches]
 rfl
theorem tail_go {W:Nat} {a:Act} (hd:a.defers=dDone W):LGo Tryz.prog false Tryz.link.tWg W (R0 Tryz.prog Tryz.link.tWg W) (G ((baseD 65).atR a (.inRegion opsW [] :: [])) [botD]):=by
 refine LGo.calm Z (fun _=>sG_rend) ?_
 refine LGo.calm Z (fun _=>sG_end Z) ?_
 rw [Frame.atR_of_none Z]
 refine LGo.calm Z (fun w=>stepG_unwind_enter hd Tryz.wgLib.f_done (nm_done Tryz.link) Z) ?_
 exact doneNeg Tryz.wgLib Z (quitsTail _ _)
theorem loudW:(Tryz.prog.funcs[(baseD 65).fn]?).any (·.norace)=false:=by kernel_rfl
theorem store_step {C i:Nat} {x y:Int} {a:Act} {rest:List Nat} {w:World} {c:Array Value} (h13:a.tmps.getD 13 undef = .pointer (some ⟨C,2*i,none⟩)) (h11:a.tmps.getD 11 undef = .agg #[.int .u64 x, .int .u64 y])
  (hc:w.heap[C]? = some (.cells c 50 (0,0))) (hs:2*i+1<c.size) :
  stepG Tryz.prog false (G ((baseD 65).atR a (.inRegion opsW (9 :: rest) :: [])) [botD]) w =
   .go (G ((baseD 65).atR a (.inRegion opsW rest :: [])) [botD]) ((w.setCell ⟨C,2*i,none⟩ (.int .u64 x)).setCell ⟨C,2*i+1,none⟩ (.int .u64 y)) #[⟨.cell ⟨C,2*i,none⟩,true,false⟩,⟨.cell ⟨C,2*i+1,none⟩,true,false⟩]:=by
 have c1:w.cell? ⟨C,2*i,none⟩=some (c[2*i]'X):=by simp [World.cell?,hc,show 2*i<c.size by omega]
 have f1:w.frozen? ⟨C,2*i,none⟩=false:=by simp [World.frozen?,hc]
 have hb:(w.setCell ⟨C,2*i,none⟩ (.int .u64 x)).heap[C]? = some (.cells (c.setIfInBounds (2*i) (.int .u64 x)) 50 (0,0)):=by
  rw [setCell_eq_setRow w C (2*i) c _ (0,0) _ hc,setRow_heap w C _ _ _ _ hc]
 have c2:(w.setCell ⟨C,2*i,none⟩ (.int .u64 x)).cell? ⟨C,2*i+1,none⟩=some (c[2*i+1]'hs):=by simp [World.cell?,hb,hs,Array.getElem?_setIfInBounds_ne]
 have f2:(w.setCell ⟨C,2*i,none⟩ (.int .u64 x)).frozen? ⟨C,2*i+1,none⟩=false:=by simp [World.frozen?,hb]
 letI:Kc:=noAsk
 have hz:=Tryz.sizeOf50
 obtain ⟨o,ho,hop,hd,hg⟩ : ∃ o,opsW[9]? = some o∧o.op = .store 50 (.tmp 13) (.tmp 11)∧o.dst=none∧o.guard=none:=by
  dsimp only [opsW,opsC,sndC,bodyW,Tryz.f65,Option.getD_some]
  exact ⟨_,rfl,rfl,rfl,rfl⟩
 have hr:(execOp a.eval o).run Tryz.prog w = .ok .skip ((w.setCell ⟨C,2*i,none⟩ (.int .u64 x)).setCell ⟨C,2*i+1,none⟩ (.int .u64 y)):=by
  unfold execOp
  simp only [hop,Act.eval,h13,h11]
  simp [go_sem,stored,storeVar,storeCells,Instr.storeAt,Instr.sureAddr,Value.cells,c1,f1,c2,f2,hz,Addr.add]
 have he:(execOp a.eval o).events Tryz.prog w #[] = #[⟨.cell ⟨C,2*i,none⟩,true,false⟩,⟨.cell ⟨C,2*i+1,none⟩,true,false⟩]:=by
  unfold execOp
  simp only [hop,Act.eval,h13,h11]
  simp [go_sem,storedEv,stored,storeVar,storeCells,Instr.storeAt,Instr.sureAddr,Value.cells,c1,f1,c2,f2,hz,Addr.add]
 have:=sG_skp (P:=Tryz.prog) (m:=false) (R:=none) (b:=baseD 65) (k := []) (cs := [botD]) (rest:=rest) (.inl Z) ho (by simp [Region.wanted,hg]) Z (by simp [baseD]) hr
 rw [this,he,hd,seen_eq loudW (by simp)]
 rfl
end Tor.Co
end
section
namespace Tor
open Go Go.RowKit Go.Proofs
variable [Co.Kc]
structure UW (C i p r:Nat) (D:List Deferred) (rest:List Nat) (a:Act):Prop where
 sz:a.tmps.size=14
 df:a.defers=D
 s13:a.tmps.getD 13 undef = .pointer (some ⟨C,2*i,none⟩)
 s11:a.tmps.getD 11 undef = .agg #[.int .u64 (p:Nat), .int .u64 (r:Nat)]
 s5 : ∃ x y,a.tmps.getD 5 undef = .tuple #[x,y]
 rest:rest = []∨rest = [7]
theorem Ab {rest:List Nat} (hn:rest.Nodup) (h : ∀ i∈rest,i=7):rest = []∨rest = [7]:=by
 match rest,hn,h with
 | [], _, _ => exact .inl Z
 | [x], _, h => exact .inr (by rw [h x (by simp)])
 | x :: y :: _, hn, h =>
  have h1:=h x (by simp)
  have h2:=h y (by simp)
  subst h1;subst h2
  simp at hn
theorem yA {b i s:Nat} {v:Value} {h:Hp} (e:(eP b i s).p v h):v = .pointer (some ⟨b,i*s,none⟩):=e
theorem w9 {x v:Value} {h:Hp} (e:(one x).p v h):v=x:=e
theorem uH {φ ψ:VT} {v:Value} {h:Hp} (e:(bv [φ, ψ]).p v h) : ∃ x y,v = .tuple #[x,y]:=by
 obtain ⟨vs,rfl,hp⟩:=e
 match vs,hp with
 | [x, y], _ => exact ⟨x, y, rfl⟩
theorem yB {E:Env} {D:List Deferred} {Γ:Ctx} {M:Mem} {ops:Array Oper} {AH:List Nat→Act→World→Prop} (n:Nat) (hok:dQ (n+1) ops=true) (hns:n+1=ops.size) (hnd:dstOf ops n=none) {P:Program}
  (h:Run P E ops true 0 D Γ M (ops.toList.take n) (fun D' Γ' M' => ∀ rest a w,Base E M' w→a.tmps.size=E.N→a.defers=D'→(∀ t φ,bD Γ' t=some φ→(∀ j,j<n→dstOf ops j=some t→er ops j n=true)→φ.p (a.tmps.getD t undef) (hv E M' w)) →
   rest.Nodup→(∀ i∈rest,i<n∧er ops i n=false)→AH rest a w)) {a:Act} {w:World} (hS:St E D Γ M a w) :
  ∀ w₁,Co.Grow w w₁→Co.wpAnyU P .any ops n AH ops.size (Array.replicate ops.size false) a { w₁ with drawn:=w₁.drawn+1 } := rV n hok hns hnd h hS
attribute [local irreducible] J PJ aB one slT bJ bB bv exT cd eP aQ aI slV VT.le Ret bN dD ek
theorem rW (w0:World) (O:List Nat) (D:List Deferred) (v0:Value) (C i n cap nn p r:Nat) (F:Nat→Nat→Int) (hi:i<n)
  (hR:Ok Tryz.prog 21 [ch nn nn F,one (.int .u64 (p:Nat))] (bv [one (.agg #[.int .u64 (p:Nat), .int .u64 (r:Nat)]),one (.int .i64 0)])) :
  Run Tryz.prog ⟨w0,O, [],14,none⟩ Co.opsW true 0 D [(0,one v0),(1,bJ (.agg 3) (ch nn nn F)),(2,bJ .one (one (.int .u64 (p:Nat)))),(3,bJ .one (one (slV (some C) n cap))),(4,bJ .one (one (.int .i64 (i:Nat))))] [] (Co.opsW.toList.take 9)
   (fun D' Γ' M' => ∀ rest a w,Base ⟨w0,O, [],14,none⟩ M' w→a.tmps.size=14→a.defers=D'→(∀ t φ,bD Γ' t=some φ→(∀ j,j<9→dstOf Co.opsW j=some t→er Co.opsW j 9=true)→φ.p (a.tmps.getD t undef) (hv ⟨w0,O, [],14,none⟩ M' w)) →
   rest.Nodup→(∀ i∈rest,i<9∧er Co.opsW i 9=false)→UW C i p r D rest a):=by
 dsimp only [Co.opsW,Co.opsC,Co.sndC,Co.bodyW,Tryz.f65,Option.getD_some,List.take]
 refine AP (bj Z) (AP (bj Z) (AP (bj Z) (AP (bj Z) ?_)))
 refine AP (ao (hR) Z ⟨A,A,AU⟩) ?_
 refine AQ Z (AP (aD Z Z) (AP (aD Z Z) (AP (ar Z Z X) (AT ?_))))
 intro rest a w hb hs hd hg hn hr
 refine ⟨hs,hd,(yA (hg 13 _ Z V)).trans (by rw [Nat.mul_comm]; rfl),w9 (hg 11 _ Z V),uH (hg 5 _ Z V),Ab hn fun j hj => ?_⟩
 obtain ⟨h1,h2⟩:=hr j hj
 revert h2
 have : ∀ j,j<9→er Co.opsW j 9=false→j=7:=by decide +kernel
 exact this j h1
end Tor
namespace Tor.Co
open Go Go.Conc Go.ConcN Go.RowKit Go.Conc.Lib Go.ConcR.Gen Go.ConcN.Gen Go.Proofs
open Go.ConcR (KK wgBlock WgAt stA smA rd wr mk DC0)
variable [Kc]
theorem rest_go {W C i p r:Nat} {rest:List Nat} {a:Act} (h:UW C i p r (dDone W) rest a):LGo Tryz.prog false Tryz.link.tWg W (R0 Tryz.prog Tryz.link.tWg W) (G ((baseD 65).atR a (.inRegion opsW rest :: [])) [botD]):=by
 rcases h.rest with e | e
 ·rw [e]; exact tail_go h.df
 ·rw [e]
  obtain ⟨x,y,h5⟩:=h.s5
  obtain ⟨o,ho,hop,hd,hg⟩ : ∃ o,opsW[7]? = some o∧o.op = .extract (.tmp 5) 1∧o.dst=some 12∧o.guard=none:=by
   dsimp only [opsW,opsC,sndC,bodyW,Tryz.f65,Option.getD_some]
   exact ⟨_,rfl,rfl,rfl,rfl⟩
  refine LGo.calm Z (sG_calm Z (by simp [baseD]) ho hg hd (v:=y) (fun w => ?_) (fun w => ?_)) ?_
  ·simp [execOp,hop,Act.eval,h5,Instr.extract]
  ·simp [execOp,hop,Act.eval,h5,Instr.extract]
  ·exact tail_go (by rw [put_defers]; exact h.df)
theorem child_go {S:Ses} {a0:Act} {b9 b10 i n cap nn p r:Nat} {F:Nat→Nat→Int} {g:World} (hi:i<n) (hP:S.P=Tryz.prog) (hty:S.ty=Tryz.link.tWg) (hC:S.eC=50) (hpv:S.pv i=(.int .u64 (p:Nat), .int .u64 (r:Nat)))
  (hch:S.child b9 b10=born Tryz.prog (callD a0 S.Wg b9 b10))
  (hR:Ok Tryz.prog 21 [ch nn nn F,one (.int .u64 (p:Nat))] (bv [one (.agg #[.int .u64 (p:Nat), .int .u64 (r:Nat)]),one (.int .i64 0)]))
  (h1:(bJ (.agg 3) (ch nn nn F)).p (a0.tmps.getD 1 undef) (view g)) (h7:(bJ .one (one (slV (some S.C) n cap))).p (a0.tmps.getD 7 undef) (view g))
  (h9:(bJ .one (one (.int .i64 (i:Nat)))).p (.pointer (some ⟨b9,0,none⟩)) (view g)) (h10:(bJ .one (one (.int .u64 (p:Nat)))).p (.pointer (some ⟨b10,0,none⟩)) (view g)) :
  GoI Tryz.prog false (AtStore S i) (S.child b9 b10) g:=by
 rw [hch]
 refine .calm Z (born_step a0 S.Wg b9 b10) ?_
 rw [bodyW_eq, ← Frame.atR_of_none Z]
 refine .calm Z (fun _=>sG_seq) ?_
 refine .calm Z (sG_reg (l := [0]) Y) ?_
 obtain ⟨o,ats,ho,hop,hd,hg⟩ : ∃ o ats,opsD[0]? = some o∧o.op = .defer { callee := .value (.func 66),args := #[.tmp 0],argTypes:=ats } ∧ o.dst=none∧o.guard=none:=by
  dsimp only [opsD,opsC,fstC,bodyW,Tryz.f65,Option.getD_some]
  exact ⟨_,_,rfl,rfl,rfl,rfl⟩
 refine .calm Z (fun w=>(by rw [Frame.atR_of_none Z]; exact stepG_defer ho (by simp [Region.wanted,hg]) (by simp [baseD]) hop)) ?_
 rw [← Frame.atR_of_none Z]
 refine .calm Z (fun _=>sG_rend) ?_
 rw [hd]
 generalize hA:Act.put _ none undef=AJ
 have hA1:AJ.tmps = #[.pointer (some ⟨S.Wg,0,none⟩),a0.tmps.getD 1 undef, .pointer (some ⟨b10,0,none⟩),a0.tmps.getD 7 undef, .pointer (some ⟨b9,0,none⟩),undef,undef,undef,undef,undef,undef,undef,undef,undef]:=by rw [← hA]; rfl
 have hA2:AJ.defers=dDone S.Wg:=by rw [← hA]; simp [Act.put,Act.eval]
 clear hA
 have hS:St ⟨g, [], [],14,none⟩ (dDone S.Wg) [(0,one (.pointer (some ⟨S.Wg,0,none⟩))),(1,bJ (.agg 3) (ch nn nn F)),(2,bJ .one (one (.int .u64 (p:Nat)))),(3,bJ .one (one (slV (some S.C) n cap))),(4,bJ .one (one (.int .i64 (i:Nat))))] [] AJ g:=by
  refine St.start (by rw [hA1]; rfl) hA2 (fun b hb=>(by cases hb)) ?_
  rw [tr]
  exact .cons (by rw [hA1]; rfl) (.cons (by rw [hA1]; exact h1) (.cons (by rw [hA1]; exact h10) (.cons (by rw [hA1]; exact h7) (.cons (by rw [hA1]; exact h9) .nil))))
 refine wpU_region_any (R:=none) (s:=9) (AH:=fun rest a _=>UW S.C i p r (dDone S.Wg) rest a) bL ⟨.inl Z,fun o ho=>Array.all_eq_true'.1 (show (opsW.all fun o=>plainK o.op)=true by kernel_rfl) o ho⟩ Z (by simp [baseD]) (fun rest a w hU => .stop fun w₁ _ => ?_) (yB 9 Y Y Y (rW g [] (dDone S.Wg) _ S.C i n cap nn p r F hi hR) hS)
 unfold AtStore
 rw [hP,hty,hC]
 refine ⟨rfl,_,fun w c hc hs => ?_,rest_go hU⟩
 rw [store_step hU.s13 hU.s11 hc hs]
 unfold put2 ev2
 rw [hpv]
end Tor.Co
end
section
namespace Tor.Co
open Go Go.Conc Go.ConcN Go.RowKit Go.Conc.Lib Go.ConcR.Gen Go.ConcN.Gen Go.Proofs
open Go.ConcR (KK wgBlock WgAt stA smA rd wr mk DC0)
structure GoodX (d:DD) (a:Act) (w:World) (nn:Nat) (F:Nat→Nat→Int) (ps rs:Nat→Nat) (b7 cap:Nat) (O:List Nat):Prop where
 sz:a.tmps.size=40
 df:a.defers = []
 sml:d.n<2147483648
 eC:d.eC=50
 e9:d.e9=3
 e10:d.e10=47
 hidC:d.C∈O
 pv : ∀ i,i<d.n→d.pv i=(.int .u64 (ps i:Nat), .int .u64 (rs i:Nat))
 bx : ∀ i,i<d.n→d.bx i=(.int .i64 (i:Nat), .int .u64 (ps i:Nat))
 res : ∀ i,i<d.n → @Ok noAsk Tryz.prog 21 [ch nn nn F,one (.int .u64 (ps i:Nat))] (bv [one (.agg #[.int .u64 (ps i:Nat), .int .u64 (rs i:Nat)]),one (.int .i64 0)])
 s1:(bJ (.agg 3) (ch nn nn F)).p (a.tmps.getD 1 undef) (Tor.hid O (view w))
 s6:(slT .one d.n fun q=>one (.int .u64 (ps q:Nat))).p (a.tmps.getD 6 undef) (Tor.hid O (view w))
 s7:a.tmps.getD 7 undef = .pointer (some ⟨b7,0,none⟩)
 h7:w.heap[b7]? = some (.cells #[slV (some d.C) d.n cap] 46 (0,0))
 ne:b7≠d.C
 pay : ∃ c,w.heap[d.C]? = some (.cells c 50 (0,0))∧c.size=2*d.n
def detG (d:DD) (a:Act) (w:World):Prop := ∃ nn F ps rs b7 cap O,GoodX d a w nn F ps rs b7 cap O
def detA (a a':Act):Prop:=a'.tmps.size=40∧a'.defers = []∧a'.tmps.getD 2 undef=a.tmps.getD 2 undef∧a'.tmps.getD 7 undef=a.tmps.getD 7 undef
theorem GoodX.grow {d:DD} {a:Act} {w w₁:World} {nn:Nat} {F:Nat→Nat→Int} {ps rs:Nat→Nat} {b7 cap:Nat} {O:List Nat} (h:GoodX d a w nn F ps rs b7 cap O) (k:Grow w w₁):GoodX d a w₁ nn F ps rs b7 cap O:=by
 have keep : ∀ {b:Nat} {o:Obj},w.heap[b]? = some o→w₁.heap[b]? = some o:=fun {b o} e=>(k.block b (Array.getElem?_eq_some_iff.1 e).1).trans e
 obtain ⟨c,h1,h2⟩:=h.pay
 exact { h with s1:=(bJ _ _).mono (gA (Ext.view k)) h.s1,s6:=(slT _ _ _).mono (gA (Ext.view k)) h.s6,h7:=keep h.h7,pay:=⟨c,keep h1,h2⟩ }
noncomputable def detT:Piece where
 c:=detC
 z:=detL
 good:=detG
 after:=detA
 grow:=fun ⟨nn,F,ps,rs,b7,cap,O,h⟩ k=>⟨nn,F,ps,rs,b7,cap,O,h.grow k⟩
 pays:=fun {d a w} ⟨nn,F,ps,rs,b7,cap,O,h⟩ _=>by obtain ⟨c,h1,h2⟩:=h.pay;exact ⟨c,by rw [h.eC]; exact h1,h2⟩
theorem Scr_as (S:Ses) (r:Nat) : ∃ St, ∀ g,Scr S r g=LGo S.P true S.ty S.Wg St g:=by cases r <;> exact ⟨_,fun _=>rfl⟩
section
variable {d:DD} {a:Act} {ĝ : World} {nn:Nat} {F:Nat→Nat→Int} {ps rs:Nat→Nat} {b7 cap:Nat} {O:List Nat} {b:Frame} {k:List Item} {cs:List Frame} {S:Ses} {Wg:Nat}
structure SesD (S:Ses) (d:DD) (a0:Act) (ĝ : World) (Wg:Nat) (b:Frame) (k:List Item) (cs:List Frame):Prop where
 P:S.P=Tryz.prog
 ty:S.ty=Tryz.link.tWg
 eWg:S.Wg=Wg
 n:S.n=d.n
 C:0<d.n→S.C=d.C
 eC:S.eC=d.eC
 e9:S.e9=d.e9
 e10:S.e10=d.e10
 pv:S.pv=d.pv
 bx:S.bx=d.bx
 child:S.child=fun b9 b10=>born Tryz.prog (callD a0 Wg b9 b10)
 Anch:S.Anch=fun g => ∃ a1,RS a0 Wg d.n d.n a1∧AnchW Tryz.link Wg (b.at a1 (.inRegion ops13 [0] :: .code detL :: k)) cs g
 vis : ∀ gg,Sees S gg → ∀ b' c e f,c ≠ #[] → ĝ.heap[b']? = some (.cells c e f)→(0<d.n→b'≠d.C)→gg.heap[b']? = some (.cells c e (0,c.size))
theorem SesD.sees {a0:Act} (s:SesD S d a0 ĝ Wg b k cs) (hO:d.C∈O) {gg:World} (h:Sees S gg):Hp.sees (Tor.hid O (view ĝ)) (view gg):=fun b' c T f hc e=>by
 obtain ⟨h1,h2⟩:=cY e
 exact ⟨_,fF (s.vis gg h b' c T f hc (dJ h2) fun _ e=>h1 (e▸hO))⟩
theorem piece_scr {a0:Act} (s:SesD S d a0 ĝ Wg b k cs) (h:GoodX d a0 ĝ nn F ps rs b7 cap O) (hb:b.roundOf=none) (hk:b.kind ≠ .early) : ∀ r,r≤d.n → ∀ a1,RS a0 Wg d.n (d.n - r) a1 →
  Scr S r (G (b.atR a1 (.code rndC :: .inLoop rndC :: .inBlock 0 :: .code (.seq (.region 13 ops13 false) detL) :: k)) cs):=by
 have hsm:=h.sml
 intro r
 induction r with
 | zero =>
  intro _ a1 h1
  unfold Scr
  rw [s.P,s.ty,s.eWg,s.Anch]
  exact head hb hk X h1 (Nat.le_refl _) (fun hlt=>absurd hlt X) fun _ a' h'=>(reg13 hb hk h'.s8).mono fun g hg=>hg.mono fun g hg=>⟨a',h',hg⟩
 | succ r ih =>
  intro hr a1 h1
  obtain ⟨St,hSt⟩:=Scr_as S r
  unfold Scr
  rw [s.P,s.ty,s.eWg,s.n]
  refine head hb hk X h1 X (fun hlt a2 h2=>LGo.stop ⟨rfl,fun gg hsee => ?_⟩) fun he=>absurd he X
  rw [s.P]
  letI:Kc:=noAsk
  refine @reg9 noAsk true b _ cs a0 a2 Wg d.n (d.n - (r+1)) ps gg _ hb hk h2 hlt (Thaw.thaw (s.sees h.hidC hsee) h.s6) fun a3 w3 b9 b10 h3 e9 e10 hne k9 k10 => .stop fun w4 hg => ?_
  refine ⟨b9,b10,hne,?_,?_,?_,rfl⟩
  ·rw [s.bx,h.bx _ hlt,s.e9,h.e9]
   exact (hg.block b9 (Array.getElem?_eq_some_iff.1 k9).1).trans k9
  ·rw [s.bx,h.bx _ hlt,s.e10,h.e10]
   exact (hg.block b10 (Array.getElem?_eq_some_iff.1 k10).1).trans k10
  ·rw [s.P,s.ty,s.eWg]
   refine reg10 hb hk h3 (reg11 hb hk (h3.put X) ?_ ?_ s.P (by rw [s.child]) fun a4 h4 => ?_)
   ·rw [aO X]; exact e9
   ·rw [aO X]; exact e10
   rw [hSt,s.P,s.ty,s.eWg]
   refine LGo.calm Z (fun _=>sG_rend) (reg12 hb hk X h4 fun a5 h5 => ?_)
   have:=ih X a5 (by rw [show d.n - r=d.n - (r+1)+1 by omega]; exact h5)
   rw [hSt,s.P,s.ty,s.eWg] at this
   exact this
theorem cell_ptr {w:World} {b':Nat} {v:Value} {T:TypeId} {f:Nat × Nat} (h:w.heap[b']? = some (.cells #[v] T f)):(bJ .one (one v)).p (.pointer (some ⟨b',0,none⟩)) (view w) :=
 ⟨b',0, #[v],T,f,v,rfl,fF h,rfl,rfl⟩
theorem piece_child {a0:Act} (s:SesD S d a0 ĝ Wg b k cs) (h:GoodX d a0 ĝ nn F ps rs b7 cap O):ChildOk S:=by
 intro i hi b9 b10 g h9 h10 hsee
 rw [s.n] at hi
 rw [s.bx,h.bx i hi] at h9 h10
 have h7:=s.vis g hsee b7 _ _ _ (by simp) h.h7 (fun _=>h.ne)
 rw [s.P]
 refine @child_go noAsk S a0 b9 b10 i d.n cap nn (ps i) (rs i) F g hi s.P s.ty (s.eC.trans h.eC) (by rw [s.pv]; exact h.pv i hi) (by rw [s.child,s.eWg]) (h.res i hi) (Thaw.thaw (s.sees h.hidC hsee) h.s1) ?_ (cell_ptr h9) (cell_ptr h10)
 rw [h.s7,s.C X]
 exact cell_ptr h7
theorem piece_anch {a0:Act} (s:SesD S d a0 ĝ Wg b k cs) (hF:S.Fin=fun g => ∃ a',detA a a'∧g=G (b.atR a' (.code detL :: k)) cs) (h2:a0.tmps.getD 2 undef=a.tmps.getD 2 undef) (h7:a0.tmps.getD 7 undef=a.tmps.getD 7 undef) (hb:b.roundOf=none) :
  ∀ g,S.Anch g→g.status = .running∧LGo Tryz.prog true Tryz.link.tWg Wg (W1 Tryz.prog Tryz.link.tWg Wg S.Fin S.Anch) g:=by
 intro g hg
 rw [s.Anch] at hg ⊢
 obtain ⟨a1,hR,hA⟩:=hg
 refine ⟨?_,?_⟩
 ·obtain ⟨T,rfl,_⟩:=hA;rfl
 ·have e:(ops13[0]?).bind (·.dst)=some 35:=by kernel_rfl
  refine (waitRound (Ret:=S.Fin) Tryz.wgLib ?_ hA).mono fun g hg=>hg.mono fun g hg=>⟨a1,hR,hg⟩
  rw [e, ← Frame.atR_of_none hb]
  refine LGo.calm Z (fun _=>sG_rend) (.stop ?_)
  rw [hF]
  have hR':=hR.put (d:=35) (v := .tuple #[]) X
  exact ⟨_,⟨hR'.sz,hR'.df,(hR'.kp 2 X).trans h2,(hR'.kp 7 X).trans h7⟩,rfl⟩
theorem run_alloc (a:Act) (w:World) {o:Oper} (hop:o.op = .alloc 112):(execOp a.eval o).run Tryz.prog w = .ok (.value (.pointer (some ⟨w.heap.size,0,none⟩))) (w.alloc (wgBlock Tryz.link.tWg 0 0))∧(execOp a.eval o).events Tryz.prog w #[] = #[]:=by
 have h1:=Tryz.zeroValue112
 have h2:=Tryz.sizeOf112
 have h3:=Tryz.isAgg112
 have h4:=Tryz.underlying112
 refine ⟨?_,?_⟩
 ·unfold execOp
  simp only [hop]
  simp [go_sem,Instr.alloc,h1,h2,h3,h4]
  rfl
 ·unfold execOp
  simp only [hop]
  simp [go_sem,Instr.alloc,h1,h2,h3,h4]
theorem GoodX.put8 (h:GoodX d a ĝ nn F ps rs b7 cap O) (v:Value):GoodX d (a.put (some 8) v) ĝ nn F ps rs b7 cap O :=
 { h with sz:=(put_size _ _ _).trans h.sz,df:=(put_defers _ _ _).trans h.df,s1:=by rw [aO X]; exact h.s1,s6:=by rw [aO X]; exact h.s6,s7:=by rw [aO X]; exact h.s7 }
theorem detT_ok:PieceOk Tryz.prog Tryz.link.tWg detT:=by
 refine ⟨fun ⟨nn,F,ps,rs,b7,cap,O,h⟩=>h.sml,?_⟩
 rintro d a ĝ ⟨nn,F,ps,rs,b7,cap,O,h⟩ b k cs hb hk
 have hsm:=h.sml
 let rest:Code := .seq (.seq (.region 7 ops7 false) (.block 0 (.loop rndC))) (.seq (.region 13 ops13 false) detL)
 refine ⟨G (b.atR a (.inRegion ops6 [0] :: .code rest :: k)) cs,fun W=>G (b.atR (a.put (some 8) (.pointer (some ⟨W,0,none⟩))) (.inRegion ops6 [] :: .code rest :: k)) cs,?_,rfl,fun w => ?_,fun Wg => ?_⟩
 ·rw [show (Item.code detT.c) = .code (.seq (.region 6 ops6 false) rest) from congrArg _ detC_eq]
  exact .step Z (fun _=>sG_seq) (.step Z (sG_reg (l := [0]) Y) .refl)
 ·obtain ⟨o,ho,hop,hd,hg⟩ : ∃ o,ops6[0]? = some o∧o.op = .alloc 112∧o.dst=some 8∧o.guard=none:=by
   dsimp only [ops6,opsC,fstC,sndC,detC,bodyD,Tryz.f40,Option.getD_some]
   exact ⟨_,rfl,rfl,rfl,rfl⟩
  letI:Kc:=noAsk
  obtain ⟨h1,h2⟩:=run_alloc a w hop
  have:=sG_val (P:=Tryz.prog) (m:=true) (R:=none) (b:=b) (k := .code rest :: k) (cs:=cs) (rest := []) (.inl Z) ho (by simp [Region.wanted,hg]) hb hk h1
  rw [this,h2,hd]
  simp [seen_none]
 obtain ⟨a0,ha0⟩ : ∃ a0,a0=a.put (some 8) (.pointer (some ⟨Wg,0,none⟩)):=⟨_,rfl⟩
 have h0:GoodX d a0 ĝ nn F ps rs b7 cap O:=ha0▸h.put8 _
 have k2:a0.tmps.getD 2 undef=a.tmps.getD 2 undef:=by rw [ha0,aO X]
 have k7:a0.tmps.getD 7 undef=a.tmps.getD 7 undef:=by rw [ha0,aO X]
 have k8:a0.tmps.getD 8 undef = .pointer (some ⟨Wg,0,none⟩):=by rw [ha0,bm (by rw [h.sz]; omega)]
 dsimp only
 rw [← ha0]
 refine ⟨fun b9 b10=>born Tryz.prog (callD a0 Wg b9 b10),fun g => ∃ a1,RS a0 Wg d.n d.n a1∧AnchW Tryz.link Wg (b.at a1 (.inRegion ops13 [0] :: .code detL :: k)) cs g,?_⟩
 intro S s1 s2 s3 s4 s5 s6 s7 s8 s9 s10 s11 s12 s13 s14
 have s:SesD S d a0 ĝ Wg b k cs:=⟨s1,s2,s3,s4,s5,s6,s7,s8,s9,s10,s11,s12,s14⟩
 refine ⟨?_,piece_child s h0,fun g hg => ?_⟩
 ·obtain ⟨St,hSt⟩:=Scr_as S S.n
  obtain ⟨x,cp,e6,_,_,_⟩:=h0.s6
  rw [hSt,s1,s2,s3]
  refine LGo.calm Z (fun _=>sG_rend) (LGo.calm Z (fun _=>sG_seq) (LGo.calm Z (fun _=>sG_seq) (reg7 hb hk h0.sz h0.df k8 e6 fun a1 h1 => ?_)))
  refine LGo.calm Z (fun _=>sG_block) (LGo.calm Z (fun _=>sG_loop) ?_)
  have:=piece_scr s h0 hb hk d.n (Nat.le_refl _) a1 (by rw [Nat.sub_self]; exact h1)
  rw [← s4,hSt,s1,s2,s3] at this
  exact this
 ·have:=piece_anch s s13 k2 k7 hb g (by rw [s12]; exact hg)
  rw [s12] at this
  exact this
end
end Tor.Co
end
section
namespace Tor.Co
open Go Go.Conc Go.RowKit
theorem wpX_ask {P:Program} {T:Piece} {Q:Exit→Act→World→Prop} {d:DD} {a:Act} {w:World} (hg:T.good d a w) (h : ∀ a' w',T.after a a'→AfterW d w w' → @WpX (pieceK T) P none T.z Q a' w') : @WpX (pieceK T) P none T.c Q a w :=
 fun m b k cs Stop hb hk hc => @GoI.ask (pieceK T) P m Stop b a k cs w T.c T.z (fun a' w'=>T.after a a'∧AfterW d w w') hb hk ⟨rfl,rfl,d,hg,fun _ _ h1 h2=>⟨h1,h2⟩⟩ fun a' w' hR=>h a' w' hR.1 hR.2 m b k cs Stop hb hk hc
theorem top_at [Kc] {P:Program} {f:FuncId} {fn:Func} {c:Code} {args:Array Value} {w:World} {R:Value→World→Prop} (hf:P.funcs[f]? = some fn) (hb:fn.body=some c) (hi:P.inits.idxOf? f=none)
  (h:WpX P none c (bodyX P fn fun | .returned v,w=>R v w | _,_=>False) { tmps:=args ++ Array.replicate (fn.ntmps - args.size) undef,defers := [] } w):GoI P true (AtRet P R) (G (Frame.enter P f args .normal) []) w:=by
 let b:Frame := { (default:Frame) with fn:=f,kind := .normal }
 have henter:Frame.enter P f args .normal=b.atR { tmps:=args ++ Array.replicate (fn.ntmps - args.size) undef,defers := [] } [.code c]:=by
  simp [Frame.enter,Frame.atR,hf,hb,b]; rfl
 rw [henter]
 have ret : ∀ (a:Act) (w:World) (todo:List Item),(a.defers = [] ∧ ∀ w₁,Grow w w₁ → ∃ v,(results fn a.tmps).run P w₁ = .ok v w₁∧R v w₁)→GoI P true (AtRet P R) (G { b.atR a todo with mode := .returning } []) w:=fun a w todo ⟨hd,h⟩=>by
  obtain ⟨ts,ds⟩:=a
  simp only at hd
  subst hd
  exact .stop fun w₁ h₁=>⟨b,fn,ts,todo,rfl,rfl,hf,hi,h w₁ h₁⟩
 refine h true b [] [] _ Z (by simp [b]) fun e a' w' q => ?_
 cases e with
 | normal => exact .calm Z (fun _ => sG_end Z) (ret _ _ _ q)
 | ret => exact ⟨fun _ todo => ret _ _ _ q, fun h => by cases h⟩
 | _ => exact q.elim
end Tor.Co
end
section
namespace Tor
open Go Go.RowKit Go.Proofs
variable [Tor.Co.Kc]
abbrev qE (l:List Nat):VT:=slT .one l.length (fun q=>one (.int .u64 (l.getD q 0:Nat)))
def jg (l:List Nat) (k:Nat):Nat:=prN k (fun q=>l.getD q 0)
theorem tt {l:List Nat} (hl : ∀ q,l.getD q 0<2^64) : ∀ k,jg l k≤2^(64*k)
 | 0 => Nat.le_refl _
 | k + 1 => by
  have h1:=tt hl k
  have h2:=hl k
  show jg l k*l.getD k 0≤_
  rw [Nat.mul_succ,Nat.pow_add]
  exact Nat.mul_le_mul h1 (Nat.le_of_lt h2)
theorem rX {l:List Nat} (hl : ∀ q,l.getD q 0<2^64) {k:Nat} (hk:k≤24):ci (jg l k:Int):=gL (n:=2^1600) (by
 rw [Int.natAbs_natCast]
 exact Nat.le_trans (tt hl k) (Nat.pow_le_pow_right (n:=2) (i:=64*k) (j:=1600) U X)) (Nat.pow_lt_pow_right (a:=2) (m:=1600) (n:=2048) U U)
theorem fT {x:Nat} (h:x<2^64):ci (x:Int):=gL (n:=2^64) (by rw [Int.natAbs_natCast]; exact Nat.le_of_lt h) V
theorem gtc {x y:Int} : (0<cT x y)↔y<x:=by unfold cT;split <;> (try split) <;> omega
theorem uI (l:List Nat) (k:Nat):((jg l (k+1):Nat):Int)=(jg l k:Int)*(l.getD k 0:Int):=by
 show ((jg l k*l.getD k 0:Nat):Int)=_
 exact Int.natCast_mul _ _
attribute [local irreducible] J PJ aB one slT bJ bB bv exT cd eP aQ aI slV VT.le Ret bN dD ek
attribute [local irreducible] aW
theorem qF (u:Nat) (hu:u<18446744073709551616):Ok Tryz.prog 91 [one (.int .u64 (u:Nat))] (aW (u:Int)):=by
 have h1:=io (u / 4294967296:Nat) X X
 have h2:=io 4294967296 U U
 have h3:=io (u % 4294967296:Nat) X X
 have s1:ci ((u / 4294967296:Nat):Int):=fT X
 have s2:ci (4294967296:Int):=fT (x:=4294967296) U
 have s3:ci ((u % 4294967296:Nat):Int):=fT X
 have hm:=fN ((u / 4294967296:Nat):Int) 4294967296 s1 s2
 have ha:=fM (((u / 4294967296:Nat):Int)*4294967296) ((u % 4294967296:Nat):Int) (by
  have:((u / 4294967296:Nat):Int)*4294967296=((u / 4294967296*4294967296:Nat):Int):=by omega
  rw [this]; exact fT X) s3
 refine Ok.enter Tryz.func91 Z Tryz.ntmps91 Z (fun w O => ?_)
 refine ae (ai ?_)
 refine aU (T:=28) Z (ltN Z) (fun b2 => ?_)
 refine AT (aa (ae (ai (AQ Z (AP (fd Z) (AP (d9 Z X X) ?_))))))
 refine AP (ao (h1) Z ⟨A,AU⟩) ?_
 refine AP (ao (h2) Z ⟨A,AU⟩) ?_
 refine AP (ao (hm) Z ⟨A,A,AU⟩) ?_
 refine aU (T:=28) Z (ltN Z) (fun b3 => ?_)
 refine au 0 Z Z Z Z Z (leN Z) Z (AT (aa (ae (bG 6 bL Y U (AP (am 0 Z Z Z) (AQ Z (AP (rf Z X) (AP (d9 Z X X) ?_))))))))
 refine AP (ao (h3) Z ⟨A,AU⟩) ?_
 refine AP (ao (ha) Z ⟨A,A,AU⟩) ?_
 refine AT (au 1 Z Z Z Z Z (leN Z) Z (AT (aa (aH ?_))))
 refine aX Tryz.results91 (.cellB 1 Z Z Z (nG X))
theorem nO (l:List Nat) (b:Int) (hl : ∀ q,l.getD q 0<2^64) (hk:l.length≤24) (hb:jD b):Ok Tryz.prog 59 [qE l,aW b] (one (.bool (decide (b+b<(jg l l.length:Int))))):=by
 have h1:=io 1 U U
 have had:=fM b b (dU hb) (dU hb)
 have hc:=iZ (jg l l.length:Int) (b+b)
 have hgt:=gtc (x:=(jg l l.length:Int)) (y:=b+b)
 refine Ok.enter Tryz.func59 Z Tryz.ntmps59 Z (fun w O => ?_)
 refine ae (ai ?_)
 refine ji Z Z (ltN Z) (fun b3 => ?_)
 refine AR Z (AT (aa (ae (ai ?_))))
 refine AP (ao (h1) Z ⟨A,AU⟩) ?_
 refine aU (T:=28) Z (ltN Z) (fun b5 => ?_)
 refine au 0 Z Z Z Z Z (leN Z) Z (AT (aa (ae (ae (ai (AQ Z (AP (bh Z) (AQ Z (AT ?_)))))))))
 refine aa (aw (cD (Γ' := [(3,_),(4,_),(5,_),(9,_),(10,_),(11,_)]) AK (SubM.refl _) ?_))
 refine bS (σ:=Nat) (Γk := [(3,_),(4,_),(5,_),(9,_),(10,_)]) AK (fun i => [(11,one (.int .i64 (i:Nat)))]) (fun i M0=>(M0.set 0 (aQ b5 28 2 [(0, .agg 2,aW (jg l i:Int))]))) (fun i=>i≤l.length) (fun i=>l.length - i) (0) (Nat.zero_le _) AL (.keep AO (.keep AO (.nil))) (fun i hi => ?_)
 refine co (Γ' := [(11,_),(3,_),(4,_),(5,_),(9,_),(10,_)]) (M' := [_,_]) Z Z ?_
 by_cases hi:i<l.length
 ·have hw:=qF (l.getD i 0) (hl i)
  have hm:=fN (jg l i:Int) (l.getD i 0:Int) (rX hl X) (fT (hl i))
  have hs:=uI l i
  refine ae (ai (AP (sT X (bH Z Z)) (AT (aa (ae (aP Z (az (aa (ae ?_)))))))))
  refine aw (ae (ai (AP (aR Z Z X) (AP (bj Z) (AR Z (AT (aa (bG 4 bL Y U (AP (am 0 Z Z Z) ?_)))))))))
  refine AQ Z ?_
  refine AP (ao (hw) Z ⟨A,AU⟩) ?_
  refine AP (ao (hm) Z ⟨A,A,AU⟩) ?_
  refine AT (au 0 Z Z Z Z Z (leN Z) Z (AT (aK (aa (ai (AP (bV _ 1 Z Z X) (AQ Z (AT ?_))))))))
  refine aZ (i+1) (hi) X AL (.keep AO (.keep AO (.nil)))
 ·have he:i=l.length:=by omega
  subst he
  generalize cT (jg l l.length:Int) (b+b)=cc at *
  refine ae (ai (AP (sF X (bH Z Z)) (AT (aa (ae (aE Z (a8 (ay (ay ?_)))))))))
  refine aM (aa (ae (bG 6 bL Y U (AP (am 0 Z Z Z) (AP (am 1 Z Z Z) (AP (am 1 Z Z Z) ?_))))))
  refine AP (ao (had) Z ⟨A,A,AU⟩) ?_
  refine AP (ao (hc) Z ⟨A,A,AU⟩) ?_
  refine AP (dk Z Z) (AT (AR Z (AT (aa (aH ?_)))))
  refine aX Tryz.results59 (.tmp Z (av (by congr 1;exact decide_eq_decide.2 hgt)))
end Tor
end
section
namespace Tor
open Go Go.RowKit Go.Proofs
variable [Tor.Co.Kc]
theorem oU {p:Nat→Bool} {n:Nat} : bf p n<2147483648:=by
 have:=kg p (min n 2147483648)
 show ir p (min n 2147483648)<_
 omega
theorem y4 {p:Nat→Bool} {n:Nat} (h:0<n):bf p n<n:=by
 have:=kg p (min n 2147483648)
 show ir p (min n 2147483648)<_
 omega
theorem qG {sv:Option Nat} {T:TypeId} {cap x:Nat} {l:List Nat} : Own.le (aI sv T .one cap (l.length+1) (fun q=>if q<l.length then one (.int .u64 (l.getD q 0:Nat)) else one (.int .u64 (x:Nat)))) (aI sv T .one cap (l ++ [x]).length (fun q=>one (.int .u64 ((l ++ [x]).getD q 0:Nat)))):=by
 refine mi (by simp) (fun q hq => ?_)
 by_cases h:q<l.length
 ·rw [if_pos h]; simp only [List.getD]; rw [List.getElem?_append_left h]
 ·have:q=l.length:=by omega
  subst this;rw [if_neg h]; simp [List.getD]
theorem lF:VT.le (one (.slice none 0 0)) (qE []):=gq
theorem yC {l m:List Nat} (h:l=m):VT.le (qE l) (qE m):=h▸VT.le_refl _
attribute [local irreducible] J PJ aB one slT bJ bB bv exT cd eP aQ aI slV VT.le Ret bN dD ek
attribute [local irreducible] aW
end Tor
end
section
namespace Tor
open Go Go.RowKit Go.Proofs
variable [Tor.Co.Kc]
abbrev U64:=Fin 18446744073709551616
def uJ (x:U64):Value := .int .u64 (x.val:Nat)
def dnL (c k:Nat):List U64:=(List.range k).map fun i=>⟨(c - 1 - i) % 18446744073709551616,Nat.mod_lt _ U⟩
theorem iS {c k:Nat} : dnL c (k+1)=dnL c k ++ [⟨(c - 1 - k) % 18446744073709551616,Nat.mod_lt _ U⟩]:=by simp [dnL,List.range_succ]
theorem yD {c k:Nat} : (dnL c k).length=k:=by simp [dnL]
theorem mP {p:Nat→Bool} {c:Nat} (hc:c<18446744073709551616) : ∀ k,k≤c→(∀ y∈dnL c k,p y.val=false)→ir p c=ir p (c - k)
 | 0, _, _ => rfl
 | k + 1, hk, h => by
  rw [mP hc k X (fun y hy=>h y (by rw [iS]; exact List.mem_append.2 (.inl hy)))]
  have h1:=h ⟨(c - 1 - k) % 18446744073709551616,Nat.mod_lt _ U⟩ (by rw [iS]; exact List.mem_append.2 (.inr (List.mem_singleton.2 Z)))
  have h1:p ((c - 1 - k) % 18446744073709551616)=false:=h1
  rw [Nat.mod_eq_of_lt X] at h1
  rw [show c - k=(c - 1 - k)+1 by omega,ir,if_neg (by rw [h1]; simp),show c - (k+1)=c - 1 - k by omega]
attribute [local irreducible] J PJ aB one slT bJ bB bv exT cd eP aQ aI slV VT.le Ret bN dD ek
theorem xa (n:Nat) (hn:n<18446744073709551616):OkY Tryz.prog 166 [bJ .one (one (.int .u64 (n:Nat)))] uJ (fun xs=>xs=dnL (min n 2147483648) (min n 2147483648)) (fun pre => ∃ k,k<min n 2147483648∧pre=dnL (min n 2147483648) (k+1)) (min n 2147483648):=by
 refine OkY.enter Tryz.func166 Z Tryz.ntmps166 Z (fun w0 l J Jx B hA hAx hY h0 => ?_)
 refine ae (ai (AP (bj Z) (AP (uX Z Z) (AR Z (AT (aa (aw ?_)))))))
 obtain ⟨c,hc⟩ : ∃ c:Nat,c=min n 2147483648:=⟨_,rfl⟩
 have hcl:c<18446744073709551616:=by omega
 have hci:(min (n:Int) 2147483648)=(c:Int):=by omega
 rw [hci]
 rw [← hc] at hY ⊢
 refine yY [(0,one (.func (.yield l) #[] #[])),(3,one (.int .u64 (c:Nat)))] (.cons Z A (.cons Z A .nil)) (.cons (.cons .nil)) (fun w1 hw1 => ?_)
 refine cU (σ:=Nat × World) (fun s => [(0,one (.func (.yield l) #[] #[])),(3,one (.int .u64 ((c - s.1:Nat):Int)))]) (fun s => [yO s.2]) (fun s=>s.1≤c∧SameW w1 s.2∧J (dnL c s.1) s.2) (fun s=>c - s.1) (0,w1)
  ⟨Nat.zero_le _,SameW.refl _,pK hA h0 hw1⟩ (dG.refl _) (SubM.refl _) (fun s hs => ?_)
 obtain ⟨k,W⟩:=s
 obtain ⟨hk,hsw,hJ⟩:=hs
 dsimp only at hk hsw hJ ⊢
 by_cases hlt:k<c
 ·have hv:one (.int .u64 ((c - k - 1:Nat):Int))=one (uJ ⟨(c - 1 - k) % 18446744073709551616,Nat.mod_lt _ U⟩):=by
   have e:(c - 1 - k) % 18446744073709551616=c - k - 1:=by omega
   show _=one (.int .u64 (((c - 1 - k) % 18446744073709551616:Nat):Int))
   rw [e]
  refine ae (ae (ai ?_))
  refine AQ Z (AP (sT X (dk Z Z)) (AT ?_))
  refine aa (aP Z (az (aa (ae (aw (ae ?_))))))
  refine vA (m:=3) ⟨(c - 1 - k) % 18446744073709551616,Nat.mod_lt _ U⟩ [(0,one (.func (.yield l) #[] #[])),(3,one (.int .u64 ((c - k:Nat):Int)))] hY hA hsw hJ (by rw [yD]; exact hlt) Z Z (.cons (.cons .nil)) ?_ (fun W' hJ' hw' => ?_) (fun W' hx' => ?_)
  ·refine AQ Z (AQ Z (AP (jy 1 Z Z X X) (AT ?_)))
   exact ⟨rfl,rfl,rfl,congrArg some hv, .cons Z A (.cons Z A .nil)⟩
  ·rw [← iS] at hJ'
   refine AP (dl Z) (AT (aa (aE Z (az (aK (aa (ai (AQ Z (AP (jy 1 Z Z X X) ?_)))))))))
   refine AR Z (AT ?_)
   refine aZ (k+1,W') ?_ ?_ ?_ (SubM.refl _)
   ·exact ⟨hlt,hw',hJ'⟩
   ·show c - (k+1)<c - k;omega
   ·exact .cons Z A (.cons Z (av (by rw [Nat.sub_sub])) .nil)
  ·rw [← iS] at hx'
   refine AP (dl Z) (AT (aa (aP Z (aH (bq (aL (aL (bq ?_))))))))
   exact pM Z hAx hx' ⟨k,hlt,rfl⟩ (SameW.refl _)
 ·obtain rfl:k=c:=by omega
  refine ae (ae (ai (AQ Z (AP (sF X (dk Z Z)) (AT (aa (aE Z (a8 (ay ?_)))))))))
  refine ay (aM ?_)
  exact pL Z hA hJ Z hsw
theorem xb (n:Nat) (hn:n<18446744073709551616):Ok Tryz.prog 151 [jd 166 [bJ .one (one (.int .u64 (n:Nat)))]] (one (.int .u64 (bf a7 n:Nat))):=by
 refine Ok.enterR Tryz.func151 Z Tryz.ntmps151 Z (fun w O => ?_)
 refine ae (ai ?_)
 refine aU (T:=47) Z (ltN Z) (fun b2 => ?_)
 refine AT (aa (ae (ae (ai (AQ Z (AT (aa (aw ?_))))))))
 refine sA (α:=U64) (σ:=Nat) (xa n hn) (fun v => [aQ b2 47 1 [(0, .one,one (.int .u64 (v:Nat)))]]) (fun pre v=>v=0 ∧ ∀ x∈pre,a7 x.val=false)
  (fun e pre v=>e=none ∧ ∃ init x,pre=init ++ [x]∧v=x.val∧a7 x.val=true ∧ ∀ y∈init,a7 y.val=false) 0 Z Z ⟨rfl,fun x h=>by cases h⟩ (SubM.refl _) Z Z (by simp [fB,lI])
  (fun l W pre x v hv hlen => ?_) (fun xs v D hxs hv => ?_) (fun pre v D hpre hv => ?_) (fun id pre v D hpre hv=>absurd hv.1 (by simp))
 ·obtain ⟨rfl,hv⟩:=hv
  have hx:=x.isLt
  unfold uJ
  cases hp:a7 x.val with
  | true =>
   refine aw (ae (ai (AQ Z ?_)))
   refine AP (sBt (by assumption) (ao (fc _ (by assumption)) Z ⟨A,AU⟩)) ?_
   refine AT (aa (aP Z (ae (ai (AQ Z (au 0 Z Z Z Z Z (leN Z) Z (AT (aa (aH ?_)))))))))
   refine bq ?_
   exact sB (x.val:Nat) ⟨rfl,pre,x,rfl,rfl,hp,hv⟩ (SubM.refl _)
  | false =>
   refine aw (ae (ai (AQ Z ?_)))
   refine AP (sBf (by assumption) (ao (fc _ (by assumption)) Z ⟨A,AU⟩)) ?_
   refine AT (aa (aE Z (az (aK ?_))))
   exact pJ 0 ⟨rfl,fun y hy=>by rcases List.mem_append.1 hy with h | h;exact hv y h;rw [List.mem_singleton.1 h]; exact hp⟩ (SubM.refl _)
 ·have hz:bf a7 n=0:=by
   have:=mP (p:=a7) (c:=min n 2147483648) X (min n 2147483648) (Nat.le_refl _) (fun y hy=>hv.2 y (hxs▸hy))
   rw [Nat.sub_self] at this
   exact this
  refine aK (aa (ae (ai (au 1 Z Z Z Z Z (leN Z) Z (AT (aa (aH ?_)))))))
  rw [hz]
  refine lB ?_
  refine aX Tryz.results151 (.cellB 0 Z Z Z A)
 ·obtain ⟨k,hk,hpre⟩:=hpre
  obtain ⟨_,init,x,h1,rfl,h3,h4⟩:=hv
  have hz:bf a7 n=x.val:=by
   rw [hpre,iS] at h1
   obtain ⟨e1,e2⟩:=List.append_inj' h1 Z
   have e2:(⟨(min n 2147483648 - 1 - k) % 18446744073709551616,Nat.mod_lt _ U⟩:U64)=x:=by simpa using e2
   have hb:=mP (p:=a7) (c:=min n 2147483648) X k X (fun y hy=>h4 y (e1▸hy))
   have e3:x.val=min n 2147483648 - 1 - k:=by rw [← e2]; show (min n 2147483648 - 1 - k) % 18446744073709551616=_;omega
   show ir a7 (min n 2147483648)=_
   rw [hb,show min n 2147483648 - k=(min n 2147483648 - 1 - k)+1 by omega,ir,if_pos (by rw [← e3]; exact h3),e3]
  refine bq (aL ?_)
  rw [hz]
  refine lB ?_
  refine aX Tryz.results151 (.cellB 0 Z Z Z A)
theorem qH (n:Nat) (hn:n<18446744073709551616):Ok Tryz.prog 152 [one (.int .u64 (n:Nat))] (jd 166 [bJ .one (one (.int .u64 (n:Nat)))]):=by
 refine Ok.enter Tryz.func152 Z Tryz.ntmps152 Z (fun w O => ?_)
 refine ae (ai ?_)
 refine ji Z Z (ltN Z) (fun b1 => ?_)
 refine AR Z (AT (aa (ae (ai (AP (jr Z) (AR Z (AT (aa (aH ?_)))))))))
 refine fh [aQ b1 47 1 [(0, .one,one (.int .u64 (n:Nat)))]] (Kp := []) (Kp' := []) (List.Perm.refl _) (EntM.refl []) (tM.set (t:=2) Z (Ent.clo1 (Ent.ptr List.mem_cons_self List.mem_cons_self))) ?_
 refine aX Tryz.results152 (.tmp Z A)
theorem nP (n:Nat) (hn:n<18446744073709551616):Ok Tryz.prog 135 [one (.int .u64 (n:Nat))] (one (.int .u64 (bf a7 n:Nat))):=by
 refine Ok.enter Tryz.func135 Z Tryz.ntmps135 Z (fun w O => ?_)
 have h1:=qH n hn
 have h2:=xb n hn
 refine ae (ai (AR Z (AT (aa (ae (ai (AQ Z ?_)))))))
 refine AP (ao (h1) Z ⟨A,AU⟩) ?_
 refine AP (ao (h2) Z ⟨A,AU⟩) ?_
 refine AR Z (AT (aa (aH ?_)))
 refine aX Tryz.results135 (.tmp Z A)
end Tor
end
section
namespace Tor
open Go Go.RowKit Go.Proofs
variable [Tor.Co.Kc]
def pk (p:Nat→Bool) (n:Nat):Nat→Nat
 | 0 => bf p n
 | k + 1 => bf p (pk p n k)
def toU (x:Nat):U64:=⟨x % 18446744073709551616,Nat.mod_lt _ U⟩
def blL (p:Nat→Bool) (n k:Nat):List U64:=(List.range k).map fun i=>toU (pk p n i)
theorem qI {p:Nat→Bool} {n k:Nat} : blL p n (k+1)=blL p n k ++ [toU (pk p n k)]:=by simp [blL,List.range_succ]
theorem yE {p:Nat→Bool} {n k:Nat} : (blL p n k).length=k:=by simp [blL]
theorem y5 {p:Nat→Bool} {n:Nat} : ∀ k,pk p n k<2147483648
 | 0 => oU
 | k + 1 => oU
theorem tu {p:Nat→Bool} {n k:Nat} : (blL p n k).map (·.val)=(List.range k).map (pk p n):=by
 unfold blL
 rw [List.map_map]
 refine List.map_congr_left fun i _ => ?_
 have:=y5 (p:=p) (n:=n) i
 show pk p n i % 18446744073709551616=_
 omega
theorem oV {p:Nat→Bool} {n:Nat} : ∀ k,(∀ i,i<k→pk p n i≠0)→pk p n k+k≤bf p n
 | 0, _ => Nat.le_refl _
 | k + 1, h => by
  have h1:=oV k (fun i hi=>h i X)
  have h2:=h k X
  have h3:=y4 (p:=p) (n:=pk p n k) X
  show bf p (pk p n k)+(k+1)≤_
  omega
theorem qJ {b:Nat} {T:TypeId} {φ:VT} {sv:Option Nat} {l l' cap:Nat} (h:l+1=l'):Own.le (aQ b T 1 (jN [(0, .one, φ)] 0 (one (slV sv (l+1) cap)))) (aQ b T 1 [(0, .one,one (slV sv l' cap))]):=by
 subst h;exact Own.le_refl _
attribute [local irreducible] J PJ aB one slT bJ bB bv exT cd eP aQ aI slV VT.le Ret bN dD ek
theorem uK (n:Nat) (hn:n<18446744073709551616):OkY Tryz.prog 134 [bJ .one (one (.int .u64 (n:Nat)))] uJ (fun xs => ∃ k,xs=blL a7 n k∧pk a7 n k=0 ∧ ∀ i,i<k→pk a7 n i≠0)
  (fun pre => ∃ k,pre=blL a7 n (k+1) ∧ ∀ i,i<k+1→pk a7 n i≠0) 2147483648:=by
 refine OkY.enter Tryz.func134 Z Tryz.ntmps134 Z (fun w0 l J Jx B hA hAx hY h0 => ?_)
 have hb0:=nP n hn
 refine ae (ai (AP (bj Z) ?_))
 refine AP (ao (hb0) Z ⟨A,AU⟩) ?_
 refine AR Z (AT (aa (aw ?_)))
 refine yY [(0,one (.func (.yield l) #[] #[])),(3,one (.int .u64 (pk a7 n 0:Nat)))] (.cons Z A (.cons Z A .nil)) (.cons (.cons .nil)) (fun w1 hw1 => ?_)
 refine cU (σ:=Nat × World) (fun s => [(0,one (.func (.yield l) #[] #[])),(3,one (.int .u64 (pk a7 n s.1:Nat)))]) (fun s => [yO s.2]) (fun s=>(∀ i,i<s.1→pk a7 n i≠0)∧SameW w1 s.2∧J (blL a7 n s.1) s.2) (fun s=>pk a7 n s.1) (0,w1)
  ⟨fun i hi=>absurd hi (Nat.not_lt_zero _),SameW.refl _,pK hA h0 hw1⟩ (dG.refl _) (SubM.refl _) (fun s hs => ?_)
 obtain ⟨k,W⟩:=s
 obtain ⟨hk,hsw,hJ⟩:=hs
 dsimp only at hk hsw hJ ⊢
 have hlt:=y5 (p:=a7) (n:=n) k
 have hdec:=oV (p:=a7) (n:=n) k hk
 have hlt0:=oU (p:=a7) (n:=n)
 by_cases hz:pk a7 n k=0
 ·refine ae (ae (ai (AQ Z (AP (sF X (dk Z Z)) (AT (aa (aE Z (a8 (ay ?_)))))))))
  refine ay (aM ?_)
  exact pL Z hA hJ ⟨k,rfl,hz,hk⟩ hsw
 ·have hk' : ∀ i,i<k+1→pk a7 n i≠0:=fun i hi=>by
   by_cases e:i=k
   ·exact e▸hz
   ·exact hk i X
  have hv:one (.int .u64 ((pk a7 n k:Nat):Int))=one (uJ (toU (pk a7 n k))):=by
   show _=one (.int .u64 ((pk a7 n k % 18446744073709551616:Nat):Int))
   rw [Nat.mod_eq_of_lt X]
  refine ae (ae (ai ?_))
  refine AQ Z (AP (sT X (dk Z Z)) (AT ?_))
  refine aa (aP Z (az (aa (ae (aw (ae ?_))))))
  refine vA (m:=2) (toU (pk a7 n k)) [(0,one (.func (.yield l) #[] #[])),(3,one (.int .u64 (pk a7 n k:Nat)))] hY hA hsw hJ (by rw [yE]; omega) Z Z (.cons (.cons .nil)) ?_ (fun W' hJ' hw' => ?_) (fun W' hx' => ?_)
  ·refine AQ Z (AQ Z (AT ?_))
   exact ⟨rfl,rfl,rfl,congrArg some hv, .cons Z A (.cons Z A .nil)⟩
  ·rw [← qI] at hJ'
   have hb1:=nP (pk a7 n k) X
   refine AP (dl Z) (AT (aa (aE Z (az (aK (aa (ai (AQ Z ?_))))))))
   refine AP (ao (hb1) Z ⟨A,AU⟩) ?_
   refine AR Z (AT ?_)
   refine aZ (k+1,W') ?_ ?_ ?_ (SubM.refl _)
   ·exact ⟨hk',hw',hJ'⟩
   ·exact y4 X
   ·exact .cons Z A (.cons Z A .nil)
  ·rw [← qI] at hx'
   refine AP (dl Z) (AT (aa (aP Z (aH (bq (aL (aL (bq ?_))))))))
   exact pM Z hAx hx' ⟨k,rfl,hk'⟩ (SameW.refl _)
theorem xc (n:Nat) (hn:n<18446744073709551616):Ok Tryz.prog 92 [one (.int .u64 (n:Nat))] (jd 134 [bJ .one (one (.int .u64 (n:Nat)))]):=by
 refine Ok.enter Tryz.func92 Z Tryz.ntmps92 Z (fun w O => ?_)
 refine ae (ai ?_)
 refine ji Z Z (ltN Z) (fun b1 => ?_)
 refine AR Z (AT (aa (ae (ai (AP (jr Z) (AR Z (AT (aa (aH ?_)))))))))
 refine fh [aQ b1 47 1 [(0, .one,one (.int .u64 (n:Nat)))]] (Kp := []) (Kp' := []) (List.Perm.refl _) (EntM.refl []) (tM.set (t:=2) Z (Ent.clo1 (Ent.ptr List.mem_cons_self List.mem_cons_self))) ?_
 refine aX Tryz.results92 (.tmp Z A)
end Tor
end
section
namespace Tor
open Go Go.RowKit Go.Proofs
variable [Tor.Co.Kc]
def dI (l:List Nat):Nat:=l.foldl (· * ·) 1
theorem mQ (l:List Nat) (x:Nat):dI (l ++ [x])=dI l*x:=by simp [dI,List.foldl_append]
def pkB (p:Nat→Bool) (n:Nat):Nat→Nat
 | 0 => n
 | k + 1 => pk p n k
theorem xd {p:Nat→Bool} {n:Nat} : ∀ k,bf p (pkB p n k)=pk p n k
 | 0 => rfl
 | k + 1 => rfl
theorem rY {p:Nat→Bool} {n:Nat} {B:Int} : ∀ k f,(∀ i,i<k→pk p n i≠0)→(∀ i,i<k → ¬ B<(dI ((List.range i).map (pk p n)):Int)) →
  ndL p B (k+f) 1 n=(ndL p B f (dI ((List.range k).map (pk p n))) (pkB p n k)).map ((List.range k).map (pk p n) ++ ·)
 | 0, f, _, _ => by simp [pkB, dI]
 | k + 1, f, h, h' => by
  rw [show k+1+f=k+(f+1) by omega,rY k (f+1) (fun i hi=>h i X) (fun i hi=>h' i X),ndL,if_neg (h' k X),xd,if_neg (h k X),List.range_succ,List.map_append, ← mQ]
  show Option.map _ (Option.map _ (ndL p B f _ (pk p n k)))=Option.map _ (ndL p B f _ (pk p n k))
  rw [Option.map_map]
  congr 1
  funext r
  simp
theorem qK {p:Nat→Bool} {n k i:Nat} (h:i≤k):((List.range k).map (pk p n)).take i=(List.range i).map (pk p n):=by
 rw [← List.map_take,List.take_range,Nat.min_eq_left h]
theorem yF {b:Nat} {T:TypeId} : Own.le (aQ b T 1 [(0, .one,one (.slice none 0 0))]) (aQ b T 1 [(0, .one,one (slV none 0 0))]):=Own.le_refl _
attribute [local irreducible] J PJ aB one slT bJ bB bv exT cd eP aQ aI slV VT.le Ret bN dD ek
attribute [local irreducible] aW
theorem uL (n:Nat) (b:Int) (hn:n<18446744073709551616) (hb:jD b) (R:Option (List Nat)) (hR:ndL a7 (b+b) (min n 2147483648+2) 1 n=R):Ok Tryz.prog 63 [aW b,one (.int .u64 (n:Nat))] (qE (R.getD [])):=by
 have hbl:=xc n hn
 have h1:=io 1 U U
 have had:=fM b b (dU hb) (dU hb)
 have hbb:(b+b).natAbs≤2^401:=Nat.le_trans (Int.natAbs_add_le b b) (Nat.le_trans (Nat.add_le_add hb hb) V)
 have hbs:ci (b+b):=gL hbb V
 have hen:=nO [] b (fun q=>by simp) (by simp) hb
 refine Ok.enterR Tryz.func63 Z Tryz.ntmps63 Z (fun w O => ?_)
 have e1:(jg [] ([]:List Nat).length:Int)=1:=rfl
 rw [e1] at hen
 by_cases h0:b+b<1
 ·rw [decide_eq_true h0] at hen
  refine ae (ai ?_)
  refine ji Z Z (ltN Z) (fun b2 => ?_)
  refine aU (T:=58) Z (ltN Z) (fun b4 => ?_)
  refine AT (aa (ae (ae (ai (AP (am 1 Z Z Z) ?_)))))
  refine AP (ao (hen) Z ⟨(lF),A,AU⟩) ?_
  refine AT (aa (aP Z (ae (ai (au 0 Z Z Z Z Z (leN Z) Z (AT (aa (aH (aL ?_)))))))))
  have hR0:R=some []:=by rw [← hR]; show (if _ then _ else _)=_;rw [if_pos (by simpa using h0)]
  subst hR0
  refine tV ?_
  refine aX Tryz.results63 (.cellB 0 Z Z Z (lF))
 ·rw [decide_eq_false h0] at hen
  refine ae (ai ?_)
  refine ji Z Z (ltN Z) (fun b2 => ?_)
  refine aU (T:=58) Z (ltN Z) (fun b4 => ?_)
  refine AT (aa (ae (ae (ai (AP (am 1 Z Z Z) ?_)))))
  refine AP (ao (hen) Z ⟨(lF),A,AU⟩) ?_
  refine AT (aa (aE Z (az (aa (ae (ai ?_))))))
  refine aU (T:=58) Z (ltN Z) (fun b5 => ?_)
  refine AT (aa (ae ?_))
  refine jU bL Y Y ?_
  refine uxk (h1) Z ⟨A,AU⟩ Z ?_
  refine ux (fun B=>am 2 Z Z Z) Z Z ?_
  refine ux (fun B=>am 2 Z Z Z) Z Z ?_
  refine uxk (had) Z ⟨A,A,AU⟩ Z ?_
  refine ua Z (ua Z (us Z (us Z ?_)))
  refine RunU.nil (fun γ => ?_)
  refine gH (M' := [_,_,_,_,_]) Z (aa (ae (ae (ai (AQ Z ?_)))))
  refine AP (ao (hbl) Z ⟨A,AU⟩) ?_
  refine AT (aa (aw ?_))
  refine iD (ConvM.nilSl0 (T:=47) (L := .one) (φ:=fun _=>bN) _) ?_
  refine sA (α:=U64) (σ:=Option Nat × Nat × List Nat × Value) (uK n hn) (fun s => [aI s.1 47 .one s.2.1 s.2.2.1.length (fun q=>one (.int .u64 (s.2.2.1.getD q 0:Nat))),aQ (γ 7) 28 2 [(0, .agg 2,aW (b+b))],
    aQ (γ 6) 28 2 [(0, .agg 2,aW (dI s.2.2.1:Int))],aQ b5 58 1 [(0, .one,one (slV s.1 s.2.2.1.length s.2.1))],aQ b4 58 1 [(0, .one,one s.2.2.2)]])
   (fun pre s=>s.2.2.1=pre.map (·.val)∧s.2.2.2 = .slice none 0 0 ∧ ∀ i,i≤s.2.2.1.length → ¬ b+b<(dI (s.2.2.1.take i):Int))
   (fun e pre s=>e=none∧s.2.2.1=pre.map (·.val)∧s.2.2.2=slV s.1 s.2.2.1.length s.2.1∧b+b<(dI s.2.2.1:Int) ∧ ∀ i,i<s.2.2.1.length → ¬ b+b<(dI (s.2.2.1.take i):Int)) (none,0, [], .slice none 0 0) Z Z
   ⟨rfl,rfl,fun i _=>by simpa [dI] using h0⟩
   (.keep (bZ (fun q hq=>absurd hq (Nat.not_lt_zero _))) (.keep AO (.keep AO (.keep yF (.keep AO (.drop .nil)))))) Z Z (by simp [fB,lI])
   (fun l W pre x s hs hlen => ?_) (fun xs s D hxs hs => ?_) (fun pre s D hpre hs => ?_) (fun id pre s D hpre hs=>absurd hs.1 (by simp))
  ·obtain ⟨sv,cap,m,v⟩:=s
   obtain ⟨hm,hv,hl⟩:=hs
   dsimp only at hm hv hl ⊢
   subst hv
   have hx:=x.isLt
   have hml:m.length=pre.length:=by rw [hm]; simp
   have hlt:=hl m.length (Nat.le_refl _)
   rw [List.take_length] at hlt
   have hp1:dI m≤2^401:=by omega
   have hsm:ci (dI m:Int):=gL (n:=2^401) (by rw [Int.natAbs_natCast]; exact hp1) V
   have hw:=qF x.val hx
   have hmu:=fN (dI m:Int) (x.val:Int) hsm (fT hx)
   have hcm:=iZ ((dI m:Int)*(x.val:Int)) (b+b)
   have hgt:=gtc (x:=(dI m:Int)*(x.val:Int)) (y:=b+b)
   have hpr:((dI (m ++ [x.val]):Nat):Int)=(dI m:Int)*(x.val:Int):=by rw [mQ]; exact Int.natCast_mul _ _
   have hend:(m ++ [x.val])=(pre ++ [x]).map (·.val):=by rw [hm]; simp
   have hnx : ∀ i,i<(m ++ [x.val]).length → ¬ b+b<(dI ((m ++ [x.val]).take i):Int):=fun i hi=>by
    have hi:i≤m.length:=by simp at hi;omega
    rw [List.take_append_of_le_length hi]; exact hl i hi
   unfold uJ
   by_cases he:b+b<(dI m:Int)*(x.val:Int)
   ·have hcc:=hgt.2 he
    generalize cT ((dI m:Int)*(x.val:Int)) (b+b)=cc at *
    refine aw (ae (ai (AP (am 3 Z Z Z) (AQ Z (po Z Z Z Z ?_)))))
    (refine eH 0 Z Z Z (leN Z) ?_ ?_ Z (ltN Z) (fun sv21 cap21 => ?_);omega;omega)
    refine au 3 Z Z Z Z Z (leN Z) Z (AT (aa (ae (bG 4 bL Y U (AP (am 2 Z Z Z) (AQ Z ?_))))))
    refine AP (ao (hw) Z ⟨A,AU⟩) ?_
    refine AP (ao (hmu) Z ⟨A,A,AU⟩) ?_
    refine AT (au 2 Z Z Z Z Z (leN Z) Z (AT (aa (ae (ai (AP (am 2 Z Z Z) (AP (am 1 Z Z Z) ?_)))))))
    refine AP (ao (hcm) Z ⟨A,A,AU⟩) ?_
    refine AP (sT (by assumption) (dk Z Z)) (AT (aa (aP Z (ae (ai (AP (am 3 Z Z Z) (au 4 Z Z Z Z Z (leN Z) Z (AT (aa ?_)))))))))
    refine aH (bq ?_)
    exact sB (sv21,cap21,m ++ [x.val],slV sv21 (m.length+1) cap21) ⟨rfl,hend,by simp,by rw [hpr]; exact he,hnx⟩
     (.keep qG (.keep AO (.keep (hpr▸Own.le_refl _) (.keep (qJ (by simp)) (.keep AO .nil)))))
   ·have hcc : ¬ 0<cT ((dI m:Int)*(x.val:Int)) (b+b):=fun h=>he (hgt.1 h)
    generalize cT ((dI m:Int)*(x.val:Int)) (b+b)=cc at *
    refine aw (ae (ai (AP (am 3 Z Z Z) (AQ Z (po Z Z Z Z ?_)))))
    (refine eH 0 Z Z Z (leN Z) ?_ ?_ Z (ltN Z) (fun sv21 cap21 => ?_);omega;omega)
    refine au 3 Z Z Z Z Z (leN Z) Z (AT (aa (ae (bG 4 bL Y U (AP (am 2 Z Z Z) (AQ Z ?_))))))
    refine AP (ao (hw) Z ⟨A,AU⟩) ?_
    refine AP (ao (hmu) Z ⟨A,A,AU⟩) ?_
    refine AT (au 2 Z Z Z Z Z (leN Z) Z (AT (aa (ae (ai (AP (am 2 Z Z Z) (AP (am 1 Z Z Z) ?_)))))))
    refine AP (ao (hcm) Z ⟨A,A,AU⟩) ?_
    refine AP (sF (by assumption) (dk Z Z)) (AT (aa (aE Z (az (aK ?_)))))
    exact pJ (sv21,cap21,m ++ [x.val], .slice none 0 0) ⟨hend,rfl,fun i hi=>by
      by_cases e:i=(m ++ [x.val]).length
      ·rw [e,List.take_length,hpr]; exact he
      ·exact hnx i (Nat.lt_of_le_of_ne hi e)⟩
     (.keep qG (.keep AO (.keep (hpr▸Own.le_refl _) (.keep (qJ (by simp)) (.keep AO .nil)))))
  ·obtain ⟨sv,cap,m,v⟩:=s
   obtain ⟨hm,hv,hl⟩:=hs
   obtain ⟨j,hj,hz,hnz⟩:=hxs
   dsimp only at hm hv hl ⊢
   subst hv
   have hm':m=(List.range j).map (pk a7 n):=by rw [hm,hj,tu]
   have hml:m.length=j:=by rw [hm']; simp
   have hR0:R=none:=by
    have hd:=oV (p:=a7) (n:=n) j hnz
    have hle:=kg a7 (min n 2147483648)
    have hle:bf a7 n≤min n 2147483648 - 1:=hle
    obtain ⟨f,hf⟩ : ∃ f,min n 2147483648+2=j+(f+1):=⟨min n 2147483648+1 - j,by omega⟩
    have hst : ∀ i,i≤j → ¬ b+b<(dI ((List.range i).map (pk a7 n)):Int):=fun i hi=>by
     have:=hl i X
     rwa [hm',qK hi] at this
    rw [← hR,hf,rY j (f+1) hnz (fun i hi=>hst i X),ndL,if_neg (hst j (Nat.le_refl _)),xd,if_pos hz]
    rfl
   subst hR0
   refine aK (aa (ae (ai (au 5 Z Z Z Z Z (leN Z) Z (AT (aa (aH (lB ?_))))))))
   refine aX Tryz.results63 (.cellB 4 Z Z Z (lF))
  ·obtain ⟨sv,cap,m,v⟩:=s
   obtain ⟨_,hm,hv,hgt,hl⟩:=hs
   obtain ⟨j,hj,hnz⟩:=hpre
   dsimp only at hm hv hl hgt ⊢
   subst hv
   have hm':m=(List.range (j+1)).map (pk a7 n):=by rw [hm,hj,tu]
   have hml:m.length=j+1:=by rw [hm']; simp
   have hR0:R=some m:=by
    have hd:=oV (p:=a7) (n:=n) j (fun i hi=>hnz i X)
    have hle:=kg a7 (min n 2147483648)
    have hle:bf a7 n≤min n 2147483648 - 1:=hle
    obtain ⟨f,hf⟩ : ∃ f,min n 2147483648+2=j+1+(f+1):=⟨min n 2147483648 - j,by omega⟩
    have hst : ∀ i,i<j+1 → ¬ b+b<(dI ((List.range i).map (pk a7 n)):Int):=fun i hi=>by
     have:=hl i X
     rwa [hm',qK X] at this
    rw [← hR,hf,rY (j+1) (f+1) hnz hst,ndL,if_pos (by rw [← hm']; exact hgt), ← hm']
    simp
   have hres:m=R.getD []:=by rw [hR0]; rfl
   refine bq (aL (lB ?_))
   refine fh [aI sv 47 .one cap m.length (fun q=>one (.int .u64 (m.getD q 0:Nat)))] (List.Perm.refl _) (.keep (tL.refl _) (.keep (tL.refl _) (.keep (tL.refl _) (.keep (tL.box (n6.cons List.mem_cons_self (Ent.sl List.mem_cons_self) .nil)) .nil)))) (tM.refl _) ?_
   refine aX Tryz.results63 (.cellB 3 Z Z Z (yC hres))
end Tor
end
section
namespace Tor
open Go Go.RowKit Go.Proofs
variable [Tor.Co.Kc]
theorem xe {sv:Option Nat} {T:TypeId} {cap n j:Nat} {g:Nat→Int} : Own.le (aI sv T (.agg 2) cap n (upd (upd (fun q=>aW (g q)) (j+1) (aW (g j))) j (aW (g (j+1))))) (aI sv T (.agg 2) cap n (fun q=>aW (iN j g q))):=bZ fun q _=>by
 unfold upd iN
 by_cases h:q=j
 ·rw [if_pos h,if_pos h]
 ·rw [if_neg h,if_neg h]
  by_cases h2:q=j+1
  ·rw [if_pos h2,if_pos h2]
  ·rw [if_neg h2,if_neg h2]
def InL (n:Nat) (g h:Nat→Int):Prop := ∀ q,q<n → ∃ i,i<n∧h q=g i
theorem InL.sort {n i:Nat} {g:Nat→Int} (hi:i≤n):InL n g (d8 i g):=fun q hq=>by
 have h1:d8 i g q∈lst n (d8 i g):=by unfold lst;exact List.mem_map.2 ⟨q,List.mem_range.2 hq,rfl⟩
 have h2:=(ie g hi).mem_iff.1 h1
 unfold lst at h2
 obtain ⟨k,hk,e⟩:=List.mem_map.1 h2
 exact ⟨k,List.mem_range.1 hk,e.symm⟩
theorem InL.swp {n j:Nat} {g h:Nat→Int} (H:InL n g h) (hj:j+1<n):InL n g (iN j h):=fun q hq=>by
 unfold iN
 split
 ·exact H _ hj
 ·split
  ·exact H _ X
  ·exact H q hq
attribute [local irreducible] J PJ aB one slT bJ bB bv exT cd eP aQ aI slV VT.le Ret bN dD ek
attribute [local irreducible] aW
theorem oW (sv:Option Nat) (cap n:Nat) (g:Nat→Int) (cl:VT) (hn:n≤1048576) (hC : ∀ x y,(∃ i,i<n∧x=g i)→(∃ i,i<n∧y=g i)→fm Tryz.prog cl [aW x,aW y] (one (.int .i64 (cT y x)))) :
  OkI Tryz.prog 156 [one (slV sv n cap),one (.int .i64 0),one (.int .i64 (n:Nat)),cl] [aI sv 28 (.agg 2) cap n (fun q=>aW (g q))]
   (fun _:Unit=>bv []) (fun _ => [aI sv 28 (.agg 2) cap n (fun q=>aW (d8 n g q))]):=by
 refine OkI.enter Tryz.func156 Z Tryz.ntmps156 Z (fun w O => ?_)
 refine se (i:=0) (F:=sv=none→n=0) Z (fun g h hp he=>kV hp he) (fun hsv => ?_)
 refine ae (ai (AQ Z (AP (cB Z Z (aT X X)) (AR Z (AT (aa (aw (cD (Γ' := [(0,_),(1,_),(2,_),(3,_),(8,_)]) AK (SubM.refl _) ?_))))))))
 refine bS (σ:=Nat) (Γk := [(0,_),(1,_),(2,_),(3,_)]) AK (fun t => [(8,one (.int .i64 ((t+1:Nat):Int)))]) (fun t M0=>(M0.set 0 (aI sv 28 (.agg 2) cap n (fun q=>aW (d8 (t+1) g q))))) (fun t=>t+1≤n∨t=0) (fun t=>n - t) (0) (.inr Z) AL (.keep AO (.nil)) (fun t ht => ?_)
 refine co (Γ' := [(8,_),(0,_),(1,_),(2,_),(3,_)]) (M' := [_]) Z Z ?_
 by_cases hlt:t+1<n
 ·obtain ⟨bs,rfl⟩:=ib hsv X
  refine ae (ae (ai (AQ Z (AQ Z (AP (sT X (bH Z Z)) (AT (aa (aP Z (az ?_)))))))))
  refine aa (ae (aw (ae (ai (AQ Z (AR Z (AT (aa (aw ?_)))))))))
  refine cD (Γ' := [(0,_),(1,_),(2,_),(3,_),(8,_),(9,_)]) AK (SubM.refl _) ?_
  refine bS (σ:=Nat × (Nat→Int)) (Γk := [(0,_),(1,_),(2,_),(3,_),(8,_)]) AK (fun s => [(9,one (.int .i64 (s.1:Nat)))]) (fun s M0=>(M0.set 0 (aI (some bs) 28 (.agg 2) cap n (fun q=>aW (s.2 q))))) (fun s=>s.1≤t+1∧InL n g s.2∧uu s.1 s.2=d8 (t+2) g) (fun s=>s.1) ((t+1,d8 (t+1) g)) (⟨Nat.le_refl _,InL.sort X,rfl⟩) AL (.keep AO (.nil)) (fun s hs => ?_)
  refine co (Γ' := [(9,_),(0,_),(1,_),(2,_),(3,_),(8,_)]) (M' := [_]) Z Z ?_
  obtain ⟨j,h⟩:=s
  obtain ⟨hj,hin,hI⟩:=hs
  dsimp only at hj hin hI ⊢
  cases j with
  | zero =>
   have hI:h=d8 (t+2) g:=hI
   subst hI
   refine ae (ae (bG 17 bL Y U (AQ Z (AQ Z (AP (sF X (dk Z Z)) (AQ Z (sn0 Z Z Z Z Z (sn0 Z Z Z Z Z (sn0 Z Z Z Z Z ?_)))))))))
   refine sn0 Z Z Z Z Z (sn0 Z Z Z Z Z (sn0 Z Z Z Z Z (sn0 Z Z Z Z Z (sn0 Z Z Z Z Z (sn0 Z Z Z Z Z (sn0 Z Z Z Z Z (sn0 Z Z Z Z Z (sn0 Z Z Z Z Z (AP (bY Z Z) ?_)))))))))
   refine AT (AT (aa (aE Z (a8 (ay (ay (aM (aK (aa ?_)))))))))
   refine ai (AQ Z (AP (bV _ 1 Z Z X) (AR Z (AT ?_))))
   refine aZ (t+1) X X AL (.keep AO (.nil))
  | succ j =>
   have hx:=hin (j+1) X
   have hy:=hin j X
   have hcl:=hC (h (j+1)) (h j) hx hy
   have hI:(if h j<h (j+1) then uu j (iN j h) else h)=d8 (t+2) g:=hI
   by_cases hlt2:h j<h (j+1)
   ·rw [if_pos hlt2] at hI
    have hcc:cT (h j) (h (j+1))<0:=by unfold cT;split <;> (try split) <;> omega
    generalize cT (h j) (h (j+1))=cc at *
    refine ae (ae (bG 17 bL Y U (AQ Z (AQ Z (AP (sT X (dk Z Z)) (AQ Z (AS (ab Z) (AS (ab Z) (AS (ab Z) ?_)))))))))
    refine AS (ar Z Z X) (AS (bQ 0 Z Z X) (AS (ab Z) (AS (ab Z) (AS (cf _ 1 Z Z X X) (AS (ar Z Z X) (AS (bQ 0 Z Z X) ?_))))))
    refine AS (lp hcl Z Z ⟨A,A,AU⟩) ?_
    refine AS (sT (by assumption) (bH Z Z)) (AP (bP Z Z) (AT (AT (aa (aP Z (az (aa (ae (aw ?_)))))))))
    apply rm (Γ1 := [(9,_),(0,_),(1,_),(2,_),(3,_),(8,_)]) (M1 := [_]) 15 6 [2,3,4] [] bL Y U
    ·refine AQ Z (AQ Z (AQ Z (AQ Z (AP (cf _ 1 Z Z X X) (AQ Z (AQ Z (AP (cf _ 1 Z Z X X) (AP (ar Z Z X) (AP (bQ 0 Z Z X) ?_)))))))))
     refine AQ Z (AQ Z (AP (ar Z Z X) (AP (bQ 0 Z Z X) (AP (ar Z Z X) (AT ?_)))))
     refine vv (Γa := [(9,_),(0,_),(1,_),(2,_),(3,_),(8,_),(51,_),(46,_),(50,_)]) (Γb := [(9,_),(0,_),(1,_),(2,_),(3,_),(8,_),(51,_),(46,_),(50,_),(41,_)]) (Γc := [(9,_),(0,_),(1,_),(2,_),(3,_),(8,_),(51,_),(46,_),(50,_),(40,_)]) (Γd := [(9,_),(0,_),(1,_),(2,_),(3,_),(8,_),(51,_),(46,_),(50,_),(40,_),(41,_)]) (Γe := [(9,_),(0,_),(1,_),(2,_),(3,_),(8,_),(51,_),(46,_),(50,_),(39,_)]) (Γf := [(9,_),(0,_),(1,_),(2,_),(3,_),(8,_),(51,_),(46,_),(50,_),(39,_),(41,_)]) (Γg := [(9,_),(0,_),(1,_),(2,_),(3,_),(8,_),(51,_),(46,_),(50,_),(39,_),(40,_)]) (Γh := [(9,_),(0,_),(1,_),(2,_),(3,_),(8,_),(51,_),(46,_),(50,_),(39,_),(40,_),(41,_)]) (rem := [15,16,17]) Z AN Z AN Z AN Z AN Z AN Z AN Z AN Z AN Z ?_ ?_ ?_ ?_ ?_ ?_ ?_ ?_
     ·refine el (r1 := [3,4,15,16,17]) (r2 := [2,4,15,16,17]) (r3 := [2,3,4,16,17]) (i:=2) (j:=3) (k:=15) Y Z Z Z Z Z Z ?_ ?_ ?_ iF.nil
      refine AQ Z (AT ?_)
      refine ⟨rfl,?_⟩
      refine bt (rem' := [4,15,16,17]) (rem'' := [3,4,16,17]) (i:=3) (j:=15) Y Z Z Z Z ?_ ?_ iF.nil
      refine AQ Z (AT ?_)
      refine ⟨rfl,?_⟩
      refine bt (rem' := [15,16,17]) (rem'' := [4,16,17]) (i:=4) (j:=15) Y Z Z Z Z ?_ ?_ iF.nil
      refine AP (cf _ 1 Z Z X X) (AT ?_)
      refine ⟨rfl,?_⟩
      refine ak (rem' := [16,17]) (i:=15) Y Z Z ?_ iF.nil
      (refine ax 0 Z Z Z ?_ Z ?_;omega)
      refine AT ?_
      refine ⟨rfl,?_⟩
      refine ak (rem' := [17]) (i:=16) Y Z Z ?_ iF.nil
      refine AP (ar Z Z X) (AT ?_)
      refine ⟨rfl,?_⟩
      refine ak (rem' := []) (i:=17) Y Z Z ?_ iF.nil
      (refine ax 0 Z Z Z ?_ Z ?_;omega)
      refine AT ?_
      refine ⟨rfl,?_⟩
      refine aJ AN (SubM.refl _) iF.nil
      (refine ax 0 Z Z Z ?_ Z ?_;omega)
      refine AT ?_
      refine ⟨rfl,?_⟩
      refine ak (rem' := [16,17]) (i:=4) Y Z Z ?_ iF.nil
      refine AP (cf _ 1 Z Z X X) (AT ?_)
      refine ⟨rfl,?_⟩
      refine ak (rem' := [17]) (i:=16) Y Z Z ?_ iF.nil
      refine AP (ar Z Z X) (AT ?_)
      refine ⟨rfl,?_⟩
      refine ak (rem' := []) (i:=17) Y Z Z ?_ iF.nil
      (refine ax 0 Z Z Z ?_ Z ?_;omega)
      refine AT ?_
      refine ⟨rfl,?_⟩
      refine aJ AN (SubM.refl _) iF.nil
      (refine ax 0 Z Z Z ?_ Z ?_;omega)
      refine AT ?_
      refine ⟨rfl,?_⟩
      refine ak (rem' := [4,16,17]) (i:=3) Y Z Z ?_ iF.nil
      refine AQ Z (AT ?_)
      refine ⟨rfl,?_⟩
      refine ak (rem' := [16,17]) (i:=4) Y Z Z ?_ iF.nil
      refine AP (cf _ 1 Z Z X X) (AT ?_)
      refine ⟨rfl,?_⟩
      refine ak (rem' := [17]) (i:=16) Y Z Z ?_ iF.nil
      refine AP (ar Z Z X) (AT ?_)
      refine ⟨rfl,?_⟩
      refine ak (rem' := []) (i:=17) Y Z Z ?_ iF.nil
      (refine ax 0 Z Z Z ?_ Z ?_;omega)
      refine AT ?_
      refine ⟨rfl,?_⟩
      refine aJ AN (SubM.refl _) iF.nil
      refine AQ Z (AT ?_)
      refine ⟨rfl,?_⟩
      refine el (r1 := [4,15,16,17]) (r2 := [2,15,16,17]) (r3 := [2,4,16,17]) (i:=2) (j:=4) (k:=15) Y Z Z Z Z Z Z ?_ ?_ ?_ iF.nil
      refine AQ Z (AT ?_)
      refine ⟨rfl,?_⟩
      refine bt (rem' := [15,16,17]) (rem'' := [4,16,17]) (i:=4) (j:=15) Y Z Z Z Z ?_ ?_ iF.nil
      refine AP (cf _ 1 Z Z X X) (AT ?_)
      refine ⟨rfl,?_⟩
      refine ak (rem' := [16,17]) (i:=15) Y Z Z ?_ iF.nil
      (refine ax 0 Z Z Z ?_ Z ?_;omega)
      refine AT ?_
      refine ⟨rfl,?_⟩
      refine ak (rem' := [17]) (i:=16) Y Z Z ?_ iF.nil
      refine AP (ar Z Z X) (AT ?_)
      refine ⟨rfl,?_⟩
      refine ak (rem' := []) (i:=17) Y Z Z ?_ iF.nil
      (refine ax 0 Z Z Z ?_ Z ?_;omega)
      refine AT ?_
      refine ⟨rfl,?_⟩
      refine aJ AN (SubM.refl _) iF.nil
      (refine ax 0 Z Z Z ?_ Z ?_;omega)
      refine AT ?_
      refine ⟨rfl,?_⟩
      refine ak (rem' := [16,17]) (i:=4) Y Z Z ?_ iF.nil
      refine AP (cf _ 1 Z Z X X) (AT ?_)
      refine ⟨rfl,?_⟩
      refine ak (rem' := [17]) (i:=16) Y Z Z ?_ iF.nil
      refine AP (ar Z Z X) (AT ?_)
      refine ⟨rfl,?_⟩
      refine ak (rem' := []) (i:=17) Y Z Z ?_ iF.nil
      (refine ax 0 Z Z Z ?_ Z ?_;omega)
      refine AT ?_
      refine ⟨rfl,?_⟩
      refine aJ AN (SubM.refl _) iF.nil
      refine AP (cf _ 1 Z Z X X) (AT ?_)
      refine ⟨rfl,?_⟩
      refine bt (rem' := [15,16,17]) (rem'' := [2,16,17]) (i:=2) (j:=15) Y Z Z Z Z ?_ ?_ iF.nil
      refine AQ Z (AT ?_)
      refine ⟨rfl,?_⟩
      refine ak (rem' := [16,17]) (i:=15) Y Z Z ?_ iF.nil
      (refine ax 0 Z Z Z ?_ Z ?_;omega)
      refine AT ?_
      refine ⟨rfl,?_⟩
      refine ak (rem' := [17]) (i:=16) Y Z Z ?_ iF.nil
      refine AP (ar Z Z X) (AT ?_)
      refine ⟨rfl,?_⟩
      refine ak (rem' := []) (i:=17) Y Z Z ?_ iF.nil
      (refine ax 0 Z Z Z ?_ Z ?_;omega)
      refine AT ?_
      refine ⟨rfl,?_⟩
      refine aJ AN (SubM.refl _) iF.nil
      (refine ax 0 Z Z Z ?_ Z ?_;omega)
      refine AT ?_
      refine ⟨rfl,?_⟩
      refine ak (rem' := [16,17]) (i:=2) Y Z Z ?_ iF.nil
      refine AQ Z (AT ?_)
      refine ⟨rfl,?_⟩
      refine ak (rem' := [17]) (i:=16) Y Z Z ?_ iF.nil
      refine AP (ar Z Z X) (AT ?_)
      refine ⟨rfl,?_⟩
      refine ak (rem' := []) (i:=17) Y Z Z ?_ iF.nil
      (refine ax 0 Z Z Z ?_ Z ?_;omega)
      refine AT ?_
      refine ⟨rfl,?_⟩
      refine aJ AN (SubM.refl _) iF.nil
      (refine ax 0 Z Z Z ?_ Z ?_;omega)
      refine AT ?_
      refine ⟨rfl,?_⟩
      refine bt (rem' := [4,16,17]) (rem'' := [2,16,17]) (i:=2) (j:=4) Y Z Z Z Z ?_ ?_ iF.nil
      refine AQ Z (AT ?_)
      refine ⟨rfl,?_⟩
      refine ak (rem' := [16,17]) (i:=4) Y Z Z ?_ iF.nil
      refine AP (cf _ 1 Z Z X X) (AT ?_)
      refine ⟨rfl,?_⟩
      refine ak (rem' := [17]) (i:=16) Y Z Z ?_ iF.nil
      refine AP (ar Z Z X) (AT ?_)
      refine ⟨rfl,?_⟩
      refine ak (rem' := []) (i:=17) Y Z Z ?_ iF.nil
      (refine ax 0 Z Z Z ?_ Z ?_;omega)
      refine AT ?_
      refine ⟨rfl,?_⟩
      refine aJ AN (SubM.refl _) iF.nil
      refine AP (cf _ 1 Z Z X X) (AT ?_)
      refine ⟨rfl,?_⟩
      refine ak (rem' := [16,17]) (i:=2) Y Z Z ?_ iF.nil
      refine AQ Z (AT ?_)
      refine ⟨rfl,?_⟩
      refine ak (rem' := [17]) (i:=16) Y Z Z ?_ iF.nil
      refine AP (ar Z Z X) (AT ?_)
      refine ⟨rfl,?_⟩
      refine ak (rem' := []) (i:=17) Y Z Z ?_ iF.nil
      (refine ax 0 Z Z Z ?_ Z ?_;omega)
      refine AT ?_
      refine ⟨rfl,?_⟩
      refine aJ AN (SubM.refl _) iF.nil
      (refine ax 0 Z Z Z ?_ Z ?_;omega)
      refine AT ?_
      refine ⟨rfl,?_⟩
      refine bt (rem' := [3,4,16,17]) (rem'' := [2,4,16,17]) (i:=2) (j:=3) Y Z Z Z Z ?_ ?_ iF.nil
      refine AQ Z (AT ?_)
      refine ⟨rfl,?_⟩
      refine ak (rem' := [4,16,17]) (i:=3) Y Z Z ?_ iF.nil
      refine AQ Z (AT ?_)
      refine ⟨rfl,?_⟩
      refine ak (rem' := [16,17]) (i:=4) Y Z Z ?_ iF.nil
      refine AP (cf _ 1 Z Z X X) (AT ?_)
      refine ⟨rfl,?_⟩
      refine ak (rem' := [17]) (i:=16) Y Z Z ?_ iF.nil
      refine AP (ar Z Z X) (AT ?_)
      refine ⟨rfl,?_⟩
      refine ak (rem' := []) (i:=17) Y Z Z ?_ iF.nil
      (refine ax 0 Z Z Z ?_ Z ?_;omega)
      refine AT ?_
      refine ⟨rfl,?_⟩
      refine aJ AN (SubM.refl _) iF.nil
      refine AQ Z (AT ?_)
      refine ⟨rfl,?_⟩
      refine bt (rem' := [4,16,17]) (rem'' := [2,16,17]) (i:=2) (j:=4) Y Z Z Z Z ?_ ?_ iF.nil
      refine AQ Z (AT ?_)
      refine ⟨rfl,?_⟩
      refine ak (rem' := [16,17]) (i:=4) Y Z Z ?_ iF.nil
      refine AP (cf _ 1 Z Z X X) (AT ?_)
      refine ⟨rfl,?_⟩
      refine ak (rem' := [17]) (i:=16) Y Z Z ?_ iF.nil
      refine AP (ar Z Z X) (AT ?_)
      refine ⟨rfl,?_⟩
      refine ak (rem' := []) (i:=17) Y Z Z ?_ iF.nil
      (refine ax 0 Z Z Z ?_ Z ?_;omega)
      refine AT ?_
      refine ⟨rfl,?_⟩
      refine aJ AN (SubM.refl _) iF.nil
      refine AP (cf _ 1 Z Z X X) (AT ?_)
      refine ⟨rfl,?_⟩
      refine ak (rem' := [16,17]) (i:=2) Y Z Z ?_ iF.nil
      refine AQ Z (AT ?_)
      refine ⟨rfl,?_⟩
      refine ak (rem' := [17]) (i:=16) Y Z Z ?_ iF.nil
      refine AP (ar Z Z X) (AT ?_)
      refine ⟨rfl,?_⟩
      refine ak (rem' := []) (i:=17) Y Z Z ?_ iF.nil
      (refine ax 0 Z Z Z ?_ Z ?_;omega)
      refine AT ?_
      refine ⟨rfl,?_⟩
      refine aJ AN (SubM.refl _) iF.nil
     ·refine el (r1 := [3,15,16,17]) (r2 := [2,15,16,17]) (r3 := [2,3,16,17]) (i:=2) (j:=3) (k:=15) Y Z Z Z Z Z Z ?_ ?_ ?_ iF.nil
      refine AQ Z (AT ?_)
      refine ⟨rfl,?_⟩
      refine bt (rem' := [15,16,17]) (rem'' := [3,16,17]) (i:=3) (j:=15) Y Z Z Z Z ?_ ?_ iF.nil
      refine AQ Z (AT ?_)
      refine ⟨rfl,?_⟩
      refine ak (rem' := [16,17]) (i:=15) Y Z Z ?_ iF.nil
      (refine ax 0 Z Z Z ?_ Z ?_;omega)
      refine AT ?_
      refine ⟨rfl,?_⟩
      refine ak (rem' := [17]) (i:=16) Y Z Z ?_ iF.nil
      refine AP (ar Z Z X) (AT ?_)
      refine ⟨rfl,?_⟩
      refine ak (rem' := []) (i:=17) Y Z Z ?_ iF.nil
      (refine ax 0 Z Z Z ?_ Z ?_;omega)
      refine AT ?_
      refine ⟨rfl,?_⟩
      refine aJ AN (SubM.refl _) iF.nil
      (refine ax 0 Z Z Z ?_ Z ?_;omega)
      refine AT ?_
      refine ⟨rfl,?_⟩
      refine ak (rem' := [16,17]) (i:=3) Y Z Z ?_ iF.nil
      refine AQ Z (AT ?_)
      refine ⟨rfl,?_⟩
      refine ak (rem' := [17]) (i:=16) Y Z Z ?_ iF.nil
      refine AP (ar Z Z X) (AT ?_)
      refine ⟨rfl,?_⟩
      refine ak (rem' := []) (i:=17) Y Z Z ?_ iF.nil
      (refine ax 0 Z Z Z ?_ Z ?_;omega)
      refine AT ?_
      refine ⟨rfl,?_⟩
      refine aJ AN (SubM.refl _) iF.nil
      refine AQ Z (AT ?_)
      refine ⟨rfl,?_⟩
      refine bt (rem' := [15,16,17]) (rem'' := [2,16,17]) (i:=2) (j:=15) Y Z Z Z Z ?_ ?_ iF.nil
      refine AQ Z (AT ?_)
      refine ⟨rfl,?_⟩
      refine ak (rem' := [16,17]) (i:=15) Y Z Z ?_ iF.nil
      (refine ax 0 Z Z Z ?_ Z ?_;omega)
      refine AT ?_
      refine ⟨rfl,?_⟩
      refine ak (rem' := [17]) (i:=16) Y Z Z ?_ iF.nil
      refine AP (ar Z Z X) (AT ?_)
      refine ⟨rfl,?_⟩
      refine ak (rem' := []) (i:=17) Y Z Z ?_ iF.nil
      (refine ax 0 Z Z Z ?_ Z ?_;omega)
      refine AT ?_
      refine ⟨rfl,?_⟩
      refine aJ AN (SubM.refl _) iF.nil
      (refine ax 0 Z Z Z ?_ Z ?_;omega)
      refine AT ?_
      refine ⟨rfl,?_⟩
      refine ak (rem' := [16,17]) (i:=2) Y Z Z ?_ iF.nil
      refine AQ Z (AT ?_)
      refine ⟨rfl,?_⟩
      refine ak (rem' := [17]) (i:=16) Y Z Z ?_ iF.nil
      refine AP (ar Z Z X) (AT ?_)
      refine ⟨rfl,?_⟩
      refine ak (rem' := []) (i:=17) Y Z Z ?_ iF.nil
      (refine ax 0 Z Z Z ?_ Z ?_;omega)
      refine AT ?_
      refine ⟨rfl,?_⟩
      refine aJ AN (SubM.refl _) iF.nil
      (refine ax 0 Z Z Z ?_ Z ?_;omega)
      refine AT ?_
      refine ⟨rfl,?_⟩
      refine bt (rem' := [3,16,17]) (rem'' := [2,16,17]) (i:=2) (j:=3) Y Z Z Z Z ?_ ?_ iF.nil
      refine AQ Z (AT ?_)
      refine ⟨rfl,?_⟩
      refine ak (rem' := [16,17]) (i:=3) Y Z Z ?_ iF.nil
      refine AQ Z (AT ?_)
      refine ⟨rfl,?_⟩
      refine ak (rem' := [17]) (i:=16) Y Z Z ?_ iF.nil
      refine AP (ar Z Z X) (AT ?_)
      refine ⟨rfl,?_⟩
      refine ak (rem' := []) (i:=17) Y Z Z ?_ iF.nil
      (refine ax 0 Z Z Z ?_ Z ?_;omega)
      refine AT ?_
      refine ⟨rfl,?_⟩
      refine aJ AN (SubM.refl _) iF.nil
      refine AQ Z (AT ?_)
      refine ⟨rfl,?_⟩
      refine ak (rem' := [16,17]) (i:=2) Y Z Z ?_ iF.nil
      refine AQ Z (AT ?_)
      refine ⟨rfl,?_⟩
      refine ak (rem' := [17]) (i:=16) Y Z Z ?_ iF.nil
      refine AP (ar Z Z X) (AT ?_)
      refine ⟨rfl,?_⟩
      refine ak (rem' := []) (i:=17) Y Z Z ?_ iF.nil
      (refine ax 0 Z Z Z ?_ Z ?_;omega)
      refine AT ?_
      refine ⟨rfl,?_⟩
      refine aJ AN (SubM.refl _) iF.nil
     ·refine el (r1 := [4,15,16,17]) (r2 := [2,15,16,17]) (r3 := [2,4,16,17]) (i:=2) (j:=4) (k:=15) Y Z Z Z Z Z Z ?_ ?_ ?_ iF.nil
      refine AQ Z (AT ?_)
      refine ⟨rfl,?_⟩
      refine bt (rem' := [15,16,17]) (rem'' := [4,16,17]) (i:=4) (j:=15) Y Z Z Z Z ?_ ?_ iF.nil
      refine AP (cf _ 1 Z Z X X) (AT ?_)
      refine ⟨rfl,?_⟩
      refine ak (rem' := [16,17]) (i:=15) Y Z Z ?_ iF.nil
      (refine ax 0 Z Z Z ?_ Z ?_;omega)
      refine AT ?_
      refine ⟨rfl,?_⟩
      refine ak (rem' := [17]) (i:=16) Y Z Z ?_ iF.nil
      refine AP (ar Z Z X) (AT ?_)
      refine ⟨rfl,?_⟩
      refine ak (rem' := []) (i:=17) Y Z Z ?_ iF.nil
      (refine ax 0 Z Z Z ?_ Z ?_;omega)
      refine AT ?_
      refine ⟨rfl,?_⟩
      refine aJ AN (SubM.refl _) iF.nil
      (refine ax 0 Z Z Z ?_ Z ?_;omega)
      refine AT ?_
      refine ⟨rfl,?_⟩
      refine ak (rem' := [16,17]) (i:=4) Y Z Z ?_ iF.nil
      refine AP (cf _ 1 Z Z X X) (AT ?_)
      refine ⟨rfl,?_⟩
      refine ak (rem' := [17]) (i:=16) Y Z Z ?_ iF.nil
      refine AP (ar Z Z X) (AT ?_)
      refine ⟨rfl,?_⟩
      refine ak (rem' := []) (i:=17) Y Z Z ?_ iF.nil
      (refine ax 0 Z Z Z ?_ Z ?_;omega)
      refine AT ?_
      refine ⟨rfl,?_⟩
      refine aJ AN (SubM.refl _) iF.nil
      refine AP (cf _ 1 Z Z X X) (AT ?_)
      refine ⟨rfl,?_⟩
      refine bt (rem' := [15,16,17]) (rem'' := [2,16,17]) (i:=2) (j:=15) Y Z Z Z Z ?_ ?_ iF.nil
      refine AQ Z (AT ?_)
      refine ⟨rfl,?_⟩
      refine ak (rem' := [16,17]) (i:=15) Y Z Z ?_ iF.nil
      (refine ax 0 Z Z Z ?_ Z ?_;omega)
      refine AT ?_
      refine ⟨rfl,?_⟩
      refine ak (rem' := [17]) (i:=16) Y Z Z ?_ iF.nil
      refine AP (ar Z Z X) (AT ?_)
      refine ⟨rfl,?_⟩
      refine ak (rem' := []) (i:=17) Y Z Z ?_ iF.nil
      (refine ax 0 Z Z Z ?_ Z ?_;omega)
      refine AT ?_
      refine ⟨rfl,?_⟩
      refine aJ AN (SubM.refl _) iF.nil
      (refine ax 0 Z Z Z ?_ Z ?_;omega)
      refine AT ?_
      refine ⟨rfl,?_⟩
      refine ak (rem' := [16,17]) (i:=2) Y Z Z ?_ iF.nil
      refine AQ Z (AT ?_)
      refine ⟨rfl,?_⟩
      refine ak (rem' := [17]) (i:=16) Y Z Z ?_ iF.nil
      refine AP (ar Z Z X) (AT ?_)
      refine ⟨rfl,?_⟩
      refine ak (rem' := []) (i:=17) Y Z Z ?_ iF.nil
      (refine ax 0 Z Z Z ?_ Z ?_;omega)
      refine AT ?_
      refine ⟨rfl,?_⟩
      refine aJ AN (SubM.refl _) iF.nil
      (refine ax 0 Z Z Z ?_ Z ?_;omega)
      refine AT ?_
      refine ⟨rfl,?_⟩
      refine bt (rem' := [4,16,17]) (rem'' := [2,16,17]) (i:=2) (j:=4) Y Z Z Z Z ?_ ?_ iF.nil
      refine AQ Z (AT ?_)
      refine ⟨rfl,?_⟩
      refine ak (rem' := [16,17]) (i:=4) Y Z Z ?_ iF.nil
      refine AP (cf _ 1 Z Z X X) (AT ?_)
      refine ⟨rfl,?_⟩
      refine ak (rem' := [17]) (i:=16) Y Z Z ?_ iF.nil
      refine AP (ar Z Z X) (AT ?_)
      refine ⟨rfl,?_⟩
      refine ak (rem' := []) (i:=17) Y Z Z ?_ iF.nil
      (refine ax 0 Z Z Z ?_ Z ?_;omega)
      refine AT ?_
      refine ⟨rfl,?_⟩
      refine aJ AN (SubM.refl _) iF.nil
      refine AP (cf _ 1 Z Z X X) (AT ?_)
      refine ⟨rfl,?_⟩
      refine ak (rem' := [16,17]) (i:=2) Y Z Z ?_ iF.nil
      refine AQ Z (AT ?_)
      refine ⟨rfl,?_⟩
      refine ak (rem' := [17]) (i:=16) Y Z Z ?_ iF.nil
      refine AP (ar Z Z X) (AT ?_)
      refine ⟨rfl,?_⟩
      refine ak (rem' := []) (i:=17) Y Z Z ?_ iF.nil
      (refine ax 0 Z Z Z ?_ Z ?_;omega)
      refine AT ?_
      refine ⟨rfl,?_⟩
      refine aJ AN (SubM.refl _) iF.nil
     ·refine bt (rem' := [15,16,17]) (rem'' := [2,16,17]) (i:=2) (j:=15) Y Z Z Z Z ?_ ?_ iF.nil
      refine AQ Z (AT ?_)
      refine ⟨rfl,?_⟩
      refine ak (rem' := [16,17]) (i:=15) Y Z Z ?_ iF.nil
      (refine ax 0 Z Z Z ?_ Z ?_;omega)
      refine AT ?_
      refine ⟨rfl,?_⟩
      refine ak (rem' := [17]) (i:=16) Y Z Z ?_ iF.nil
      refine AP (ar Z Z X) (AT ?_)
      refine ⟨rfl,?_⟩
      refine ak (rem' := []) (i:=17) Y Z Z ?_ iF.nil
      (refine ax 0 Z Z Z ?_ Z ?_;omega)
      refine AT ?_
      refine ⟨rfl,?_⟩
      refine aJ AN (SubM.refl _) iF.nil
      (refine ax 0 Z Z Z ?_ Z ?_;omega)
      refine AT ?_
      refine ⟨rfl,?_⟩
      refine ak (rem' := [16,17]) (i:=2) Y Z Z ?_ iF.nil
      refine AQ Z (AT ?_)
      refine ⟨rfl,?_⟩
      refine ak (rem' := [17]) (i:=16) Y Z Z ?_ iF.nil
      refine AP (ar Z Z X) (AT ?_)
      refine ⟨rfl,?_⟩
      refine ak (rem' := []) (i:=17) Y Z Z ?_ iF.nil
      (refine ax 0 Z Z Z ?_ Z ?_;omega)
      refine AT ?_
      refine ⟨rfl,?_⟩
      refine aJ AN (SubM.refl _) iF.nil
     ·refine bt (rem' := [4,15,16,17]) (rem'' := [3,4,16,17]) (i:=3) (j:=15) Y Z Z Z Z ?_ ?_ iF.nil
      refine AQ Z (AT ?_)
      refine ⟨rfl,?_⟩
      refine bt (rem' := [15,16,17]) (rem'' := [4,16,17]) (i:=4) (j:=15) Y Z Z Z Z ?_ ?_ iF.nil
      refine AP (cf _ 1 Z Z X X) (AT ?_)
      refine ⟨rfl,?_⟩
      refine ak (rem' := [16,17]) (i:=15) Y Z Z ?_ iF.nil
      (refine ax 0 Z Z Z ?_ Z ?_;omega)
      refine AT ?_
      refine ⟨rfl,?_⟩
      refine ak (rem' := [17]) (i:=16) Y Z Z ?_ iF.nil
      refine AP (ar Z Z X) (AT ?_)
      refine ⟨rfl,?_⟩
      refine ak (rem' := []) (i:=17) Y Z Z ?_ iF.nil
      (refine ax 0 Z Z Z ?_ Z ?_;omega)
      refine AT ?_
      refine ⟨rfl,?_⟩
      refine aJ AN (SubM.refl _) iF.nil
      (refine ax 0 Z Z Z ?_ Z ?_;omega)
      refine AT ?_
      refine ⟨rfl,?_⟩
      refine ak (rem' := [16,17]) (i:=4) Y Z Z ?_ iF.nil
      refine AP (cf _ 1 Z Z X X) (AT ?_)
      refine ⟨rfl,?_⟩
      refine ak (rem' := [17]) (i:=16) Y Z Z ?_ iF.nil
      refine AP (ar Z Z X) (AT ?_)
      refine ⟨rfl,?_⟩
      refine ak (rem' := []) (i:=17) Y Z Z ?_ iF.nil
      (refine ax 0 Z Z Z ?_ Z ?_;omega)
      refine AT ?_
      refine ⟨rfl,?_⟩
      refine aJ AN (SubM.refl _) iF.nil
      (refine ax 0 Z Z Z ?_ Z ?_;omega)
      refine AT ?_
      refine ⟨rfl,?_⟩
      refine ak (rem' := [4,16,17]) (i:=3) Y Z Z ?_ iF.nil
      refine AQ Z (AT ?_)
      refine ⟨rfl,?_⟩
      refine ak (rem' := [16,17]) (i:=4) Y Z Z ?_ iF.nil
      refine AP (cf _ 1 Z Z X X) (AT ?_)
      refine ⟨rfl,?_⟩
      refine ak (rem' := [17]) (i:=16) Y Z Z ?_ iF.nil
      refine AP (ar Z Z X) (AT ?_)
      refine ⟨rfl,?_⟩
      refine ak (rem' := []) (i:=17) Y Z Z ?_ iF.nil
      (refine ax 0 Z Z Z ?_ Z ?_;omega)
      refine AT ?_
      refine ⟨rfl,?_⟩
      refine aJ AN (SubM.refl _) iF.nil
     ·refine bt (rem' := [15,16,17]) (rem'' := [3,16,17]) (i:=3) (j:=15) Y Z Z Z Z ?_ ?_ iF.nil
      refine AQ Z (AT ?_)
      refine ⟨rfl,?_⟩
      refine ak (rem' := [16,17]) (i:=15) Y Z Z ?_ iF.nil
      (refine ax 0 Z Z Z ?_ Z ?_;omega)
      refine AT ?_
      refine ⟨rfl,?_⟩
      refine ak (rem' := [17]) (i:=16) Y Z Z ?_ iF.nil
      refine AP (ar Z Z X) (AT ?_)
      refine ⟨rfl,?_⟩
      refine ak (rem' := []) (i:=17) Y Z Z ?_ iF.nil
      (refine ax 0 Z Z Z ?_ Z ?_;omega)
      refine AT ?_
      refine ⟨rfl,?_⟩
      refine aJ AN (SubM.refl _) iF.nil
      (refine ax 0 Z Z Z ?_ Z ?_;omega)
      refine AT ?_
      refine ⟨rfl,?_⟩
      refine ak (rem' := [16,17]) (i:=3) Y Z Z ?_ iF.nil
      refine AQ Z (AT ?_)
      refine ⟨rfl,?_⟩
      refine ak (rem' := [17]) (i:=16) Y Z Z ?_ iF.nil
      refine AP (ar Z Z X) (AT ?_)
      refine ⟨rfl,?_⟩
      refine ak (rem' := []) (i:=17) Y Z Z ?_ iF.nil
      (refine ax 0 Z Z Z ?_ Z ?_;omega)
      refine AT ?_
      refine ⟨rfl,?_⟩
      refine aJ AN (SubM.refl _) iF.nil
     ·refine bt (rem' := [15,16,17]) (rem'' := [4,16,17]) (i:=4) (j:=15) Y Z Z Z Z ?_ ?_ iF.nil
      refine AP (cf _ 1 Z Z X X) (AT ?_)
      refine ⟨rfl,?_⟩
      refine ak (rem' := [16,17]) (i:=15) Y Z Z ?_ iF.nil
      (refine ax 0 Z Z Z ?_ Z ?_;omega)
      refine AT ?_
      refine ⟨rfl,?_⟩
      refine ak (rem' := [17]) (i:=16) Y Z Z ?_ iF.nil
      refine AP (ar Z Z X) (AT ?_)
      refine ⟨rfl,?_⟩
      refine ak (rem' := []) (i:=17) Y Z Z ?_ iF.nil
      (refine ax 0 Z Z Z ?_ Z ?_;omega)
      refine AT ?_
      refine ⟨rfl,?_⟩
      refine aJ AN (SubM.refl _) iF.nil
      (refine ax 0 Z Z Z ?_ Z ?_;omega)
      refine AT ?_
      refine ⟨rfl,?_⟩
      refine ak (rem' := [16,17]) (i:=4) Y Z Z ?_ iF.nil
      refine AP (cf _ 1 Z Z X X) (AT ?_)
      refine ⟨rfl,?_⟩
      refine ak (rem' := [17]) (i:=16) Y Z Z ?_ iF.nil
      refine AP (ar Z Z X) (AT ?_)
      refine ⟨rfl,?_⟩
      refine ak (rem' := []) (i:=17) Y Z Z ?_ iF.nil
      (refine ax 0 Z Z Z ?_ Z ?_;omega)
      refine AT ?_
      refine ⟨rfl,?_⟩
      refine aJ AN (SubM.refl _) iF.nil
     ·refine ak (rem' := [16,17]) (i:=15) Y Z Z ?_ iF.nil
      (refine ax 0 Z Z Z ?_ Z ?_;omega)
      refine AT ?_
      refine ⟨rfl,?_⟩
      refine ak (rem' := [17]) (i:=16) Y Z Z ?_ iF.nil
      refine AP (ar Z Z X) (AT ?_)
      refine ⟨rfl,?_⟩
      refine ak (rem' := []) (i:=17) Y Z Z ?_ iF.nil
      (refine ax 0 Z Z Z ?_ Z ?_;omega)
      refine AT ?_
      refine ⟨rfl,?_⟩
      refine aJ AN (SubM.refl _) iF.nil
    ·refine aK (aa (ai (AQ Z (AP (cf _ 1 Z Z X X) (AR Z (AT ?_))))))
     refine aZ ((j,iN j h)) (⟨by omega,hin.swp X,hI⟩) X AL (.keep (xe) (.nil))
   ·rw [if_neg hlt2] at hI
    have hcc : ¬ cT (h j) (h (j+1))<0:=by unfold cT;split <;> (try split) <;> omega
    generalize cT (h j) (h (j+1))=cc at *
    subst hI
    refine ae (ae (bG 17 bL Y U (AQ Z (AQ Z (AP (sT X (dk Z Z)) (AQ Z (AS (ab Z) (AS (ab Z) (AS (ab Z) ?_)))))))))
    refine AS (ar Z Z X) (AS (bQ 0 Z Z X) (AS (ab Z) (AS (ab Z) (AS (cf _ 1 Z Z X X) (AS (ar Z Z X) (AS (bQ 0 Z Z X) ?_))))))
    refine AS (lp hcl Z Z ⟨A,A,AU⟩) ?_
    refine AS (sF (by assumption) (bH Z Z)) (AP (bP Z Z) (AT (AT (aa (aE Z (a8 (ay (ay (aM ?_)))))))))
    refine aK (aa (ai (AQ Z (AP (bV _ 1 Z Z X) (AR Z (AT ?_))))))
    refine aZ (t+1) X X AL (.keep AO (.nil))
 ·refine ae (ae (ai (AQ Z (AQ Z (AP (sF X (bH Z Z)) (AT (aa (aE Z (a8 ?_)))))))))
  refine ay (ay (aM (oi ?_)))
  exact pE (σ:=Unit) (ψ:=fun _=>bv []) () Tryz.results156 A (.keep (bZ fun q hq=>by rw [show t+1=n by omega]) .nil)
end Tor
end
section
namespace Tor
open Go Go.RowKit Go.Proofs
variable [Tor.Co.Kc]
theorem yG:VT.le (one (.slice none 0 0)) (one (slV none 0 0)):=VT.le_refl _
attribute [local irreducible] J PJ aB one slT bJ bB bv exT cd eP aQ aI slV VT.le Ret bN dD ek
attribute [local irreducible] aW
theorem uM (x:Nat) (hx:x<256):Ok Tryz.prog 164 [one (.int .u64 (x:Nat))] (one (.int .i64 (fp x))):=by
 have k2:fp x≤8:=i5 (n:=8) X U
 refine Ok.enter Tryz.func164 Z Tryz.ntmps164 Z (fun w O => ?_)
 refine ae (ai (AR Z (AT (aa (ae (ae (ai (AQ Z (AP (sF X (eU Z Z)) ?_)))))))))
 refine AT (aa (aE Z (az (aa (ae (ae (ai (AQ Z (AP (sF X (eU Z Z)) ?_)))))))))
 refine AT (aa (aE Z (az (aa (ae (ae (ai (AQ Z (AP (sF X (eU Z Z)) ?_)))))))))
 refine AT (aa (aE Z (az (aa (ae (ai (AQ Z (AQ Z (AP (jV Z X X) ?_)))))))))
 refine AP (fX Y Z Z (mo V X)) (AP (d9 Z X X) (AP (cB Z Z (aT X X)) (AR Z (AT (aa (aH ?_))))))
 refine aX Tryz.results164 (.tmp Z (av (by congr 1;omega)))
theorem yH (x:Nat) (hx:x<256):Ok Tryz.prog 148 [one (.int .u64 (x:Nat))] (one (.int .i64 (fp x))):=by
 have h:=uM x hx
 refine Ok.enter Tryz.func148 Z Tryz.ntmps148 Z (fun w O => ?_)
 refine ae (ai (AR Z (AT (aa (ae (aE Z (az (aa (ae ?_)))))))))
 refine ai (AQ Z ?_)
 refine AP (ao (h) Z ⟨A,AU⟩) ?_
 refine AR Z (AT (aa (aH ?_)))
 refine aX Tryz.results148 (.tmp Z A)
theorem Ac (sv:Option Nat) (cap n:Nat) (lim:Int) (g:Nat→Int) (cl:VT) (hn:n≤12) (hC : ∀ x y,(∃ i,i<n∧x=g i)→(∃ i,i<n∧y=g i)→fm Tryz.prog cl [aW x,aW y] (one (.int .i64 (cT y x)))) :
  OkI Tryz.prog 147 [one (slV sv n cap),one (.int .i64 0),one (.int .i64 (n:Nat)),one (.int .i64 lim),cl] [aI sv 28 (.agg 2) cap n (fun q=>aW (g q))]
   (fun _:Unit=>bv []) (fun _ => [aI sv 28 (.agg 2) cap n (fun q=>aW (d8 n g q))]):=by
 have hi:=oW sv cap n g cl X hC
 refine OkI.enter Tryz.func147 Z Tryz.ntmps147 Z (fun w O => ?_)
 refine ae (ai (AR Z (AT (aa (ae (ai (AR Z (AT (aa ?_)))))))))
 refine aw ?_
 refine vi 0 ?_
 refine aw (ae (ai (AQ Z (AQ Z (AP (cf _ 0 Z Z X X) (AR Z (AT (aa (ae ?_)))))))))
 refine ae (ai (AQ Z (AP (sT X (xp Z Z)) (AT (aa (aP Z (ae (ai (AQ Z ?_)))))))))
 refine AQ Z (AQ Z (AQ Z ?_))
 refine gW (Kp := []) hi Z ⟨A,A,A,A,AU⟩ (List.Perm.refl _) Z Z (fun _ => ?_)
 refine AT (aa (aH (aL (bq (aL (bq ?_))))))
 exact pE (σ:=Unit) (ψ:=fun _=>bv []) () Tryz.results147 A (SubM.refl _)
theorem qL (sv:Option Nat) (cap n:Nat) (g:Nat→Int) (cl:VT) (hn:n≤12) (hC : ∀ x y,(∃ i,i<n∧x=g i)→(∃ i,i<n∧y=g i)→fm Tryz.prog cl [aW x,aW y] (one (.int .i64 (cT y x)))) :
  OkI Tryz.prog 123 [one (slV sv n cap),cl] [aI sv 28 (.agg 2) cap n (fun q=>aW (g q))]
   (fun _:Unit=>bv []) (fun _ => [aI sv 28 (.agg 2) cap n (fun q=>aW (d8 n g q))]):=by
 have hp:=fun lim=>Ac sv cap n lim g cl hn hC
 have hL:=yH n X
 refine OkI.enter Tryz.func123 Z Tryz.ntmps123 Z (fun w O => ?_)
 refine ae (ai (AQ Z (AP (ix Z) (AR Z (AT (aa (ai (AQ Z (AQ Z ?_)))))))))
 refine AQ Z (AP (bX Z X) ?_)
 refine AP (ao (hL) Z ⟨A,AU⟩) ?_
 refine AQ Z ?_
 refine gW (Kp := []) (hp _) Z ⟨A,A,A,A,A,AU⟩ (List.Perm.refl _) Z Z (fun _ => ?_)
 refine AT (oi ?_)
 exact pE (σ:=Unit) (ψ:=fun _=>bv []) () Tryz.results123 A (SubM.refl _)
theorem uN (x y:Int):Ok Tryz.prog 124 [aW x,aW y] (one (.int .i64 (cT y x))):=by
 have h:=iZ y x
 refine Ok.enter Tryz.func124 Z Tryz.ntmps124 Z (fun w O => ?_)
 refine ae (ai ?_)
 refine ji Z Z (ltN Z) (fun b2 => ?_)
 refine ji Z Z (ltN Z) (fun b3 => ?_)
 refine AR Z (AT (aa (ae (ai (AP (am 0 Z Z Z) (AP (am 1 Z Z Z) ?_))))))
 refine AP (ao (h) Z ⟨A,A,AU⟩) ?_
 refine AR Z (AT (aa (aH ?_)))
 refine aX Tryz.results124 (.tmp Z A)
theorem Ad {r c:Nat} {F:Nat→Nat→Int} : VT.le (slT (.agg 2) r (fun q=>aW (d8 r (fun i=>(eo c (F i):Int)) q))) (slT (.agg 2) r (fun t=>aW (iP r c F t:Int))):=fy fun q hq=>jk (by rw [nH hq])
theorem rZ (r c:Nat) (F:Nat→Nat→Int) (hr:r≤12) (hc:c≤1048576) (hF : ∀ i j,jD (F i j)):Ok Tryz.prog 82 [ch r c F] (slT (.agg 2) r (fun t=>aW (iP r c F t:Int))):=by
 have hd:=fun i=>zT c c (F i) (F i) hc hc (hF i) (hF i)
 have hd' : ∀ i,Ok Tryz.prog 122 [d6 c (F i),d6 c (F i)] (bv [aW (eo c (F i):Int),one (.int .i64 0)]):=fun i=>by
  have h:=hd i
  rw [if_pos Z,if_pos Z, ← tj] at h;exact h
 clear hd
 unfold ch d6 at *
 refine Ok.enter Tryz.func82 Z Tryz.ntmps82 Z (fun w O => ?_)
 refine ae (ai ?_)
 refine bE Z Z (ltN Z) (fun b1 => ?_)
 refine AR Z (AT (aa (ae (ai (AR Z (AT (aa (ae (ae ?_)))))))))
 refine ai (AP (aj Z) (AP (am 0 Z Z Z) (AP (bh Z) (AQ Z (AT (aa (aw ?_)))))))
 refine iD (ConvM.nilSl0 (T:=28) (L := .agg 2) (φ:=fun _=>bN) _) ?_
 refine cD (Γ' := [(2,_),(3,_),(9,_),(10,_),(11,_)]) AK (SubM.refl _) ?_
 refine bS (σ:=Nat × Option Nat × Nat) (Γk := [(2,_),(9,_),(10,_)]) AK (fun s => [(11,one (.int .i64 (s.1:Nat))),(3,one (slV s.2.1 s.1 s.2.2))]) (fun s M0=>(M0.set 0 (aI s.2.1 28 (.agg 2) s.2.2 s.1 (fun q=>aW (eo c (F q):Int))))) (fun s=>s.1≤r) (fun s=>r - s.1) ((0,none,0)) (Nat.zero_le _) (by (repeat (first | exact dG.nil | refine dG.cons Z A ?_ | refine dG.cons Z yG ?_))) (.keep (bZ (fun q hq=>absurd hq (Nat.not_lt_zero _))) (.keep AO (.nil))) (fun s hs => ?_)
 refine co (Γ' := [(11,_),(3,_),(2,_),(9,_),(10,_)]) (M' := [_,_]) Z Z ?_
 obtain ⟨i,sv,cap⟩:=s
 dsimp only at hs ⊢
 by_cases hi:i<r
 ·refine ae (ai (AP (sT X (bH Z Z)) (AT (aa (ae (aP Z (az (aa (ae ?_)))))))))
  refine aw (ae (ai (AP (aR Z Z X) (AP (bj Z) (AR Z (AT (aa (ae (ai ?_)))))))))
  refine AQ Z (AQ Z ?_)
  refine AP (ao (hd' _) Z ⟨A,A,AU⟩) ?_
  refine AQ Z (AP (aD Z Z) (AP (aD Z Z) ?_))
  refine aU (T:=28) Z (ltN Z) (fun b6 => ?_)
  refine au 0 Z Z Z Z Z (leN Z) Z (AR Z (AT (aa (ai (AQ Z (AP (am 0 Z Z Z) (po Z Z Z Z ?_)))))))
  (refine eH 1 Z Z Z (leN Z) ?_ ?_ Z (ltN Z) (fun sv24 cap24 => ?_);omega;omega)
  refine AR Z (AT (aK (aa (ai (AP (bV _ 1 Z Z X) (AQ Z (AT ?_)))))))
  refine aZ ((i+1,sv24,cap24)) (hi) X AL (.drop (.keep (ut (h:=fun q=>(eo c (F q):Int)) Z) (.keep AO (.nil))))
 ·have he:i=r:=by omega
  subst he
  have hso:=qL sv cap i (fun q=>(eo c (F q):Int)) (one (.func (.func 124) #[] #[])) hr (fun x y _ _=>fm.fn (uN x y))
  refine ae (ai (AP (sF X (bH Z Z)) (AT (aa (ae (aE Z (a8 (ay (ay ?_)))))))))
  refine aM (aa (ae (ai (AQ Z ?_))))
  refine gW (Kp := [_]) hso Z ⟨A,A,AU⟩ (List.Perm.refl _) Z Z (fun _ => ?_)
  refine AT (aa (ae (ai (AQ Z (AR Z (AT (aa (aH (dX (t:=2) (i:=0) Z Z ?_)))))))))
  refine aX Tryz.results82 (.tmp Z (Ad))
theorem yI (n:Nat) (g:Nat→Nat) (B:Nat) (hn:n≤1048576) (hB:1≤B) (hp:B^n<2^800) (hg : ∀ i,i<n→g i≤B):Ok Tryz.prog 81 [slT (.agg 2) n (fun t=>aW (g t:Int))] (aW (upN (prN n g):Int)):=by
 have h1:=io 1 U U
 refine Ok.enter Tryz.func81 Z Tryz.ntmps81 Z (fun w O => ?_)
 refine ae (ai ?_)
 refine aU (T:=28) Z (ltN Z) (fun b2 => ?_)
 refine AT (aa (ae (ai ?_)))
 refine AP (ao (h1) Z ⟨A,AU⟩) ?_
 refine aU (T:=28) Z (ltN Z) (fun b3 => ?_)
 refine au 0 Z Z Z Z Z (leN Z) Z (AT (aa (ae (ae (ai (AQ Z (AP (bh Z) (AQ Z (AT ?_)))))))))
 refine aa (aw (cD (Γ' := [(2,_),(3,_),(9,_),(10,_),(11,_)]) AK (SubM.refl _) ?_))
 refine bS (σ:=Nat) (Γk := [(2,_),(3,_),(9,_),(10,_)]) AK (fun i => [(11,one (.int .i64 (i:Nat)))]) (fun i M0=>(M0.set 0 (aQ b3 28 2 [(0, .agg 2,aW (prN i g:Int))]))) (fun i=>i≤n) (fun i=>n - i) (0) (Nat.zero_le _) AL (.keep AO (.keep AO (.nil))) (fun i hi => ?_)
 refine co (Γ' := [(11,_),(2,_),(3,_),(9,_),(10,_)]) (M' := [_,_]) Z Z ?_
 by_cases hi:i<n
 ·have hB8:=AC hB hp X
  have hm:=fN (prN i g:Int) (g i:Int) (wC (wD (wE hB hp hg (Nat.le_of_lt hi)))) (wC (wD (Nat.lt_of_le_of_lt (hg i hi) hB8)))
  have hs:((prN (i+1) g:Nat):Int)=(prN i g:Int)*(g i:Int):=by rw [prN,Int.natCast_mul]
  refine ae (ai (AP (sT X (bH Z Z)) (AT (aa (ae (aP Z (az (aa (ae ?_)))))))))
  refine aw (ae (ai (AP (aR Z Z X) (AP (bj Z) ?_))))
  refine aU (T:=28) Z (ltN Z) (fun b5 => ?_)
  refine au 0 Z Z Z Z Z (leN Z) Z (AT (aa (ai (AP (am 1 Z Z Z) (AP (am 0 Z Z Z) ?_)))))
  refine AP (ao (hm) Z ⟨A,A,AU⟩) ?_
  refine au 1 Z Z Z Z Z (leN Z) Z (AT (aK (aa (ai (AP (bV _ 1 Z Z X) (AQ Z (AT ?_)))))))
  refine aZ (i+1) (hi) X AL (.drop (.keep AO (.keep AO (.nil))))
 ·have he:i=n:=by omega
  subst he
  have ha:=wE hB hp hg (Nat.le_refl i)
  generalize prN i g=a at *
  have h2:=iO a
  have hs:=zV a
  have hro:Ok Tryz.prog 121 [aW (a:Int)] (bv [aW (isq a:Int),one (.int .i64 0)]):=by
   by_cases h0:a=0
   ·subst h0;exact vQ
   ·exact x4 a (isq a) ha h0 h2.1 h2.2
  have hsm:ci (isq a:Int):=wC (Nat.le_trans hs (wD ha))
  have hm:=fN (isq a:Int) (isq a:Int) hsm hsm
  have hq:(isq a:Int)*(isq a:Int)=((isq a*isq a:Nat):Int):=(Int.natCast_mul _ _).symm
  have hc:=iZ ((isq a:Int)*(isq a:Int)) (a:Int)
  have had:=fM (isq a:Int) 1 hsm kM
  unfold upN
  by_cases hlt:isq a*isq a<a
  ·have hcc:cT ((isq a:Int)*(isq a:Int)) (a:Int)<0:=by rw [hq]; unfold cT;rw [if_pos X]; decide
   rw [if_pos hlt]
   generalize cT ((isq a:Int)*(isq a:Int)) (a:Int)=cc at *
   refine ae (ai (AP (sF X (bH Z Z)) (AT (aa (ae (aE Z (a8 (ay (ay ?_)))))))))
   refine aM (aa (ae (ai (AP (am 0 Z Z Z) ?_))))
   refine AP (ao (hro) Z ⟨A,AU⟩) ?_
   refine AQ Z (AP (aD Z Z) (AP (aD Z Z) ?_))
   refine aU (T:=28) Z (ltN Z) (fun b6 => ?_)
   refine au 0 Z Z Z Z Z (leN Z) Z (AR Z (AT (aa (ae (ae (bG 6 bL Y U (AP (am 0 Z Z Z) (AP (am 0 Z Z Z) ?_))))))))
   refine AP (ao (hm) Z ⟨A,A,AU⟩) ?_
   refine AP (am 1 Z Z Z) ?_
   refine AP (ao (hc) Z ⟨A,A,AU⟩) ?_
   refine AP (sT (by assumption) (bH Z Z)) (AT (AT (aa (aP Z (bG 2 bL Y U (AP (am 0 Z Z Z) ?_))))))
   refine AP (ao (h1) Z ⟨A,AU⟩) ?_
   refine AT ?_
   refine AP (ao (had) Z ⟨A,A,AU⟩) ?_
   refine au 0 Z Z Z Z Z (leN Z) Z (AT (aa (ae (ai (AP (am 0 Z Z Z) (au 2 Z Z Z Z Z (leN Z) Z (AT (aa (aH ?_)))))))))
   refine aX Tryz.results81 (.cellB 2 Z Z Z (nG X))
  ·have hcc : ¬ cT ((isq a:Int)*(isq a:Int)) (a:Int)<0:=by
    rw [hq]; unfold cT;rw [if_neg X]; split <;> decide
   rw [if_neg hlt]
   generalize cT ((isq a:Int)*(isq a:Int)) (a:Int)=cc at *
   refine ae (ai (AP (sF X (bH Z Z)) (AT (aa (ae (aE Z (a8 (ay (ay ?_)))))))))
   refine aM (aa (ae (ai (AP (am 0 Z Z Z) ?_))))
   refine AP (ao (hro) Z ⟨A,AU⟩) ?_
   refine AQ Z (AP (aD Z Z) (AP (aD Z Z) ?_))
   refine aU (T:=28) Z (ltN Z) (fun b6 => ?_)
   refine au 0 Z Z Z Z Z (leN Z) Z (AR Z (AT (aa (ae (ae (bG 6 bL Y U (AP (am 0 Z Z Z) (AP (am 0 Z Z Z) ?_))))))))
   refine AP (ao (hm) Z ⟨A,A,AU⟩) ?_
   refine AP (am 1 Z Z Z) ?_
   refine AP (ao (hc) Z ⟨A,A,AU⟩) ?_
   refine AP (sF (by assumption) (bH Z Z)) (AT (AT (aa (aE Z (az (aa (ae (ai (AP (am 0 Z Z Z) ?_)))))))))
   refine au 2 Z Z Z Z Z (leN Z) Z (AT (aa (aH ?_)))
   refine aX Tryz.results81 (.cellB 2 Z Z Z A)
end Tor
end
section
namespace Tor
open Go Go.RowKit Go.Proofs
variable [Tor.Co.Kc]
attribute [local irreducible] J PJ aB one slT bJ bB bv exT cd eP aQ aI slV VT.le Ret bN dD ek
attribute [local irreducible] aW
theorem oX (r c:Nat) (F:Nat→Nat→Int) (h:r≠c):Ok Tryz.prog 57 [ch r c F] (bv [aW 0,one (.int .i64 50)]):=by
 have hv:=kv r c F
 unfold ch at *
 refine Ok.enter Tryz.func57 Z Tryz.ntmps57 Z (fun w O => ?_)
 refine ae (ai ?_)
 refine bE Z Z (ltN Z) (fun b1 => ?_)
 refine aU (T:=28) Z (ltN Z) (fun b2 => ?_)
 refine AR Z (AT (aa (ae (ae (ai (AP (bM 1 Z Z) ?_))))))
 refine AP (ao (hv) Z ⟨A,AU⟩) ?_
 refine AP (dl Z) (AQ Z (AS (aj Z) (AS (am 1 Z Z Z) (AS (aj Z) (AS (am 1 Z Z Z) (AS (sT X (eh Z Z)) (AP (bY Z Z) (AT (aa ?_)))))))))
 refine aP Z (ae (ai (stB Z Z Z (BuildK.nil (au 0 Z Z Z Z Z (leN Z) Z (AR Z (AT (aa (aH ?_)))))))))
 refine aL ?_
 refine c5 Tryz.results57 (.cellB 0 Z Z Z (gO)) (.tmp Z A)
theorem iT (r:Nat) (F:Nat→Nat→Int) (B:Nat) (hr:r≤12) (hF : ∀ i j,jD (F i j)) (hB:1≤B) (hn:B^r<2^800) (hl : ∀ i,i<r→eo r (F i)≤B):Ok Tryz.prog 57 [ch r r F] (bv [aW (upN (prN r (iP r r F)):Int),one (.int .i64 0)]):=by
 have hv:=kv r r F
 have hle:=rZ r r F hr X hF
 have hro:=yI r (iP r r F) B X hB hn (fun i hi=>yf hl hi)
 unfold ch at *
 refine Ok.enter Tryz.func57 Z Tryz.ntmps57 Z (fun w O => ?_)
 refine ae (ai ?_)
 refine bE Z Z (ltN Z) (fun b1 => ?_)
 refine aU (T:=28) Z (ltN Z) (fun b2 => ?_)
 refine AR Z (AT (aa (ae (ae (ai (AP (bM 1 Z Z) ?_))))))
 refine AP (ao (hv) Z ⟨A,AU⟩) ?_
 refine AP (dl Z) (AQ Z (AS (aj Z) (AS (am 1 Z Z Z) (AS (aj Z) (AS (am 1 Z Z Z) (AS (sF X (eh Z Z)) (AP (bY Z Z) (AT (aa ?_)))))))))
 refine aE Z (az (aa (ae (ai (AP (bM 1 Z Z) ?_)))))
 refine AP (ao (hle) Z ⟨A,AU⟩) ?_
 refine AP (ao (hro) Z ⟨A,AU⟩) ?_
 refine au 0 Z Z Z Z Z (leN Z) Z (AR Z (AT (aa (aH ?_))))
 refine c5 Tryz.results57 (.cellB 0 Z Z Z A) (.tmp Z A)
end Tor
end
section
namespace Tor
open Go Go.RowKit Go.Proofs
section
variable [Co.Kc] {P:Program} {E:Env} {D:List Deferred} {Γ:Ctx} {M:Mem} {Q:Exit→Act→World→Prop} {x y:Code}
def JX (P:Program) (E:Env) (D:List Deferred) (Γ:Ctx) (M:Mem) (c:Code) (Q:Exit→Act→World→Prop):Prop := ∀ a w,St E D Γ M a w→Co.WpX P E.R c Q a w
theorem JX.seq (hc:OkC E.R x) (h:J P E D Γ M x (Exit.then (fun a w=>Co.WpX P E.R y Q a w) Q)):JX P E D Γ M (.seq x y) Q:=fun a w hS=>Co.wpX_seq (h a w hS hc)
theorem r5 (h:JX P E D Γ M y Q):PJ E D Γ M .normal (Exit.then (fun a w=>Co.WpX P E.R y Q a w) Q):=fun a w hS=>h a w hS
theorem Ok.enterX {f:FuncId} {fn:Func} {c:Code} {N:Nat} {φs:List VT} {ψ:VT} (hf:P.funcs[f]? = some fn) (hb:fn.body=some c) (hN:fn.ntmps=N) (hle:Nat.ble φs.length N=true)
  (h : ∀ (w:World) (O:List Nat),JX P ⟨w,O, [],N,none⟩ [] (fx 0 φs) [] c (cA P fn (Ret O ψ w))):Ok P f φs ψ:=fun w O vs hO hv'=>by
 have hl:=gC hv'
 have hle':=Nat.le_of_ble_eq_true hle
 refine Co.callsX_of hf hb (h w O _ w ⟨⟨by simp,by simp,by simp,by simp,?_,Fr.refl _ _⟩,?_,rfl,?_⟩)
 ·intro b hb';exact hO b (by simpa using hb')
 ·simp [hN]; omega
 ·intro t φ e
  obtain ⟨v,_,h2,h3⟩:=ey e hv'
  have h4:hv ⟨w,O, [],N,none⟩ [] w=hid O (view w):=by simp [hv]
  rw [h4]
  rw [Nat.sub_zero] at h2
  have hlt:=(List.getElem?_eq_some_iff.1 h2).1
  rw [Array.getD_eq_getD_getElem?,Array.getElem?_append_left (by simpa using hlt)]
  simpa [h2] using h3
end
section
variable {E:Env} {D:List Deferred} {Γ:Ctx} {M:Mem}
theorem xf {d:Co.DD} {a a':Act} {w w':World} {T:TypeId} {cap:Nat} {φ ψ:Nat→VT} {Γ':Ctx} (hS:St E D Γ (aI (some d.C) T (.agg 2) cap d.n φ :: M) a w) (h:Co.AfterW d w w') (hcap:cap=d.n) (hT:T=d.eC)
  (hψ : ∀ i c h,i<d.n→c[2*i]? = some (d.pv i).1→c[2*i+1]? = some (d.pv i).2→c.size=2*d.n → ∃ x,bK (.agg 2) c (i*2)=some x∧(ψ i).p x h)
  (hsz:a'.tmps.size=a.tmps.size) (hdf:a'.defers=a.defers) (hk : ∀ t φ,bD Γ' t=some φ→bD Γ t=some φ∧a'.tmps.getD t undef=a.tmps.getD t undef) :
  St E D Γ' (aI (some d.C) T (.agg 2) cap d.n ψ :: M) a' w':=by
 have hbl:aV (aI (some d.C) T (.agg 2) cap d.n ψ :: M)=aV (aI (some d.C) T (.agg 2) cap d.n φ :: M):=rfl
 have hC:d.C∈aV (aI (some d.C) T (.agg 2) cap d.n φ :: M):=by simp [aI]
 have hnd:=hS.base.nd
 have hCM:d.C ∉ aV M:=by
  rw [blks_cons] at hnd
  simp [aI] at hnd
  exact hnd.1
 have hCl:d.C<w.heap.size:=hS.base.ex _ (List.mem_append.2 (.inr hC))
 have hle:Hp.le (hv E (aI (some d.C) T (.agg 2) cap d.n φ :: M) w) (hv E (aI (some d.C) T (.agg 2) cap d.n ψ :: M) w'):=fun b x e=>by
  obtain ⟨h1,h2⟩:=cY e
  refine eA (by rw [hbl]; exact h1) ?_
  have hlt:=eD h2
  have hne:b≠d.C:=fun e=>h1 (List.mem_append.2 (.inr (e▸hC)))
  obtain ⟨c,T',f⟩:=x
  exact fF ((h.block b hlt fun _=>hne).trans (dJ h2))
 refine ⟨⟨fun o ho => ?_,by rw [hbl]; exact hnd,fun b hb=>hS.base.dis b (by rwa [hbl] at hb),fun b hb=>hS.base.lo b (by rwa [hbl] at hb),fun b hb=>Nat.lt_of_lt_of_le (hS.base.ex b (by rwa [hbl] at hb)) h.size,?_⟩,hsz.trans hS.sz,hdf.trans hS.df,fun t χ ht => ?_⟩
 ·rcases List.mem_cons.1 ho with rfl | ho
  ·obtain ⟨h1,h2,h3,h4⟩:=hS.base.mem _ List.mem_cons_self
   refine ⟨h1,h2,h3,fun b hb => ?_⟩
   cases hb
   obtain ⟨c,g1,g2,_⟩:=h4 _ Z
   by_cases hn:0<d.n
   ·obtain ⟨c',p1,p2,p3⟩:=h.pay hn
    refine ⟨c',?_,by rw [p2,hcap]; show _=d.n*2;omega,fun i hi => ?_⟩
    ·rw [hT]; unfold vw raw;rw [p1]
    ·obtain ⟨q1,q2⟩:=p3 i hi
     exact hψ i c' _ hi q1 q2 p2
   ·refine ⟨c,?_,g2,fun i hi=>absurd hi X⟩
    exact uT (fw (h.block _ hCl fun hn'=>absurd hn' hn)).symm g1
  ·refine o.loc (fun b hb => ?_) hle (hS.base.mem o (List.mem_cons_of_mem _ ho))
   have hbM:b∈aV M:=List.mem_flatMap.2 ⟨o,ho,hb⟩
   have hlt:b<w.heap.size:=hS.base.ex b (List.mem_append.2 (.inr (by rw [blks_cons]; exact List.mem_append.2 (.inr hbM))))
   exact (fw (h.block b hlt fun _ e=>hCM (e▸hbM))).symm
 ·have hf:=hS.base.fr
  refine ⟨h.os.trans hf.os,h.tape.trans hf.tape,h.output.trans hf.output,Nat.le_trans hf.size h.size,fun k hk hkI => ?_⟩
  refine (h.block k (Nat.lt_of_lt_of_le hk hf.size) fun _ e => ?_).trans (hf.block k hk hkI)
  subst e
  rcases hS.base.lo _ hC with h1 | h1
  ·omega
  ·exact hkI h1
 ·obtain ⟨h1,h2⟩:=hk t χ ht
  rw [h2]
  exact χ.mono hle (hS.tm t χ h1)
end
end Tor
end
section
namespace Tor
open Go Go.RowKit Go.Proofs
@[reducible] noncomputable instance detK:Co.Kc:=Co.pieceK Co.detT
theorem nQ {P:Nat} (h:P<2^598):upN P<2^300:=by
 have h1:upN P≤upN (2^598):=zU (Nat.le_of_lt h)
 have h2:upN (2^598)=2^299:=rK V (fun t ht=>by
  have:=Nat.mul_lt_mul_of_lt_of_le ht (Nat.le_of_lt ht) V
  exact Nat.lt_of_lt_of_le this V)
 rw [h2] at h1
 exact Nat.lt_of_le_of_lt h1 V
theorem Ae {P:Program} {E:Env} {D:List Deferred} {Γ:Ctx} {M:Mem} {Q:Exit→Act→World→Prop} {T:Co.Piece} (hR:E.R=none) (h : ∀ a w,St E D Γ M a w → ∃ d,T.good d a w ∧ ∀ a' w',T.after a a'→Co.AfterW d w w' → @Co.WpX (Co.pieceK T) P none T.z Q a' w') : @JX (Co.pieceK T) P E D Γ M T.c Q:=fun a w hS=>by
 obtain ⟨d,h1,h2⟩:=h a w hS
 rw [hR]
 exact Co.wpX_ask h1 h2
theorem uO {Ms:Mem} {cs:bT} : n6 Ms cs cs:=fun q hq=>⟨q.2.2,hq,Ent.refl _⟩
theorem Af {c:Array Value} {i:Nat} {p r:Nat} {h:Hp} (h1:c[2*i]? = some (.int .u64 (p:Nat))) (h2:c[2*i+1]? = some (.int .u64 (r:Nat))) : ∃ x,bK (.agg 2) c (i*2)=some x∧(jf (p,r)).p x h:=by
 have hs:2*i+1<c.size:=(Array.getElem?_eq_some_iff.1 h2).1
 have e:c.extract (i*2) (i*2+2) = #[.int .u64 (p:Nat), .int .u64 (r:Nat)]:=by
  apply Array.ext_getElem?
  intro j
  rw [cE]
  match j with
  | 0 => rw [if_pos X, show i * 2 + 0 = 2 * i by omega, h1]; rfl
  | 1 => rw [if_pos X, show i * 2 + 1 = 2 * i + 1 by omega, h2]; rfl
  | j + 2 => rw [if_neg X]; rfl
 refine ⟨.agg #[.int .u64 (p:Nat), .int .u64 (r:Nat)],?_,?_⟩
 ·show (if i*2+2≤c.size then some (Value.agg (c.extract (i*2) (i*2+2))) else none)=_
  rw [if_pos X,e]
 ·unfold jf
  refine ⟨_,rfl,rfl,by simp [Value.oneCell'],fun q hq => ?_⟩
  rcases List.mem_cons.1 hq with rfl | hq
  ·exact ⟨_,rfl,rfl⟩
  rcases List.mem_cons.1 hq with rfl | hq
  ·exact ⟨_,rfl,rfl⟩
  cases hq
theorem xg {Ms:Mem} {sv:Option Nat} {T:TypeId} {cap n:Nat} {L:List (Nat × Nat)} (hn:L.length=n) (hm:aI sv T (.agg 2) cap n (fun i=>jf (L.getD i (0,0)))∈Ms):Ent Ms (one (slV sv n cap)) (gM L):=by
 subst hn;exact Ent.slE hm fun q _=>Ent.refl _
theorem Ag {w0:World} {O:List Nat} {Γ:Ctx} {M:Mem} {Q:Exit→Act→World→Prop} {n bC b2 b7:Nat} {F:Nat→Nat→Int} {l:List Nat} {f:Nat→Nat} {φ:Nat→VT} (g1:bD Γ 1=some (bJ (.agg 3) (ch n n F))) (g6:bD Γ 6=some (qE l)) (g7:bD Γ 7=some (one (.pointer (some ⟨b7,0,none⟩)))) (g2:bD Γ 2=some (one (.pointer (some ⟨b2,0,none⟩))))
  (hl:l.length<2147483648) (hres : ∀ p∈l, @Ok Co.noAsk Tryz.prog 21 [ch n n F,one (.int .u64 (p:Nat))] (bv [one (.agg #[.int .u64 (p:Nat), .int .u64 (f p:Nat)]),one (.int .i64 0)]))
  (hk:J Tryz.prog ⟨w0,O, [],40,none⟩ [] [(2,one (.pointer (some ⟨b2,0,none⟩))),(7,one (.pointer (some ⟨b7,0,none⟩)))] (aI (some bC) 50 (.agg 2) l.length l.length (fun i=>jf ((l.map fun p=>(p,f p)).getD i (0,0))) :: aQ b7 46 1 [(0, .one,one (slV (some bC) l.length l.length))] :: M) Co.detL Q) :
  JX Tryz.prog ⟨w0,O, [],40,none⟩ [] Γ (aI (some bC) 50 (.agg 2) l.length l.length φ :: aQ b7 46 1 [(0, .one,one (slV (some bC) l.length l.length))] :: M) Co.detC Q:=by
 refine Ae (T:=Co.detT) Z fun a w hS => ?_
 have hget : ∀ i,i<l.length→l.getD i 0∈l:=fun i hi=>by
  rw [List.getD_eq_getElem?_getD,List.getElem?_eq_getElem hi]; exact List.getElem_mem hi
 let d:Co.DD:=⟨l.length,bC,50,3,47,fun i=>(.int .u64 (l.getD i 0:Nat), .int .u64 (f (l.getD i 0):Nat)),fun i=>(.int .i64 (i:Nat), .int .u64 (l.getD i 0:Nat))⟩
 have hbase:=hS.base
 have hnd:=hbase.nd
 have hne:b7≠bC:=fun e=>by
  subst e
  simp [aV,aI,aQ] at hnd
 refine ⟨d,⟨n,F,fun i=>l.getD i 0,fun i=>f (l.getD i 0),b7,l.length,O ++ aV (aI (some bC) 50 (.agg 2) l.length l.length φ :: aQ b7 46 1 [(0, .one,one (slV (some bC) l.length l.length))] :: M),?_⟩,fun a' w' h1 h2 => ?_⟩
 ·refine ⟨hS.sz,hS.df,hl,rfl,rfl,rfl,List.mem_append.2 (.inr (by simp [aI,d])),fun i _=>rfl,fun i _=>rfl,fun i hi=>hres _ (hget i hi),hS.tm 1 _ g1,hS.tm 6 _ g6,hS.tm 7 _ g7,?_,hne,?_⟩
  ·exact oT (hbase.mem _ (List.mem_cons_of_mem _ List.mem_cons_self))
  ·obtain ⟨_,_,_,h4⟩:=hbase.mem _ List.mem_cons_self
   obtain ⟨c,e1,e2,_⟩:=h4 bC Z
   refine ⟨c,?_,by rw [e2]; show l.length*2=2*l.length;omega⟩
   unfold vw raw at e1
   split at e1
   ·rename_i e;cases e1;exact e
   ·cases e1
 ·obtain ⟨k1,k2,k3,k4⟩:=h1
  have hS':=xf (d:=d) (a':=a') (w':=w') (ψ:=fun i=>jf ((l.map fun p=>(p,f p)).getD i (0,0))) (Γ' := [(2,one (.pointer (some ⟨b2,0,none⟩))),(7,one (.pointer (some ⟨b7,0,none⟩)))]) hS h2 Z Z (fun i c h hi q1 q2 _=>by
   have e:(l.map fun p=>(p,f p)).getD i (0,0)=(l.getD i 0,f (l.getD i 0)):=by
    have hi':i<l.length:=hi
    simp [List.getD_eq_getElem?_getD,hi']
   rw [e]
   exact Af q1 q2) (k1.trans hS.sz.symm) (k2.trans hS.df.symm) (fun t χ ht=>by
   rw [aY] at ht
   split at ht
   ·rename_i e;subst e;cases ht;exact ⟨g2,k3⟩
   ·rw [aY] at ht
    split at ht
    ·rename_i e;subst e;cases ht;exact ⟨g7,k4⟩
    ·cases ht)
  exact w8 hk hS' ⟨.inl Z,by kernel_rfl⟩
attribute [local irreducible] J PJ aB one slT bJ bB bv exT cd eP aQ aI slV VT.le Ret bN dD ek
attribute [local irreducible] aW d6
theorem r6 (n:Nat) (F:Nat→Nat→Int) (B:Nat) (hn:n≤12) (hF : ∀ i j,jD (F i j)) (hB:1≤B) (hBn:B^n<2^598) (hl : ∀ i,i<n→eo n (F i)≤B):Ok Tryz.prog 40 [ch n n F] (bv [aW (Lin.cg n F),one (.int .i64 0)]):=by
 have hH:=iT n F B hn hF hB (Nat.lt_trans hBn V) hl
 have hb3:upN (prN n (iP n n F))<2^300:=by
  rw [qr]
  exact nQ (Nat.lt_of_le_of_lt (oN hl n (Nat.le_refl n)) hBn)
 have hdet:(Lin.cg n F).natAbs≤upN (prN n (iP n n F)):=by rw [qr]; exact tk n F
 generalize upN (prN n (iP n n F))=b at *
 obtain ⟨l,hnd⟩:=yv hdet hb3
 have hN:=uL 2147483648 (b:Int) U (by show (b:Int).natAbs≤2^400;rw [Int.natAbs_natCast]; exact Nat.le_of_lt (Nat.lt_trans hb3 V)) (some l) hnd.nd
 replace hN:Ok Tryz.prog 63 [aW (b:Int),one (.int .u64 ((2147483648:Nat):Int))] (qE l):=hN
 have hlen:=hnd.len
 have hC:=mz (l.map fun p=>(p,ii n F p)) (fun p hp=>by
  obtain ⟨x,hx,rfl⟩:=List.mem_map.1 hp
  obtain ⟨_,h2,h3⟩:=hnd.mem x hx
  have:=tp (n:=n) (F:=F) (p:=x) (by have:=h2.1;omega)
  exact ⟨by show x<_;omega,by show ii n F x<_;omega⟩) (by rw [List.length_map]; omega) hnd.val
 rw [hnd.comb] at hC
 have hsm : ∀ i j,ci (F i j):=fun i j=>dU (hF i j)
 refine Ok.enterX Tryz.func40 Z Tryz.ntmps40 Z (fun w O => ?_)
 refine JX.seq ⟨.inl Z,by kernel_rfl⟩ ?_
 refine ai ?_
 refine bE Z Z (ltN Z) (fun b1 => ?_)
 refine aU (T:=28) Z (ltN Z) (fun b2 => ?_)
 refine AR Z (AT (r5 ?_))
 refine JX.seq ⟨.inl Z,by kernel_rfl⟩ ?_
 refine ai (AP (bM 1 Z Z) ?_)
 refine AP (ao (hH) Z ⟨A,AU⟩) ?_
 refine AQ Z (AP (aD Z Z) (AP (aD Z Z) ?_))
 refine aU (T:=28) Z (ltN Z) (fun b4 => ?_)
 refine au 0 Z Z Z Z Z (leN Z) Z (AR Z (AT (r5 ?_)))
 refine JX.seq ⟨.inl Z,by kernel_rfl⟩ ?_
 refine ae (ai (AQ Z (AP (sF X (eh Z Z)) (AT (aa (aE Z (az (r5 ?_))))))))
 refine JX.seq ⟨.inl Z,by kernel_rfl⟩ ?_
 refine ai (AP (am 0 Z Z Z) ?_)
 refine AP (ao (hN) Z ⟨A,A,AU⟩) ?_
 refine AR Z (AT (r5 ?_))
 refine JX.seq ⟨.inl Z,by kernel_rfl⟩ ?_
 refine ai (AQ Z (AP (bh Z) ?_))
 refine cx l.length l.length Z Z Z Z (Nat.le_refl _) Z Z X Z Z (fun bC => ?_)
 refine aU (T:=46) Z (ltN Z) (fun b7 => ?_)
 refine au 0 Z Z Z Z Z (leN Z) Z (AT ?_)
 refine fh [_] (List.perm_append_comm (l₁ := [_,_,_,_]) (l₂ := [_])) (EntM.refl _) (tM.set (t:=1) Z (Ent.ptrW List.mem_cons_self uO)) ?_
 refine fe (.ofPerm (List.Perm.swap _ _ _)) (r5 ?_)
 refine Ag (b2:=b2) (f:=ii n F) (l:=l) Z Z Z Z X (fun p hp => ?_) ?_
 ·obtain ⟨h1,h2,h3⟩:=hnd.mem p hp
  exact @mN Co.noAsk p n F h1 h2.1 h3 (Pr.invP h2) hsm X
 conv=>arg 6;dsimp only [Co.detL,Co.detC,Co.sndC,Co.bodyD,Tryz.f40,Option.getD_some]
 refine u6 [_] (List.Perm.refl _) (.keep (tL.box (cs' := [(0, .one,gM (l.map fun p=>(p,ii n F p)))]) (.cons List.mem_cons_self (xg (by rw [List.length_map]) List.mem_cons_self) .nil)) (EntM.refl _)) (tM.refl _) ?_
 refine ae (ai (AP (am 0 Z Z Z) ?_))
 refine AP (ao (hC) Z ⟨A,AU⟩) ?_
 refine AP (aD Z Z) (AP (aD Z Z) (au 2 Z Z Z Z Z (leN Z) Z (AR Z (AT (aa (aH ?_))))))
 refine c5 Tryz.results40 (.cellB 2 Z Z Z A) (.tmp Z A)
end Tor
end
section
namespace Tor
open Go Go.RowKit Go.Proofs
variable [Tor.Co.Kc]
def fsL (l:List (Nat × Nat)):List Nat:=l.map (·.1)
theorem tv (l:List (Nat × Nat)):(fsL l).length=l.length:=List.length_map _
theorem tx (l:List (Nat × Nat)) (i:Nat):(fsL l).getD i 0=(l.getD i (0,0)).1:=by
 unfold fsL
 rw [List.getD_eq_getElem?_getD,List.getD_eq_getElem?_getD,List.getElem?_map]
 cases l[i]? <;> rfl
theorem yJ {sv:Option Nat} {T:TypeId} {cap c i:Nat} {l:List (Nat × Nat)} : Own.le (aI sv T .one cap c (upd (fun q=>one (.int .u64 ((if q<i then (l.getD q (0,0)).1 else 0:Nat)))) i (one (.int .u64 ((l.getD i (0,0)).1:Nat))))) (aI sv T .one cap c (fun q=>one (.int .u64 ((if q<i+1 then (l.getD q (0,0)).1 else 0:Nat))))):=bZ fun q _=>by
 unfold upd
 by_cases h:q=i
 ·subst h;rw [if_pos Z,if_pos (Nat.lt_succ_self q)]
 ·rw [if_neg h]
  dsimp only
  by_cases h2:q<i
  ·rw [if_pos h2,if_pos X]
  ·rw [if_neg h2,if_neg X]
theorem yK {sv:Option Nat} {T:TypeId} {cap c i:Nat} {l:List (Nat × Nat)} (hc:c=l.length) (h:c≤i):Own.le (aI sv T .one cap c (fun q=>one (.int .u64 ((if q<i then (l.getD q (0,0)).1 else 0:Nat))))) (aI sv T .one cap c (fun q=>one (.int .u64 ((fsL l).getD q 0:Nat)))):=bZ fun q hq=>by
 rw [if_pos X,tx]
theorem Ah {Ms:Mem} {sv:Option Nat} {T:TypeId} {cap n:Nat} {L:List Nat} (hn:L.length=n) (hm:aI sv T .one cap n (fun q=>one (.int .u64 (L.getD q 0:Nat)))∈Ms):Ent Ms (one (slV sv n cap)) (qE L):=by
 subst hn;exact Ent.slE hm fun q _=>Ent.refl _
attribute [local irreducible] J PJ aB one slT bJ bB bv exT cd eP aQ aI slV VT.le Ret bN dD ek
attribute [local irreducible] aW d6
theorem oY (n:Nat) (F:Nat→Nat→Int) (B:Nat) (l:List (Nat × Nat)) (hn:n≤12) (hF : ∀ i j,jD (F i j)) (hB:1≤B) (hBn:B^n<2^800) (hl : ∀ i,i<n→eo n (F i)≤B) (h64:mv l) (hv:dN [] l=false) :
  Ok Tryz.prog 25 [ch n n F,gM l] (bv [aW 0,one (.int .i64 40)]):=by
 have hH:=iT n F B hn hF hB hBn hl
 generalize upN (prN n (iP n n F))=b at *
 have hC:=qc l h64 hv
 refine Ok.enter Tryz.func25 Z Tryz.ntmps25 Z (fun w O => ?_)
 refine ae (ai ?_)
 refine bE Z Z (ltN Z) (fun b2 => ?_)
 refine aU (T:=28) Z (ltN Z) (fun b4 => ?_)
 refine AR Z (AT (aa (ae (ai (AP (bM 1 Z Z) ?_)))))
 refine AP (ao (hH) Z ⟨A,AU⟩) ?_
 refine AQ Z (AP (aD Z Z) (AP (aD Z Z) ?_))
 refine aU (T:=28) Z (ltN Z) (fun b6 => ?_)
 refine au 0 Z Z Z Z Z (leN Z) Z (AR Z (AT (aa (ae (ae (ai (AQ Z (AP (sF X (eh Z Z)) (AT ?_)))))))))
 refine aa (aE Z (az (aa (ae (ai (AQ Z ?_))))))
 refine AP (ao (hC) Z ⟨A,AU⟩) ?_
 refine AQ Z (AP (aD Z Z) (AP (aD Z Z) ?_))
 refine aU (T:=28) Z (ltN Z) (fun b8 => ?_)
 refine au 0 Z Z Z Z Z (leN Z) Z (AR Z (AT (aa (ae (ae (ai (AQ Z (AP (sT X (eh Z Z)) (AT ?_)))))))))
 refine aa (aP Z (ae (ai (stB Z Z Z (BuildK.nil (AQ Z (au 2 Z Z Z Z Z (leN Z) Z (AR Z (AT ?_)))))))))
 refine aa (aH (aL ?_))
 refine c5 Tryz.results25 (.cellB 2 Z Z Z (gO)) (.tmp Z A)
theorem li (n:Nat) (F:Nat→Nat→Int) (B b:Nat) (l:List (Nat × Nat)) (hn:n≤12) (hF : ∀ i j,jD (F i j)) (hB:1≤B) (hBn:B^n<2^800) (hl : ∀ i,i<n→eo n (F i)≤B) (hb:upN (prN n (iP n n F))=b) (hbm:jD (b:Int)) (h64:mv l) (hlen:l.length≤16) (hv:dN [] l=true)
  (x:Int) (hx:x=if (b:Int)+(b:Int)<(jg (fsL l) (fsL l).length:Int) then my l else 0) (e:Int) (he:e=if (b:Int)+(b:Int)<(jg (fsL l) (fsL l).length:Int) then 0 else 200) :
  Ok Tryz.prog 25 [ch n n F,gM l] (bv [aW x,one (.int .i64 e)]):=by
 have hH:=iT n F B hn hF hB hBn hl
 rw [hb] at hH
 have hC:=mz l h64 hlen hv
 have hE:=nO (fsL l) (b:Int) (fun q=>by rw [tx]; exact (h64.get q).1) (by rw [tv]; omega) hbm
 generalize hP:(jg (fsL l) (fsL l).length:Int)=P at *
 unfold gM jf at *
 refine Ok.enter Tryz.func25 Z Tryz.ntmps25 Z (fun w O => ?_)
 refine ae (ai ?_)
 refine bE Z Z (ltN Z) (fun b2 => ?_)
 refine aU (T:=28) Z (ltN Z) (fun b4 => ?_)
 refine AR Z (AT (aa (ae (ai (AP (bM 1 Z Z) ?_)))))
 refine AP (ao (hH) Z ⟨A,AU⟩) ?_
 refine AQ Z (AP (aD Z Z) (AP (aD Z Z) ?_))
 refine aU (T:=28) Z (ltN Z) (fun b6 => ?_)
 refine au 0 Z Z Z Z Z (leN Z) Z (AR Z (AT (aa (ae (ae (ai (AQ Z (AP (sF X (eh Z Z)) (AT ?_)))))))))
 refine aa (aE Z (az (aa (ae (ai (AQ Z ?_))))))
 refine AP (ao (hC) Z ⟨A,AU⟩) ?_
 refine AQ Z (AP (aD Z Z) (AP (aD Z Z) ?_))
 refine aU (T:=28) Z (ltN Z) (fun b8 => ?_)
 refine au 0 Z Z Z Z Z (leN Z) Z (AR Z (AT (aa (ae (ae (ai (AQ Z (AP (sF X (eh Z Z)) (AT ?_)))))))))
 refine aa (aE Z (az (aa (ae (ai (AQ Z (AP (bh Z) ?_)))))))
 refine cx l.length l.length Z Z Z Z (Nat.le_refl _) Z Z X Z Z (fun bC => ?_)
 refine AR Z (AT (aa (ae (ae (ai (AQ Z (AP (bh Z) (AQ Z (AT ?_)))))))))
 refine aa (aw (cD (Γ' := [(4,_),(5,_),(6,_),(8,_),(9,_),(33,_),(34,_),(35,_)]) AK (SubM.refl _) ?_))
 refine bS (σ:=Nat) (Γk := [(4,_),(5,_),(6,_),(8,_),(9,_),(33,_),(34,_)]) AK (fun i => [(35,one (.int .i64 (i:Nat)))]) (fun i M0=>(M0.set 0 (aI (some bC) 47 .one l.length l.length (fun q=>one (.int .u64 ((if q<i then (l.getD q (0,0)).1 else 0:Nat))))))) (fun i=>i≤l.length) (fun i=>l.length - i) (0) (Nat.zero_le _) AL (.keep AO (.keep AO (.keep AO (.keep AO (.keep AO (.nil)))))) (fun i hi => ?_)
 refine co (Γ' := [(35,_),(4,_),(5,_),(6,_),(8,_),(9,_),(33,_),(34,_)]) (M' := [_,_,_,_,_]) Z Z ?_
 by_cases hc:i<l.length
 ·refine ae (ai (AP (sT X (bH Z Z)) (AT (aa (ae (aP Z (az (aa (ae ?_)))))))))
  refine aw (ae (ai (AQ Z (AP (aR Z Z X) (AP (bj Z) ?_)))))
  refine bO (T:=50) Z Z Z (fun b11 => ?_)
  refine AR Z (bR 0 Z Z Z Z (AT (aa (ai (AQ Z (AQ Z (AP (aj Z) (AP (am 0 Z Z Z) (AP (ar Z Z X) ?_)))))))))
  (refine ax 1 Z Z Z ?_ Z ?_;omega)
  refine AT (aK (aa (ai (AP (bV _ 1 Z Z X) (AQ Z (AT ?_))))))
  refine aZ (i+1) X X AL (.drop (.keep (yJ) (.keep AO (.keep AO (.keep AO (.keep AO (.nil)))))))
 ·refine iD (ConvM.le (yK Z X)) ?_
  refine u6 [_] (List.Perm.refl _) (EntM.refl _) (tM.set (t:=9) Z (Ah (tv l) List.mem_cons_self)) ?_
  by_cases hq:(b:Int)+(b:Int)<P
  ·rw [if_pos hq] at hx he
   subst hx he
   rw [decide_eq_true hq] at hE
   refine ae (ai (AP (sF X (bH Z Z)) (AT (aa (ae (aE Z (a8 (ay (ay ?_)))))))))
   refine aM (aa (ae (ae (ai (AQ Z (AP (am 1 Z Z Z) ?_))))))
   refine AP (ao (hE) Z ⟨A,A,AU⟩) ?_
   refine AP (dl Z) (AT (aa (aE Z (az (aa (ae (ai (AP (am 0 Z Z Z) (au 2 Z Z Z Z Z (leN Z) Z ?_)))))))))
   refine AR Z (AT (aa (aH ?_)))
   refine c5 Tryz.results25 (.cellB 2 Z Z Z A) (.tmp Z A)
  ·rw [if_neg hq] at hx he
   subst hx he
   rw [decide_eq_false hq] at hE
   refine ae (ai (AP (sF X (bH Z Z)) (AT (aa (ae (aE Z (a8 (ay (ay ?_)))))))))
   refine aM (aa (ae (ae (ai (AQ Z (AP (am 1 Z Z Z) ?_))))))
   refine AP (ao (hE) Z ⟨A,A,AU⟩) ?_
   refine AP (dl Z) (AT (aa (aP Z (ae (ai (stB Z Z Z (BuildK.nil (au 2 Z Z Z Z Z (leN Z) Z (AR Z ?_)))))))))
   refine AT (aa (aH (aL ?_)))
   refine c5 Tryz.results25 (.cellB 2 Z Z Z (gO)) (.tmp Z A)
end Tor
end
section
namespace Tor
open Go Go.RowKit Go.Proofs
variable [Tor.Co.Kc]
def eV (c:Nat) (l:List Int):Nat→Nat→Int:=fun i j=>l.getD (i*c+j) 0
def IN (r c:Nat) (l:List Int):VT:=ch r c (eV c l)
theorem xh {l:List Int} (h:(l.all fun x=>decide (-9223372036854775808≤x) && decide (x≤9223372036854775807))=true) : ∀ x∈l, -9223372036854775808≤x∧x≤9223372036854775807:=fun x hx=>by
 have:=List.all_eq_true.1 h x hx
 simpa using this
theorem tz (r c:Nat) (l:List Int) (hr:r≤1048576) (hc:c≤1048576) (h:(l.all fun x=>decide (-9223372036854775808≤x) && decide (x≤9223372036854775807))=true):Ok Tryz.prog 39 [one (.int .i64 r),one (.int .i64 c),kX .i64 l] (IN r c l):=wu r c l hr hc (xh h)
theorem tA (r c:Nat) (hr:r≤1048576) (hc:c≤1048576):Ok Tryz.prog 35 [one (.int .i64 r),one (.int .i64 c)] (ch r c (fun _ _=>0)):=(jb r c hr hc).ok fun s=>qm _ s
end Tor
end
section
namespace Tor
open Go Go.RowKit
inductive Pg (p:Program) : {α:Type} → Sem α→α→Prop
 | pure {α : Type} (a : α) : Pg p (.pure a) a
 | program {α : Type} {k : Program → Sem α} {v : α} : Pg p (k p) v → Pg p (.program k) v
theorem Pg.bind {p:Program} {α β:Type} {s:Sem α} {a:α} {f:α→Sem β} {b:β} (h:Pg p s a) (k:Pg p (f a) b):Pg p (s >>= f) b:=by
 show Pg p (s.bind f) b
 induction h with
 | pure a => exact k
 | program _ ih => exact .program (ih k)
theorem Pg.plain {p:Program} {α:Type} {s:Sem α} {a:α} (h:Pg p s a):Co.Plain p s:=by
 induction h with
 | pure a => exact .pure a
 | program _ ih => exact .program ih
theorem Pg.run {p:Program} {α:Type} {s:Sem α} {a:α} (h:Pg p s a) (w:World):s.run p w = .ok a w:=by
 induction h with
 | pure a => rfl
 | program _ ih => exact ih
section
variable [Tor.Co.Kc] {P:Program}
theorem lG:Pg P program P := .program (.pure P)
theorem r7 {T:TypeId} {d:TypeDesc} (h:P.underlying T=some d):Pg P (underlying T) d:=by
 refine Pg.bind lG ?_
 rw [h]; exact .pure d
theorem tB {T:TypeId} [hL:LayOf P T .one] {c:Array Value} {o:Nat} {x:Value} (h:c[o]? = some x):Pg P (part T c o) x:=by
 obtain ⟨d,hd,hl⟩:=hL.und
 have ha:Pg P (isAgg T) false:=by
  refine Pg.bind (r7 hd) ?_
  cases d <;> first | exact .pure _ | (simp [xo,Lay.isAgg] at hl)
 refine Pg.bind ha ?_
 rw [if_neg U,h]; exact .pure x
theorem oZ {T:TypeId} {k:IntKind} [h:IntOf P T k] (d:Nat) (a b:Int):Pg P (Op.equalIn (d+1) T (.int k a) (.int k b)) (a == b):=by
 unfold Op.equalIn
 refine Pg.bind (r7 h.und) ?_
 dsimp only
 rw [if_pos Z]; exact .pure _
class PairOf (P:Program) (T:TypeId) (k:outParam IntKind):Prop where
 ex : ∃ f0 f1:Field,P.underlying T=some (.struct #[f0,f1])∧(f0.name ≠ "_" ∧ f1.name ≠ "_")∧(f0.offset=0∧f1.offset=1)∧(IntOf P f0.type k∧IntOf P f1.type k)∧(LayOf P f0.type .one∧LayOf P f1.type .one)
 held:P.stoodInHeld T=false
 guard:P.eqGuardType P.depth T=false
theorem PairOf.by_info {T t0 t1:TypeId} {k:IntKind} [i0:IntOf P t0 k] [i1:IntOf P t1 k] [l0:LayOf P t0 .one] [l1:LayOf P t1 .one] (h:pH P T=some [(true,0,t0),(true,1,t1)]) (h1:P.stoodInHeld T=false) (h2:P.eqGuardType P.depth T=false):PairOf P T k where
 ex:=by
  unfold pH at h
  split at h
  ·rename_i fs hu
   obtain ⟨l⟩:=fs
   simp only [Option.some.injEq] at h
   match l,h with
   | [f0, f1], h =>
    simp only [List.map_cons,List.map_nil,List.cons.injEq,Prod.mk.injEq,bne_iff_ne,ne_eq,and_true] at h
    obtain ⟨⟨a1,a2,a3⟩,b1,b2,b3⟩:=h
    subst a3 b3
    exact ⟨f0,f1,hu,⟨a1,b1⟩,⟨a2,b2⟩,⟨i0,i1⟩,l0,l1⟩
   | [], h => simp at h
   | [_], h => simp at h
   | _ :: _ :: _ :: _, h => simp at h
  ·cases h
 held:=h1
 guard:=h2
theorem yL {T:TypeId} {k:IntKind} [hQ:PairOf P T k] (a0 a1 b0 b1:Int):Pg P (Op.equal T (.agg #[.int k a0, .int k a1]) (.agg #[.int k b0, .int k b1])) (a0 == b0 && a1 == b1):=by
 obtain ⟨f0,f1,hU,⟨n0,n1⟩,⟨o0,o1⟩,⟨i0,i1⟩,l0,l1⟩:=hQ.ex
 have hh:=hQ.held
 show Pg P (Op.equalIn (9998+1+1) T _ _) _
 unfold Op.equalIn
 refine Pg.bind (r7 hU) ?_
 dsimp only
 refine Pg.bind lG ?_
 rw [hh]
 have e0 : ∀ (x y z:Value),Pg P (part f0.type #[x,y] f0.offset) x:=fun x y z=>tB (by rw [o0]; rfl)
 have e1 : ∀ (x y z:Value),Pg P (part f1.type #[x,y] f1.offset) y:=fun x y z=>tB (by rw [o1]; rfl)
 have c0:Pg P (do Op.equalIn (9998+1) f0.type (← part f0.type #[.int k a0, .int k a1] f0.offset) (← part f0.type #[.int k b0, .int k b1] f0.offset)) (a0 == b0) :=
  (e0 _ _ undef).bind ((e0 _ _ undef).bind (oZ 9998 a0 b0))
 have c1:Pg P (do Op.equalIn (9998+1) f1.type (← part f1.type #[.int k a0, .int k a1] f1.offset) (← part f1.type #[.int k b0, .int k b1] f1.offset)) (a1 == b1) :=
  (e1 _ _ undef).bind ((e1 _ _ undef).bind (oZ 9998 a1 b1))
 simp [n0,n1]
 refine Pg.bind (e0 _ _ undef) (Pg.bind (e0 _ _ undef) (Pg.bind (oZ 9998 a0 b0) ?_))
 cases (a0 == b0) with
 | false => exact .pure false
 | true =>
  refine Pg.bind (a:=ForInStep.yield (none,())) (.pure _) ?_
  dsimp only
  refine Pg.bind (a:=if (a1 == b1)=false then (some false,()) else (none,())) (Pg.bind (e1 _ _ undef) (Pg.bind (e1 _ _ undef) (Pg.bind (oZ 9998 a1 b1) ?_))) ?_
  ·cases (a1 == b1) with
   | false => exact .pure _
   | true => exact .pure _
  ·cases (a1 == b1) with
   | false => exact .pure false
   | true => exact .pure true
section
variable {E:Env} {Γ:Ctx} {M:Mem}
theorem xi {dd:Option Tmp} {ty:TypeId} {pos:String} {af:Array Edge} {gd:Option (Nat × Bool)} {T T':TypeId} {k:IntKind} [hQ:PairOf P T k] {x y:Operand} {a0 a1 b0 b1:Int} {ρ:Operand→Value} (hx:ρ x = .agg #[.int k a0, .int k a1]) (hy:ρ y = .agg #[.int k b0, .int k b1]) :
  Pg P (execOp ρ ⟨dd, .binOp .eql T x y T',ty,pos,af,gd⟩) (.value (.bool (a0 == b0 && a1 == b1))):=by
 have hg:=hQ.guard
 have h1:Pg P (eqGuard .eql T x y (.agg #[.int k a0, .int k a1]) (.agg #[.int k b0, .int k b1])) ():=by
  unfold eqGuard
  refine Pg.bind lG (Pg.bind lG ?_)
  rw [hg]; exact .pure ()
 have h2:Pg P (binOp .eql T (.agg #[.int k a0, .int k a1]) (.agg #[.int k b0, .int k b1])) (.bool (a0 == b0 && a1 == b1)):=Pg.bind (yL a0 a1 b0 b1) (.pure _)
 unfold execOp
 dsimp only
 rw [hx,hy]
 exact Pg.bind (Pg.bind h1 h2) (.pure _)
theorem ij {k:IntKind} {a0 a1:Int} {v:Value} {h:Hp} (H:(bB 2 [(0, .one,one (.int k a0)),(1, .one,one (.int k a1))]).p v h):v = .agg #[.int k a0, .int k a1]:=by
 obtain ⟨c,rfl,hs,_,hc⟩:=H
 obtain ⟨x0,h0,e0⟩:=hc (0, .one,one (.int k a0)) (by simp)
 obtain ⟨x1,h1,e1⟩:=hc (1, .one,one (.int k a1)) (by simp)
 have e0:x0 = .int k a0:=e0
 have e1:x1 = .int k a1:=e1
 subst e0 e1
 have h0:c[0]? = some _:=h0
 have h1:c[1]? = some _:=h1
 congr 1
 apply Array.ext_getElem?
 intro j
 rcases j with _ | _ | j
 ·rw [h0]; rfl
 ·rw [h1]; rfl
 ·rw [Array.getElem?_eq_none X,Array.getElem?_eq_none (by simp)]
theorem Ai {dd:Option Tmp} {ty:TypeId} {pos:String} {af:Array Edge} {gd:Option (Nat × Bool)} {T T':TypeId} {k:IntKind} [hQ:PairOf P T k] {x y:Operand} {a0 a1 b0 b1:Int}
  (hx:aA Γ x=some (bB 2 [(0, .one,one (.int k a0)),(1, .one,one (.int k a1))])) (hy:aA Γ y=some (bB 2 [(0, .one,one (.int k b0)),(1, .one,one (.int k b1))])) :
  aB P E Γ M ⟨dd, .binOp .eql T x y T',ty,pos,af,gd⟩ (one (.bool (a0 == b0 && a1 == b1))) :=
 aB.ofRun (hp:=fun ac w hb hf _=>(xi (ij (hf x _ (by simp [Op.operands]) hx)) (ij (hf y _ (by simp [Op.operands]) hy))).plain) fun ac w hb hf =>
  ⟨_,(xi (ij (hf x _ (by simp [Op.operands]) hx)) (ij (hf y _ (by simp [Op.operands]) hy))).run w,rfl⟩
end
end
end Tor
end
section
namespace Tor
open Go Go.RowKit Go.Proofs
theorem tC {a:Nat × Nat} {φ:VT} (h:VT.le φ (jf a)):VT.le (slT (.agg 2) 1 (fun _=>φ)) (gM [a]):=fy fun q hq=>by
 match q,hq with
 | 0, _ => exact h
theorem xj {l:List (Nat × Nat)} (h:(l.all fun p=>decide (p.1<18446744073709551616) && decide (p.2<18446744073709551616))=true):mv l:=fun p hp=>by
 have:=List.all_eq_true.1 h p hp
 simpa using this
theorem yM {a b:Nat × Nat} {φ ψ:VT} (h:VT.le φ (jf a)) (h':VT.le ψ (jf b)):VT.le (slT (.agg 2) 2 (fun q => [ψ, φ].reverse.getD q bN)) (gM [a,b]):=fy fun q hq=>by
 match q,hq with
 | 0, _ => exact h
 | 1, _ => exact h'
theorem AD:Lin.Pr 5:=Lin.Pr.of_trial U (vV (k:=2) U U)
attribute [local irreducible] J PJ aB one slT bJ bB bv exT cd eP aQ aI slV VT.le Ret bN dD ek
attribute [local irreducible] aW d6
theorem yN (r c:Nat) (F:Nat→Nat→Int) (h:r≠c):Ok Tryz.prog 40 [ch r c F] (bv [aW 0,one (.int .i64 50)]):=by
 have hH:=oX r c F h
 refine Ok.enterX Tryz.func40 Z Tryz.ntmps40 Z (fun w O => ?_)
 refine JX.seq ⟨.inl Z,by kernel_rfl⟩ ?_
 refine ai ?_
 refine bE Z Z (ltN Z) (fun b1 => ?_)
 refine aU (T:=28) Z (ltN Z) (fun b2 => ?_)
 refine AR Z (AT (r5 ?_))
 refine JX.seq ⟨.inl Z,by kernel_rfl⟩ ?_
 refine ai (AP (bM 1 Z Z) ?_)
 refine AP (ao (hH) Z ⟨A,AU⟩) ?_
 refine AQ Z (AP (aD Z Z) (AP (aD Z Z) ?_))
 refine aU (T:=28) Z (ltN Z) (fun b4 => ?_)
 refine au 0 Z Z Z Z Z (leN Z) Z (AR Z (AT (r5 ?_)))
 refine JX.seq ⟨.inl Z,by kernel_rfl⟩ ?_
 refine ae (ai (AQ Z (AP (sT X (eh Z Z)) (AT (aa (aP Z (ae (ai (stB Z Z Z ?_)))))))))
 refine BuildK.nil (AQ Z (au 1 Z Z Z Z Z (leN Z) Z (AR Z (AT (aa (aH (aL ?_)))))))
 refine c5 Tryz.results40 (.cellB 1 Z Z Z (gO)) (.tmp Z A)
structure DetG (n:Nat) (F:Nat→Nat→Int) (B:Nat):Prop where
 n12:n≤12
 m4 : ∀ i j,jD (F i j)
 B1:1≤B
 Bn:B^n<2^598
 len : ∀ i,i<n→eo n (F i)≤B
theorem uP (n:Nat) (F:Nat→Nat→Int) (B:Nat) (h:DetG n F B) (hs:ci (Lin.cg n F)):Ok Tryz.prog 17 [ch n n F] (bv [aW (Lin.cg n F),one (.bool true)]):=by
 have hd:=r6 n F B h.n12 h.m4 h.B1 h.Bn h.len
 have hv:=rq _ hs
 refine Ok.enter Tryz.func17 Z Tryz.ntmps17 Z (fun w O => ?_)
 refine ae (ai ?_)
 refine bE Z Z (ltN Z) (fun b1 => ?_)
 refine aU (T:=28) Z (ltN Z) (fun b2 => ?_)
 refine AR Z (AT (aa (ae (ai (AP (bM 1 Z Z) ?_)))))
 refine AP (ao (hd) Z ⟨A,AU⟩) ?_
 refine AQ Z (AP (aD Z Z) (AP (aD Z Z) ?_))
 refine aU (T:=28) Z (ltN Z) (fun b4 => ?_)
 refine au 0 Z Z Z Z Z (leN Z) Z (AR Z (AT (aa (ae ?_))))
 refine xB [⟨2,b2,28,Lay.agg 2⟩] [_] [_,_] bL Y Z ((py 1 Z).trans (.cons _ (List.Perm.refl _))) Z (And.intro Z (trivial)) ?_
 refine ux (fun B=>am 0 Z Z Z) Z Z ?_
 refine ux (fun B=>ab Z) Z Z ?_
 refine ux (fun B=>sT X (cQ Z Z)) Z Z ?_
 refine ux (fun B=>ab Z) Z Z ?_
 refine ug1 Z Z (fun B=>am 0 Z Z Z) Z Z ?_
 refine ugk Z Z (hv) Z ⟨A,AU⟩ Z ?_
 refine ux (fun B=>bP Z Z) Z Z ?_
 refine us Z ?_
 refine ux (fun B=>ah Z) Z Z ?_
 refine RunU.nil ⟨And.intro Z (And.intro Z (trivial)),?_⟩
 refine gH (M' := [_,_,_]) Z (aa (aH ?_))
 refine c5 Tryz.results17 (.cellB 0 Z Z Z A) (.tmp Z A)
end Tor
namespace Tor
open Go Go.RowKit Go.Proofs
theorem tD {l:List Int} {B:Nat} (h:(l.all fun x=>decide (x.natAbs≤B))=true) (n:Nat):(l.getD n 0).natAbs≤B:=by
 rw [List.getD_eq_getElem?_getD]
 cases e:l[n]? with
 | none => exact Nat.zero_le _
 | some x => exact of_decide_eq_true (List.all_eq_true.1 h x (List.mem_of_getElem? e))
theorem Aj {p r:Nat} : VT.le (one (.agg #[.int .u64 (p:Nat), .int .u64 (r:Nat)])) (jf (p,r)):=fun v h e=>by
 have e':v = .agg #[.int .u64 (p:Nat), .int .u64 (r:Nat)]:=e
 subst e'
 unfold jf
 refine ⟨_,rfl,rfl,by simp [Value.oneCell'],fun q hq => ?_⟩
 rcases List.mem_cons.1 hq with rfl | hq
 ·exact ⟨_,rfl,rfl⟩
 rcases List.mem_cons.1 hq with rfl | hq
 ·exact ⟨_,rfl,rfl⟩
 cases hq
theorem lH {p r:Nat} : VT.le (bB 2 (jN (jN (dt #[Value.int .u64 0,Value.int .u64 0] [(0,Lay.one),(1,Lay.one)]) 0 (one (.int .u64 (p:Nat)))) 1 (one (.int .u64 (r:Nat))))) (jf (p,r)):=VT.le_refl _
theorem qM (l:List Int):VT.le (slT .one l.length (fun q=>(l.map fun x=>one (.int .i64 x)).getD q bN)) (kX .i64 l):=by
 refine fy fun i hi => ?_
 simp only [List.getD,List.getElem?_map,List.getElem?_eq_getElem hi,Option.map_some,Option.getD_some]
 exact VT.le_refl _
instance:PairOf Tryz.prog 50 .u64:=PairOf.by_info (t0:=47) (t1:=47) Y Y Y
attribute [local irreducible] J PJ aB one slT bJ bB bv exT cd eP aQ aI slV VT.le Ret bN dD ek
attribute [local irreducible] aW d6 ch
set_option maxRecDepth 20000 in
theorem qN:Ok Tryz.prog 10 [] (one (.bool true)):=by
 have b4 : ∀ i j,(eV 2 [1,2,3,4] i j).natAbs≤4:=fun i j=>tD U _
 have b2 : ∀ i j,(eV 2 [1,2] i j).natAbs≤4:=fun i j=>tD U _
 have m4 : ∀ i j,jD (eV 2 [1,2,3,4] i j):=fun i j=>Nat.le_trans (b4 i j) V
 have i1:Ok Tryz.prog 39 [one (.int .i64 (2:Nat)),one (.int .i64 (2:Nat)),kX .i64 [1,2,3,4]] (ch 2 2 (eV 2 [1,2,3,4])):=tz 2 2 [1,2,3,4] U U U
 have i2:Ok Tryz.prog 39 [one (.int .i64 (1:Nat)),one (.int .i64 (2:Nat)),kX .i64 [1,2]] (ch 1 2 (eV 2 [1,2])):=tz 1 2 [1,2] U U U
 have i3:=tA 0 0 U U
 have hl : ∀ i,i<2→eo 2 (eV 2 [1,2,3,4] i)≤25:=by decide +kernel
 have d1:=r6 2 (eV 2 [1,2,3,4]) 25 U m4 U V hl
 rw [show Lin.cg 2 (eV 2 [1,2,3,4]) = -2 by decide +kernel] at d1
 have d2:=r6 0 (fun _ _=>0) 1 U (fun _ _=>Nat.zero_le _) U V (fun i hi=>absurd hi (Nat.not_lt_zero _))
 rw [show Lin.cg 0 (fun _ _=>0)=1 by decide +kernel] at d2
 have d3:=yN 1 2 (eV 2 [1,2]) U
 have r1:=mN 5 2 (eV 2 [1,2,3,4]) V U U (Pr.invP AD) (fun i j=>dU (m4 i j)) U
 rw [show ii 2 (eV 2 [1,2,3,4]) 5=3 by decide +kernel] at r1
 have r1':Ok Tryz.prog 21 [ch 2 2 (eV 2 [1,2,3,4]),one (.int .u64 ((5:Nat):Int))] (bv [bB 2 [(0, .one,one (.int .u64 ((5:Nat):Int))),(1, .one,one (.int .u64 ((3:Nat):Int)))],one (.int .i64 0)]):=r1.le (fV _) (oD Aj A)
 clear r1
 have r2:=qx 4 2 (eV 2 [1,2,3,4]) V U
 have hup:upN (prN 2 (iP 2 2 (eV 2 [1,2,3,4])))=12:=by decide +kernel
 have c1:=li 2 (eV 2 [1,2,3,4]) 25 12 [(5,3),(7,5)] U m4 U V hl hup (by show (12:Int).natAbs≤2^400;decide +kernel) (xj Z) U V (-2) V 0 V
 have c2:=li 2 (eV 2 [1,2,3,4]) 25 12 [(5,3)] U m4 U V hl hup (by show (12:Int).natAbs≤2^400;decide +kernel) (xj Z) U V 0 V 200 V
 have c3:=oY 2 (eV 2 [1,2,3,4]) 25 [(5,5)] U m4 U V hl (xj Z) V
 have o1:=kL (-2) U U
 have o2:=kL 1 U U
 refine Ok.enter Tryz.func10 Z Tryz.ntmps10 Z (fun w O => ?_)
 refine ae (ai (AR Z (AT (aa (ae (ai (stS Z Z Z Z (PartsK.cons Z (PartsK.cons Z ?_)))))))))
 refine PartsK.cons Z (PartsK.cons Z (PartsK.nil ?_))
 refine AP (ao (i1) Z ⟨A,A,(qM [1,2,3,4]),AU⟩) ?_
 refine bO (T:=35) Z Z Z (fun b1 => ?_)
 refine pq 0 Z Z Z Z (AT (aa (ae (ai (AP (am 0 Z Z Z) ?_)))))
 refine AP (ao (d1) Z ⟨A,AU⟩) ?_
 refine AQ Z (AP (aD Z Z) (AP (aD Z Z) ?_))
 refine aU (T:=28) Z (ltN Z) (fun b2 => ?_)
 refine au 0 Z Z Z Z Z (leN Z) Z (AR Z (AT (aa (ae (ai ?_)))))
 refine AP (ao (i3) Z ⟨A,A,AU⟩) ?_
 refine AP (ao (d2) Z ⟨A,AU⟩) ?_
 refine AQ Z (AP (aD Z Z) (AP (aD Z Z) ?_))
 refine aU (T:=28) Z (ltN Z) (fun b4 => ?_)
 refine au 0 Z Z Z Z Z (leN Z) Z (AR Z (AT (aa (ae (ai (stS Z Z Z Z (PartsK.cons Z (PartsK.cons Z (PartsK.nil ?_)))))))))
 refine AP (ao (i2) Z ⟨A,A,(qM [1,2]),AU⟩) ?_
 refine AP (ao (d3) Z ⟨A,AU⟩) ?_
 refine AQ Z (AP (aD Z Z) (AP (aD Z Z) ?_))
 refine aU (T:=28) Z (ltN Z) (fun b6 => ?_)
 refine au 0 Z Z Z Z Z (leN Z) Z (AR Z (AT (aa (ae (ai (AP (am 3 Z Z Z) ?_))))))
 refine AP (ao (r1') Z ⟨A,A,AU⟩) ?_
 refine AQ Z (AP (aD Z Z) (AP (aD Z Z) ?_))
 refine bO (T:=50) Z Z Z (fun b8 => ?_)
 refine bR 0 Z Z Z Z (AR Z (AT (aa (ae (ai (AP (am 4 Z Z Z) ?_))))))
 refine AP (ao (r2) Z ⟨A,A,AU⟩) ?_
 refine AQ Z (AP (aD Z Z) (AP (aD Z Z) ?_))
 refine bO (T:=50) Z Z Z (fun b10 => ?_)
 refine pq 0 Z Z Z Z (AR Z (AT (aa (ae (ai (AP (am 5 Z Z Z) (stB Z Z Z (BuildK.cons Z Z Z (BuildK.cons Z Z Z ?_)))))))))
 refine BuildK.nil (stB Z Z Z (BuildK.cons Z Z Z (BuildK.cons Z Z Z (BuildK.nil (stS Z Z Z Z (PartsK.cons Z (PartsK.cons Z (PartsK.nil ?_))))))))
 refine AP (ao (c1) Z ⟨A,(yM lH lH),AU⟩) ?_
 refine AQ Z (AP (aD Z Z) (AP (aD Z Z) ?_))
 refine aU (T:=28) Z (ltN Z) (fun b12 => ?_)
 refine au 0 Z Z Z Z Z (leN Z) Z (AR Z (AT (aa (ae (ai (AP (am 6 Z Z Z) (stB Z Z Z (BuildK.cons Z Z Z (BuildK.cons Z Z Z ?_)))))))))
 refine BuildK.nil (po Z Z Z Z ?_)
 refine AP (ao (c2) Z ⟨A,(tC lH),AU⟩) ?_
 refine AQ Z (AP (aD Z Z) (AP (aD Z Z) ?_))
 refine aU (T:=28) Z (ltN Z) (fun b14 => ?_)
 refine au 0 Z Z Z Z Z (leN Z) Z (AR Z (AT (aa (ae (ai (AP (am 7 Z Z Z) (stB Z Z Z (BuildK.cons Z Z Z (BuildK.cons Z Z Z ?_)))))))))
 refine BuildK.nil (po Z Z Z Z ?_)
 refine AP (ao (c3) Z ⟨A,(tC lH),AU⟩) ?_
 refine AQ Z (AP (aD Z Z) (AP (aD Z Z) ?_))
 refine aU (T:=28) Z (ltN Z) (fun b16 => ?_)
 refine au 0 Z Z Z Z Z (leN Z) Z (AR Z (AT (aa (ae (ai (AQ Z (AP (sT X (cQ Z Z)) (AQ Z (AS (ab Z) ?_)))))))))
 refine AS (sT X (cQ Z Z)) (AP (bP Z Z) (AQ Z (AS (ab Z) (AS (sT X (cQ Z Z)) (AP (bP Z Z) (AQ Z (AS (ab Z) (AS (sT X (cQ Z Z)) (AP (bP Z Z) ?_)))))))))
 refine AQ Z (AS (ab Z) (AS (sT X (cQ Z Z)) (AP (bP Z Z) (AQ Z (AS (ab Z) (AS (sT X (cQ Z Z)) (AP (bP Z Z) (AQ Z (AS (ab Z) ?_)))))))))
 refine AS (sT X (cQ Z Z)) (AP (bP Z Z) (AQ Z (AS (ab Z) (AS (sT X (cQ Z Z)) (AP (bP Z Z) (AR Z (AT (aa (ae ?_)))))))))
 refine bG 21 bL Y U (AQ Z (AQ Z (AS (am 7 Z Z Z) ?_)))
 refine AS (ao (o1) Z ⟨A,AU⟩) ?_
 refine AS (sT X (ao (j9 _ _) Z ⟨A,A,AU⟩)) ?_
 refine AP (bP Z Z) (AQ Z (AS (am 6 Z Z Z) ?_))
 refine AS (ao (o2) Z ⟨A,AU⟩) ?_
 refine AS (sT X (ao (j9 _ _) Z ⟨A,A,AU⟩)) ?_
 refine AP (bP Z Z) (AQ Z (AS (bM 4 Z Z) (AA Z Z Z Z Z (BuildK.cons Z Z Z (BuildK.cons Z Z Z (BuildK.nil (AS (Ai Z Z) (AP (bP Z Z) (AQ Z ?_)))))))))
 refine AS (am 2 Z Z Z) ?_
 refine AS (ao (o1) Z ⟨A,AU⟩) ?_
 refine AS (sT X (ao (j9 _ _) Z ⟨A,A,AU⟩)) ?_
 refine AP (bP Z Z) (AT (AR Z (AT (aa (aH ?_)))))
 refine aX Tryz.results10 (.tmp Z A)
end Tor
end
section
namespace Tor
open Go Go.Conc Go.RowKit
def xk [Co.Kc] (P:Program) (f:FuncId) (φs:List VT) (ψ:VT):Prop := ∀ (w:World) (O:List Nat) (vs:List Value),(∀ b∈O,b<w.heap.size)→eR φs vs (hid O (view w)) →
 ∃ fn c,P.funcs[f]? = some fn∧fn.body=some c∧Co.WpX P none c (Co.bodyX P fn (Ret O ψ w)) { tmps:=vs.toArray ++ Array.replicate (fn.ntmps - vs.toArray.size) undef,defers := [] } w
theorem xk.enter [Co.Kc] {P:Program} {f:FuncId} {fn:Func} {c:Code} {N:Nat} {φs:List VT} {ψ:VT} (hf:P.funcs[f]? = some fn) (hb:fn.body=some c) (hN:fn.ntmps=N) (hle:Nat.ble φs.length N=true)
  (h : ∀ (w:World) (O:List Nat),J P ⟨w,O, [],N,none⟩ [] (fx 0 φs) [] c (cA P fn (Ret O ψ w))) (hpl:cP c=true:=by kernel_rfl):xk P f φs ψ:=fun w O vs hO hv'=>by
 have hl:=gC hv'
 have hle':=Nat.le_of_ble_eq_true hle
 refine ⟨fn,c,hf,hb,h w O _ w ⟨⟨by simp,by simp,by simp,by simp,?_,Fr.refl _ _⟩,?_,rfl,?_⟩ ⟨.inl Z,hpl⟩⟩
 ·intro b hb';exact hO b (by simpa using hb')
 ·simp [hN]; omega
 ·intro t φ e
  obtain ⟨v,_,h2,h3⟩:=ey e hv'
  have h4:hv ⟨w,O, [],N,none⟩ [] w=hid O (view w):=by simp [hv]
  rw [h4]
  rw [Nat.sub_zero] at h2
  have hlt:=(List.getElem?_eq_some_iff.1 h2).1
  rw [Array.getD_eq_getD_getElem?,Array.getElem?_append_left (by simpa using hlt)]
  simpa [h2] using h3
def tE:Obj→Obj
 | .cells c e f => .cells c e f
 | _ => Co.dum
def isC:Obj→Prop
 | .cells .. => True
 | _ => False
theorem xl {P:Program} {ty:TypeId} {T:Co.Piece} (hT:Co.PieceOk P ty T) {f:FuncId} {φs:List VT} {x:Value} (hi:P.inits.idxOf? f=none) (h : @xk (Co.pieceK T) P f φs (one x)) {args:Array Value} {W:World} (hp:eR φs args.toList (view W)) :
  Co.Ends P (solo (G (Frame.enter P f args .normal) []) W) #[] (fun v W'=>v=x∧Below W.heap.size W W'):=by
 classical
 let ĝ : World := { W with heap:=W.heap.map tE }
 have hg : ∀ b:Nat, ĝ.heap[b]? = (W.heap[b]?).map tE:=fun b=>by show (W.heap.map tE)[b]? = _;simp
 let F₀:Nat→Prop:=fun b => ∃ o,W.heap[b]? = some o ∧ ¬ isC o
 have hle:Hp.le (view W) (view ĝ):=fun b y e=>by
  obtain ⟨c,T',f'⟩:=y
  have:=dJ e
  exact fF (by rw [hg,this]; rfl)
 have hp':eR φs args.toList (hid [] (view ĝ)):=by
  have e:hid [] (view ĝ)=view ĝ := by funext b;simp [hid]
  rw [e]; exact ep hle hp
 obtain ⟨fn,c,hf,hb,hw⟩:=h ĝ [] args.toList (fun b hb=>by cases hb) hp'
 have ea:args.toList.toArray=args:=by simp
 rw [ea] at hw
 letI:Co.Kc:=Co.pieceK T
 have hgo:=Co.top_at (args:=args) (w := ĝ) (R:=fun v w'=>v=x∧Ext ĝ w') hf hb hi (Co.wpX_mono hw fun e a' w' hq=>by
  have key : ∀ {w':World} {a':Act},(a'.defers = [] ∧ ∀ w₁,Co.Grow w' w₁ → ∃ v,(results fn a'.tmps).run P w₁ = .ok v w₁∧Ret [] (one x) ĝ (.returned v) w₁)→(a'.defers = [] ∧ ∀ w₁,Co.Grow w' w₁ → ∃ v,(results fn a'.tmps).run P w₁ = .ok v w₁∧v=x∧Ext ĝ w₁):=fun ⟨h1,h2⟩=>⟨h1,fun w₁ hw₁=>by
   obtain ⟨v,h3,v',h4,h5,h6⟩:=h2 w₁ hw₁
   cases h4
   exact ⟨v,h3,h5,h6⟩⟩
  cases e with
  | normal => exact key hq
  | ret => exact key hq
  | _ => exact hq)
 have hmsk:Co.Msk F₀ (fun _=>False) ĝ W:=by
  refine ⟨by show (W.heap.map tE).size=_;simp,rfl,rfl,rfl,rfl,fun b hb hF => ?_,fun b _ hV=>hV.elim,fun b hb hF _ => ?_⟩
  ·obtain ⟨o,h1,h2⟩:=hF
   rw [hg,h1]
   cases o with
   | cells => exact absurd trivial h2
   | _ => rfl
  ·obtain ⟨o,ho⟩ : ∃ o,W.heap[b]? = some o:=⟨_,Array.getElem?_eq_getElem hb⟩
   have hc:isC o:=Classical.byContradiction fun hn=>hF ⟨o,ho,hn⟩
   cases o with
   | cells c e f => exact ⟨_, ho, by rw [hg, ho]; rfl, rfl⟩
   | _ => exact hc.elim
 have hB:Co.BI P F₀ W (G (Frame.enter P f args .normal) []) ĝ #[G (Frame.enter P f args .normal) []] W #[] (fun _=>0) (fun _=>False) F₀ ĝ :=
  ⟨rfl,leavers_one P _,past_nil.mono (Nat.zero_le _),Co.Grow.refl _,hmsk,fun b ⟨o,h1,_⟩=>(Array.getElem?_eq_some_iff.1 h1).1,fun l hl=>hl.elim,fun b _=>rfl,fun b hb=>hb,fun b _ hb=>hb,Nat.le_refl _⟩
 obtain ⟨N,last,o,w',t',h1,h2,h3,h4⟩:=Co.law_runs (sl:=none) hT hgo hB
 refine ⟨N,last,o,w',t',h1,h2,h3,h4.mono fun v hv => ?_⟩
 obtain ⟨ĝ',F,⟨hx,hext⟩,hm,hk,hs⟩:=hv
 refine ⟨hx,hm.os.symm.trans hext.os,hm.tape.symm.trans hext.tape,hm.output.symm.trans hext.output,?_,fun b hb => ?_⟩
 ·rw [← hm.size]; have:=hext.size;rwa [show ĝ.heap.size=W.heap.size from hmsk.size] at this
 ·by_cases hF:F b
  ·exact hk b (hs b hb hF)
  ·have hF0 : ¬ F₀ b∨F₀ b:=(Classical.em _).symm
   rcases hF0 with hF0 | hF0
   ·have hb':b<w'.heap.size:=by
     have:=hext.size
     rw [show ĝ.heap.size=W.heap.size from hmsk.size,hm.size] at this
     omega
    obtain ⟨o',k1,k2,_⟩:=hm.sm b hb' hF id
    obtain ⟨o'',k3,k4,_⟩:=hmsk.sm b hb hF0 id
    have k5:=hext.block b (by rw [show ĝ.heap.size=W.heap.size from hmsk.size]; exact hb)
    rw [k2,k4] at k5
    rw [k1,k5,k3]
   ·exact hk b hF0
end Tor
end
