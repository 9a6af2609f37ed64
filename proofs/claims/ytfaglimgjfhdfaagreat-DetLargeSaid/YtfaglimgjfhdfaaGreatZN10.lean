/-
  Theorems that the proofs of laws of this seat rest on.
  No condition.
-/
import Derived.Test.YtfaglimgjfhdfaaGreatZN9
import Derived.Conc.LeavingOf
set_option maxHeartbeats 20000000
set_option linter.unusedVariables false
set_option linter.unusedSimpArgs false
set_option linter.unusedSectionVars false
section
namespace Tor
open Go Go.RowKit Go.Proofs
variable [Co.Kc]
def eqT (v:Value) (φ:VT):VT:=⟨fun x h=>x=v∧φ.p x h,fun H ⟨h1,h2⟩=>⟨h1, φ.mono H h2⟩⟩
theorem zE {v:Value} {φ:VT} : VT.le (eqT v φ) φ:=fun _ _ h=>h.2
theorem aC.reT {P:Program} {E:Env} {Γ:Ctx} {M:Mem} {o:Oper} {ψ φ φ':VT} {t:Nat} (ht:bt Γ t=some φ) (hle:VT.le φ φ') (h:aC P E ((t, φ') :: Γ) M o ψ):aC P E Γ M o ψ :=
 fun a w hb hf next hn=>h a w hb (fun x χ hx hχ=>by
  cases x with
  | tmp t' =>
   have hχ':bt ((t, φ') :: Γ) t'=some χ:=hχ
   rw [aW] at hχ'
   split at hχ'
   ·rename_i e;subst e;cases hχ'
    exact hle _ _ (hf _ φ hx ht)
   ·exact hf _ χ hx hχ'
  | _ => exact hf _ χ hx hχ) next hn
theorem x3 {E:Env} {D:List Deferred} {Γ:Ctx} {M:Mem} {e:Exit} {Q:Exit→Act→World→Prop} (h : ∀ a w,St E D Γ M a w→Q e a w):PJ E D Γ M e Q:=h
theorem x4 {P:Program} {E:Env} {D:List Deferred} {Γ:Ctx} {M:Mem} {c:Code} {Q:Exit→Act→World→Prop} (h:J P E D Γ M c Q) {a:Act} {w:World} (hS:St E D Γ M a w) (hc:OkC E.R c):Co.WpX P E.R c Q a w:=h a w hS hc
theorem Bd {b b' T T' m m':Nat} {cs cs':bW} (h:(aS [aT b T m cs,aT b' T' m' cs']).Nodup):b'≠b:=fun e=>by
 subst e
 unfold aS at h
 simp [aT] at h
def zF (a:Act) (H:Hp) (Γ:Ctx):Prop := ∀ t φ,bt Γ t=some φ→φ.p (a.tmps.getD t undef) H
theorem zF.nil {a:Act} {H:Hp} : zF a H []:=fun _ _ h=>by cases h
theorem zF.cons {a:Act} {H:Hp} {Γ:Ctx} {t:Nat} {φ:VT} (h:φ.p (a.tmps.getD t undef) H) (k:zF a H Γ):zF a H ((t, φ) :: Γ):=fun t' φ' e=>by
 rw [aW] at e
 split at e
 ·rename_i e';subst e';cases e;exact h
 ·exact k t' φ' e
theorem St.start {w:World} {O:List Nat} {N:Nat} {R:Option Nat} {D:List Deferred} {Γ:Ctx} {a:Act} (hs:a.tmps.size=N) (hd:a.defers=D) (hO : ∀ b∈O,b<w.heap.size) (h:zF a (hid O (view w)) Γ):St ⟨w,O, [],N,R⟩ D Γ [] a w :=
 ⟨⟨fun o ho=>(by cases ho),List.nodup_nil,fun b hb=>(by cases hb),fun b hb=>(by cases hb),fun b hb=>hO b (by simpa using hb),Fr.refl _ _⟩,hs,hd,fun t φ ht=>by
  have:=h t φ ht
  simpa [hv] using this⟩
theorem uj (h:Hp):hid [] h=h:=funext fun b=>if_neg (by simp)
theorem pH {b T:Nat} {v:Value} {w:World} {h:Hp} (hb:(aT b T 1 [(0, .one,one v)]).p (raw w) h):w.heap[b]? = some (.cells #[v] T (0,0)):=by
 obtain ⟨c,h1,h2,_,h3⟩:=hb
 obtain ⟨x,hx,hp⟩:=h3 _ List.mem_cons_self
 have hx':c[0]? = some x:=hx
 have hp':x=v:=hp
 subst hp'
 have hc:c = #[x]:=by
  obtain ⟨l⟩:=c
  match l,h2,hx' with
  | [y], _, h => simp at h; rw [h]
 subst hc
 unfold vw raw at h1
 split at h1
 ·rename_i e;cases h1;exact e
 ·cases h1
attribute [local irreducible] J PJ aC one slT bL bE bw exT cj eP aT aH slV VT.le Ret bQ dz ed
attribute [local irreducible] eqT
theorem Be (w0:World) (v1 v2 v7 v6:Value) (W n i:Nat) (ps:Nat→Nat) (hi:i<n) :
  J Tryz.prog ⟨w0, [], [],40,none⟩ [] [(1,one v1),(2,one v2),(7,one v7),(8,one (.pointer (some ⟨W,0,none⟩))),(25,eqT v6 (slT .one n fun q=>one (.int .u64 (ps q:Nat)))),(26,one (.int .i64 (n:Nat))),(27,one (.int .i64 (i:Nat)))] [] (.region 9 Co.ops9 false)
   (fun e a w=>e = .normal ∧ ∃ b9 b10,b9≠b10∧St ⟨w0, [], [],40,none⟩ [] [(9,one (.pointer (some ⟨b9,0,none⟩))),(10,one (.pointer (some ⟨b10,0,none⟩))),(1,one v1),(2,one v2),(7,one v7),(8,one (.pointer (some ⟨W,0,none⟩))),(25,eqT v6 (slT .one n fun q=>one (.int .u64 (ps q:Nat)))),(26,one (.int .i64 (n:Nat))),(27,one (.int .i64 (i:Nat)))]
    [aT b10 47 1 [(0, .one,one (.int .u64 (ps i:Nat)))],aT b9 3 1 [(0, .one,one (.int .i64 (i:Nat)))]] a w):=by
 dsimp only [Co.ops9,Co.opsC,Co.fstC,Co.sndC,Co.inrC,Co.rndC,Co.inC,Co.detC,Co.bodyD,Tryz.f40,Option.getD_some]
 refine ai (Cc Z (Cb (aC.reT (t:=25) Z zE (aI Z Z hi)) (Cb (aY Z) ?_)))
 refine aN (T:=3) Z (ltN Z) (fun b9 => ?_)
 refine aN (T:=47) Z (ltN Z) (fun b10 => ?_)
 refine az 1 Z Z Z Z Z (leN Z) Z (az 0 Z Z Z Z Z (leN Z) Z (Cf ?_))
 refine x3 fun a w hS => ?_
 have hS':=hS.sub (Γ' := []) (M' := [aT b10 47 1 [(0, .one,one (.int .u64 (ps i:Nat)))],aT b9 3 1 [(0, .one,one (.int .i64 (i:Nat)))]]) dO.nil (SubM.refl _)
 exact ⟨rfl,b9,b10,Bd hS'.base.nd,hS.sub BY (SubM.refl _)⟩
end Tor
namespace Tor.Co
open Go Go.Conc Go.RowKit Go.Proofs
variable [Kc]
theorem reg9 {m:Bool} {b:Frame} {k:List Item} {cs:List Frame} {a0 a:Act} {W n i:Nat} {ps:Nat→Nat} {ĝ : World} {Stop:Goroutine→World→Prop} (hb:b.roundOf=none) (hk:b.kind ≠ .early) (h:RS a0 W n i a) (hi:i<n)
  (hp:(slT .one n fun q=>one (.int .u64 (ps q:Nat))).p (a0.tmps.getD 6 undef) (view ĝ))
  (hc : ∀ a' w' b9 b10,RS a0 W n i a'→a'.tmps.getD 9 undef = .pointer (some ⟨b9,0,none⟩)→a'.tmps.getD 10 undef = .pointer (some ⟨b10,0,none⟩)→b9≠b10→w'.heap[b9]? = some (.cells #[.int .i64 (i:Nat)] 3 (0,0)) →
   w'.heap[b10]? = some (.cells #[.int .u64 (ps i:Nat)] 47 (0,0))→GoI Tryz.prog m Stop (G (b.atR a' k) cs) w'):GoI Tryz.prog m Stop (G (b.atR a (.code (.region 9 ops9 false) :: k)) cs) ĝ := by
 have hS:St ⟨ĝ, [], [],40,none⟩ [] [(1,one (a0.tmps.getD 1 undef)),(2,one (a0.tmps.getD 2 undef)),(7,one (a0.tmps.getD 7 undef)),(8,one (.pointer (some ⟨W,0,none⟩))),(25,eqT (a0.tmps.getD 6 undef) (slT .one n fun q=>one (.int .u64 (ps q:Nat)))),(26,one (.int .i64 (n:Nat))),(27,one (.int .i64 (i:Nat)))] [] a ĝ := by
  refine St.start h.sz h.df (fun b hb=>(by cases hb)) ?_
  rw [uj]
  exact .cons (h.kp 1 X) (.cons (h.kp 2 X) (.cons (h.kp 7 X) (.cons h.s8 (.cons ⟨h.s25,by rw [h.s25]; exact hp⟩ (.cons h.s26 (.cons h.s27 .nil))))))
 have hq:=x4 (Be ĝ _ _ _ _ W n i ps hi) hS ⟨.inl Z,by kernel_rfl⟩
 refine hq m b k cs Stop hb hk fun e a' w' ⟨he,b9,b10,hne,hS'⟩ => ?_
 subst he
 have g : ∀ t v,bt [(9,one (.pointer (some ⟨b9,0,none⟩))),(10,one (.pointer (some ⟨b10,0,none⟩))),(1,one (a0.tmps.getD 1 undef)),(2,one (a0.tmps.getD 2 undef)),(7,one (a0.tmps.getD 7 undef)),(8,one (.pointer (some ⟨W,0,none⟩))),(25,eqT (a0.tmps.getD 6 undef) (slT .one n fun q=>one (.int .u64 (ps q:Nat)))),(26,one (.int .i64 (n:Nat))),(27,one (.int .i64 (i:Nat)))] t=some (one v)→a'.tmps.getD t undef=v:=fun t v ht=>hS'.tm t _ ht
 refine hc a' w' b9 b10 ⟨hS'.sz,hS'.df,fun t ht => ?_,g 8 _ Z,(hS'.tm 25 _ Z).1,g 26 _ Z,g 27 _ Z⟩ (g 9 _ Z) (g 10 _ Z) hne ?_ ?_
 ·rcases ht with rfl | rfl | rfl
  ·exact g 1 _ Z
  ·exact g 2 _ Z
  ·exact g 7 _ Z
 ·exact pH (hS'.base.mem _ (List.mem_cons_of_mem _ List.mem_cons_self))
 ·exact pH (hS'.base.mem _ List.mem_cons_self)
end Tor.Co
end
section
namespace Tor.Co
open Go Go.Conc Go.ConcN Go.RowKit Go.Conc.Lib Go.ConcR.Gen Go.ConcN.Gen Go.Proofs
open Go.ConcR (KK wgBlock WgAt stA smA rd wr mk DC0)
noncomputable def botD:Frame := { (default:Frame) with fn:=Tryz.prog.funcs.size,defers := [],mode := .panicking [goexitEntry] }
noncomputable def bodyW:Code:=(Tryz.f65.body).getD .skip
noncomputable def opsD:Array Oper:=opsC (fstC bodyW)
noncomputable def opsW:Array Oper:=opsC (sndC bodyW)
theorem bodyW_eq:bodyW = .seq (.region 0 opsD false) (.region 1 opsW true):=by kernel_rfl
abbrev dDone (W:Nat):List Deferred := [dcall 66 #[.pointer (some ⟨W,0,none⟩)]]
theorem born_step (a0:Act) (W b9 b10:Nat) (w:World):stepG Tryz.prog false (born Tryz.prog (callD a0 W b9 b10)) w =
  .go (G ((baseD 65).at ⟨#[.pointer (some ⟨W,0,none⟩),a0.tmps.getD 1 undef, .pointer (some ⟨b10,0,none⟩),a0.tmps.getD 7 undef, .pointer (some ⟨b9,0,none⟩),undef,undef,undef,undef,undef,undef,undef,undef,undef], []⟩ [.code bodyW]) [botD]) w #[]:=by
 simp [born,callD,stepG,unwind,callDeferred,invoke,callFunc,Tryz.func65,Tryz.f65,seen,GStep.after,G,Frame.enter,Frame.at,baseD,botD,bodyW]
theorem quitsTail (T:Array Value) (td:List Item):QuitsD Tryz.prog 2 0 (G { (baseD 65).at ⟨T, []⟩ td with mode := .returning } [botD]):=by
 refine QuitsD.ctl (g':=G botD []) Z (fun w => ?_) ?_
 ·simp [G,stepG,unwind,doReturn,results,Frame.at,baseD,botD,Tryz.func65,Tryz.f65,seen,GStep.after,goexitEntry]
 refine QuitsD.ctl (g' := { G botD [] with status := .finished }) Z (fun w => ?_) ⟨rfl,rfl⟩
 simp [G,stepG,unwind,botD,goexitEntry,Frame.catches]
 rfl
theorem tail_go {W:Nat} {a:Act} (hd:a.defers=dDone W):LGo Tryz.prog false Tryz.link.tWg W (R0 Tryz.prog Tryz.link.tWg W) (G ((baseD 65).atR a (.inRegion opsW [] :: [])) [botD]):=by
 refine LGo.calm Z (fun _=>sG_rend) ?_
 refine LGo.calm Z (fun _=>sG_end Z) ?_
 rw [Frame.atR_of_none Z]
 refine LGo.calm Z (fun w=>stepG_unwind_enter hd Tryz.wgLib.f_done (nm_done Tryz.link) Z) ?_
 exact doneNeg Tryz.wgLib Z (quitsTail _ _)
theorem loudW:(Tryz.prog.funcs[(baseD 65).fn]?).any (·.norace)=false:=by kernel_rfl
theorem store_step {C i:Nat} {x y:Int} {a:Act} {rest:List Nat} {w:World} {c:Array Value} (h13:a.tmps.getD 13 undef = .pointer (some ⟨C,2*i,none⟩)) (h11:a.tmps.getD 11 undef = .agg #[.int .u64 x, .int .u64 y])
  (hc:w.heap[C]? = some (.cells c 50 (0,0))) (hs:2*i+1<c.size) :
  stepG Tryz.prog false (G ((baseD 65).atR a (.inRegion opsW (9 :: rest) :: [])) [botD]) w =
   .go (G ((baseD 65).atR a (.inRegion opsW rest :: [])) [botD]) ((w.setCell ⟨C,2*i,none⟩ (.int .u64 x)).setCell ⟨C,2*i+1,none⟩ (.int .u64 y)) #[⟨.cell ⟨C,2*i,none⟩,true,false⟩,⟨.cell ⟨C,2*i+1,none⟩,true,false⟩]:=by
 have c1:w.cell? ⟨C,2*i,none⟩=some (c[2*i]'X):=by simp [World.cell?,hc,show 2*i<c.size by omega]
 have f1:w.frozen? ⟨C,2*i,none⟩=false:=by simp [World.frozen?,hc]
 have hb:(w.setCell ⟨C,2*i,none⟩ (.int .u64 x)).heap[C]? = some (.cells (c.setIfInBounds (2*i) (.int .u64 x)) 50 (0,0)):=by
  rw [setCell_eq_setRow w C (2*i) c _ (0,0) _ hc,setRow_heap w C _ _ _ _ hc]
 have c2:(w.setCell ⟨C,2*i,none⟩ (.int .u64 x)).cell? ⟨C,2*i+1,none⟩=some (c[2*i+1]'hs):=by simp [World.cell?,hb,hs,Array.getElem?_setIfInBounds_ne]
 have f2:(w.setCell ⟨C,2*i,none⟩ (.int .u64 x)).frozen? ⟨C,2*i+1,none⟩=false:=by simp [World.frozen?,hb]
 letI:Kc:=noAsk
 have hz:=Tryz.sizeOf50
 obtain ⟨o,ho,hop,hd,hg⟩ : ∃ o,opsW[9]? = some o∧o.op = .store 50 (.tmp 13) (.tmp 11)∧o.dst=none∧o.guard=none:=by
  dsimp only [opsW,opsC,sndC,bodyW,Tryz.f65,Option.getD_some]
  exact ⟨_,rfl,rfl,rfl,rfl⟩
 have hr:(execOp a.eval o).run Tryz.prog w = .ok .skip ((w.setCell ⟨C,2*i,none⟩ (.int .u64 x)).setCell ⟨C,2*i+1,none⟩ (.int .u64 y)):=by
  unfold execOp
  simp only [hop,Act.eval,h13,h11]
  simp [go_sem,stored,storeVar,storeCells,Instr.storeAt,Instr.sureAddr,Value.cells,c1,f1,c2,f2,hz,Addr.add]
 have he:(execOp a.eval o).events Tryz.prog w #[] = #[⟨.cell ⟨C,2*i,none⟩,true,false⟩,⟨.cell ⟨C,2*i+1,none⟩,true,false⟩]:=by
  unfold execOp
  simp only [hop,Act.eval,h13,h11]
  simp [go_sem,storedEv,stored,storeVar,storeCells,Instr.storeAt,Instr.sureAddr,Value.cells,c1,f1,c2,f2,hz,Addr.add]
 have:=sG_skp (P:=Tryz.prog) (m:=false) (R:=none) (b:=baseD 65) (k := []) (cs := [botD]) (rest:=rest) (.inl Z) ho (by simp [Region.wanted,hg]) Z (by simp [baseD]) hr
 rw [this,he,hd,seen_eq loudW (by simp)]
 rfl
end Tor.Co
end
section
namespace Tor
open Go Go.RowKit Go.Proofs
variable [Co.Kc]
structure UW (C i p r:Nat) (D:List Deferred) (rest:List Nat) (a:Act):Prop where
 sz:a.tmps.size=14
 df:a.defers=D
 s13:a.tmps.getD 13 undef = .pointer (some ⟨C,2*i,none⟩)
 s11:a.tmps.getD 11 undef = .agg #[.int .u64 (p:Nat), .int .u64 (r:Nat)]
 s5 : ∃ x y,a.tmps.getD 5 undef = .tuple #[x,y]
 rest:rest = []∨rest = [7]
theorem Bf {rest:List Nat} (hn:rest.Nodup) (h : ∀ i∈rest,i=7):rest = []∨rest = [7]:=by
 match rest,hn,h with
 | [], _, _ => exact .inl Z
 | [x], _, h => exact .inr (by rw [h x (by simp)])
 | x :: y :: _, hn, h =>
  have h1:=h x (by simp)
  have h2:=h y (by simp)
  subst h1;subst h2
  simp at hn
theorem zG {b i s:Nat} {v:Value} {h:Hp} (e:(eP b i s).p v h):v = .pointer (some ⟨b,i*s,none⟩):=e
theorem x5 {x v:Value} {h:Hp} (e:(one x).p v h):v=x:=e
theorem vD {φ ψ:VT} {v:Value} {h:Hp} (e:(bw [φ, ψ]).p v h) : ∃ x y,v = .tuple #[x,y]:=by
 obtain ⟨vs,rfl,hp⟩:=e
 match vs,hp with
 | [x, y], _ => exact ⟨x, y, rfl⟩
theorem zH {E:Env} {D:List Deferred} {Γ:Ctx} {M:Mem} {ops:Array Oper} {BT:List Nat→Act→World→Prop} (n:Nat) (hok:dX (n+1) ops=true) (hns:n+1=ops.size) (hnd:dstOf ops n=none) {P:Program}
  (h:Run P E ops true 0 D Γ M (ops.toList.take n) (fun D' Γ' M' => ∀ rest a w,Base E M' w→a.tmps.size=E.N→a.defers=D'→(∀ t φ,bt Γ' t=some φ→(∀ j,j<n→dstOf ops j=some t→eJ ops j n=true)→φ.p (a.tmps.getD t undef) (hv E M' w)) →
   rest.Nodup→(∀ i∈rest,i<n∧eJ ops i n=false)→BT rest a w)) {a:Act} {w:World} (hS:St E D Γ M a w) :
  ∀ w₁,Co.Grow w w₁→Co.wpAnyU P .any ops n BT ops.size (Array.replicate ops.size false) a { w₁ with drawn:=w₁.drawn+1 } := sQ n hok hns hnd h hS
attribute [local irreducible] J PJ aC one slT bL bE bw exT cj eP aT aH slV VT.le Ret bQ dz ed
theorem sR (w0:World) (O:List Nat) (D:List Deferred) (v0:Value) (C i n cap nn p r:Nat) (F:Nat→Nat→Int) (hi:i<n)
  (hR:Ok Tryz.prog 21 [cr nn nn F,one (.int .u64 (p:Nat))] (bw [one (.agg #[.int .u64 (p:Nat), .int .u64 (r:Nat)]),one (.int .i64 0)])) :
  Run Tryz.prog ⟨w0,O, [],14,none⟩ Co.opsW true 0 D [(0,one v0),(1,bL (.agg 3) (cr nn nn F)),(2,bL .one (one (.int .u64 (p:Nat)))),(3,bL .one (one (slV (some C) n cap))),(4,bL .one (one (.int .i64 (i:Nat))))] [] (Co.opsW.toList.take 9)
   (fun D' Γ' M' => ∀ rest a w,Base ⟨w0,O, [],14,none⟩ M' w→a.tmps.size=14→a.defers=D'→(∀ t φ,bt Γ' t=some φ→(∀ j,j<9→dstOf Co.opsW j=some t→eJ Co.opsW j 9=true)→φ.p (a.tmps.getD t undef) (hv ⟨w0,O, [],14,none⟩ M' w)) →
   rest.Nodup→(∀ i∈rest,i<9∧eJ Co.opsW i 9=false)→UW C i p r D rest a):=by
 dsimp only [Co.opsW,Co.opsC,Co.sndC,Co.bodyW,Tryz.f65,Option.getD_some,List.take]
 refine Cb (aY Z) (Cb (aY Z) (Cb (aY Z) (Cb (aY Z) ?_)))
 refine Cb (ao (hR) Z ⟨A,A,Cg⟩) ?_
 refine Cc Z (Cb (aA Z Z) (Cb (aA Z Z) (Cb (ar Z Z X) (Cf ?_))))
 intro rest a w hb hs hd hg hn hr
 refine ⟨hs,hd,(zG (hg 13 _ Z V)).trans (by rw [Nat.mul_comm]; rfl),x5 (hg 11 _ Z V),vD (hg 5 _ Z V),Bf hn fun j hj => ?_⟩
 obtain ⟨h1,h2⟩:=hr j hj
 revert h2
 have : ∀ j,j<9→eJ Co.opsW j 9=false→j=7:=by decide +kernel
 exact this j h1
end Tor
namespace Tor.Co
open Go Go.Conc Go.ConcN Go.RowKit Go.Conc.Lib Go.ConcR.Gen Go.ConcN.Gen Go.Proofs
open Go.ConcR (KK wgBlock WgAt stA smA rd wr mk DC0)
variable [Kc]
theorem rest_go {W C i p r:Nat} {rest:List Nat} {a:Act} (h:UW C i p r (dDone W) rest a):LGo Tryz.prog false Tryz.link.tWg W (R0 Tryz.prog Tryz.link.tWg W) (G ((baseD 65).atR a (.inRegion opsW rest :: [])) [botD]):=by
 rcases h.rest with e | e
 ·rw [e]; exact tail_go h.df
 ·rw [e]
  obtain ⟨x,y,h5⟩:=h.s5
  obtain ⟨o,ho,hop,hd,hg⟩ : ∃ o,opsW[7]? = some o∧o.op = .extract (.tmp 5) 1∧o.dst=some 12∧o.guard=none:=by
   dsimp only [opsW,opsC,sndC,bodyW,Tryz.f65,Option.getD_some]
   exact ⟨_,rfl,rfl,rfl,rfl⟩
  refine LGo.calm Z (sG_calm Z (by simp [baseD]) ho hg hd (v:=y) (fun w => ?_) (fun w => ?_)) ?_
  ·simp [execOp,hop,Act.eval,h5,Instr.extract]
  ·simp [execOp,hop,Act.eval,h5,Instr.extract]
  ·exact tail_go (by rw [put_defers]; exact h.df)
theorem child_go {S:Ses} {a0:Act} {b9 b10 i n cap nn p r:Nat} {F:Nat→Nat→Int} {g:World} (hi:i<n) (hP:S.P=Tryz.prog) (hty:S.ty=Tryz.link.tWg) (hC:S.eC=50) (hpv:S.pv i=(.int .u64 (p:Nat), .int .u64 (r:Nat)))
  (hch:S.child b9 b10=born Tryz.prog (callD a0 S.Wg b9 b10))
  (hR:Ok Tryz.prog 21 [cr nn nn F,one (.int .u64 (p:Nat))] (bw [one (.agg #[.int .u64 (p:Nat), .int .u64 (r:Nat)]),one (.int .i64 0)]))
  (h1:(bL (.agg 3) (cr nn nn F)).p (a0.tmps.getD 1 undef) (view g)) (h7:(bL .one (one (slV (some S.C) n cap))).p (a0.tmps.getD 7 undef) (view g))
  (h9:(bL .one (one (.int .i64 (i:Nat)))).p (.pointer (some ⟨b9,0,none⟩)) (view g)) (h10:(bL .one (one (.int .u64 (p:Nat)))).p (.pointer (some ⟨b10,0,none⟩)) (view g)) :
  GoI Tryz.prog false (AtStore S i) (S.child b9 b10) g:=by
 rw [hch]
 refine .calm Z (born_step a0 S.Wg b9 b10) ?_
 rw [bodyW_eq, ← Frame.atR_of_none Z]
 refine .calm Z (fun _=>sG_seq) ?_
 refine .calm Z (sG_reg (l := [0]) Y) ?_
 obtain ⟨o,ats,ho,hop,hd,hg⟩ : ∃ o ats,opsD[0]? = some o∧o.op = .defer { callee := .value (.func 66),args := #[.tmp 0],argTypes:=ats } ∧ o.dst=none∧o.guard=none:=by
  dsimp only [opsD,opsC,fstC,bodyW,Tryz.f65,Option.getD_some]
  exact ⟨_,_,rfl,rfl,rfl,rfl⟩
 refine .calm Z (fun w=>(by rw [Frame.atR_of_none Z]; exact stepG_defer ho (by simp [Region.wanted,hg]) (by simp [baseD]) hop)) ?_
 rw [← Frame.atR_of_none Z]
 refine .calm Z (fun _=>sG_rend) ?_
 rw [hd]
 generalize hA:Act.put _ none undef=BV
 have hA1:BV.tmps = #[.pointer (some ⟨S.Wg,0,none⟩),a0.tmps.getD 1 undef, .pointer (some ⟨b10,0,none⟩),a0.tmps.getD 7 undef, .pointer (some ⟨b9,0,none⟩),undef,undef,undef,undef,undef,undef,undef,undef,undef]:=by rw [← hA]; rfl
 have hA2:BV.defers=dDone S.Wg:=by rw [← hA]; simp [Act.put,Act.eval]
 clear hA
 have hS:St ⟨g, [], [],14,none⟩ (dDone S.Wg) [(0,one (.pointer (some ⟨S.Wg,0,none⟩))),(1,bL (.agg 3) (cr nn nn F)),(2,bL .one (one (.int .u64 (p:Nat)))),(3,bL .one (one (slV (some S.C) n cap))),(4,bL .one (one (.int .i64 (i:Nat))))] [] BV g:=by
  refine St.start (by rw [hA1]; rfl) hA2 (fun b hb=>(by cases hb)) ?_
  rw [uj]
  exact .cons (by rw [hA1]; rfl) (.cons (by rw [hA1]; exact h1) (.cons (by rw [hA1]; exact h10) (.cons (by rw [hA1]; exact h7) (.cons (by rw [hA1]; exact h9) .nil))))
 refine wpU_region_any (R:=none) (s:=9) (BT:=fun rest a _=>UW S.C i p r (dDone S.Wg) rest a) bH ⟨.inl Z,fun o ho=>Array.all_eq_true'.1 (show (opsW.all fun o=>plainK o.op)=true by kernel_rfl) o ho⟩ Z (by simp [baseD]) (fun rest a w hU => .stop fun w₁ _ => ?_) (zH 9 Y Y Y (sR g [] (dDone S.Wg) _ S.C i n cap nn p r F hi hR) hS)
 unfold AtStore
 rw [hP,hty,hC]
 refine ⟨rfl,_,fun w c hc hs => ?_,rest_go hU⟩
 rw [store_step hU.s13 hU.s11 hc hs]
 unfold put2 ev2
 rw [hpv]
end Tor.Co
end
section
namespace Tor.Co
open Go Go.Conc Go.ConcN Go.RowKit Go.Conc.Lib Go.ConcR.Gen Go.ConcN.Gen Go.Proofs
open Go.ConcR (KK wgBlock WgAt stA smA rd wr mk DC0)
structure GoodX (d:DD) (a:Act) (w:World) (nn:Nat) (F:Nat→Nat→Int) (ps rs:Nat→Nat) (b7 cap:Nat) (O:List Nat):Prop where
 sz:a.tmps.size=40
 df:a.defers = []
 sml:d.n<2147483648
 eC:d.eC=50
 e9:d.e9=3
 e10:d.e10=47
 hidC:d.C∈O
 pv : ∀ i,i<d.n→d.pv i=(.int .u64 (ps i:Nat), .int .u64 (rs i:Nat))
 bx : ∀ i,i<d.n→d.bx i=(.int .i64 (i:Nat), .int .u64 (ps i:Nat))
 res : ∀ i,i<d.n → @Ok noAsk Tryz.prog 21 [cr nn nn F,one (.int .u64 (ps i:Nat))] (bw [one (.agg #[.int .u64 (ps i:Nat), .int .u64 (rs i:Nat)]),one (.int .i64 0)])
 s1:(bL (.agg 3) (cr nn nn F)).p (a.tmps.getD 1 undef) (Tor.hid O (view w))
 s6:(slT .one d.n fun q=>one (.int .u64 (ps q:Nat))).p (a.tmps.getD 6 undef) (Tor.hid O (view w))
 s7:a.tmps.getD 7 undef = .pointer (some ⟨b7,0,none⟩)
 h7:w.heap[b7]? = some (.cells #[slV (some d.C) d.n cap] 46 (0,0))
 ne:b7≠d.C
 pay : ∃ c,w.heap[d.C]? = some (.cells c 50 (0,0))∧c.size=2*d.n
def detG (d:DD) (a:Act) (w:World):Prop := ∃ nn F ps rs b7 cap O,GoodX d a w nn F ps rs b7 cap O
def detA (a a':Act):Prop:=a'.tmps.size=40∧a'.defers = []∧a'.tmps.getD 2 undef=a.tmps.getD 2 undef∧a'.tmps.getD 7 undef=a.tmps.getD 7 undef
theorem GoodX.grow {d:DD} {a:Act} {w w₁:World} {nn:Nat} {F:Nat→Nat→Int} {ps rs:Nat→Nat} {b7 cap:Nat} {O:List Nat} (h:GoodX d a w nn F ps rs b7 cap O) (k:Grow w w₁):GoodX d a w₁ nn F ps rs b7 cap O:=by
 have keep : ∀ {b:Nat} {o:Obj},w.heap[b]? = some o→w₁.heap[b]? = some o:=fun {b o} e=>(k.block b (Array.getElem?_eq_some_iff.1 e).1).trans e
 obtain ⟨c,h1,h2⟩:=h.pay
 exact { h with s1:=(bL _ _).mono (gW (Ext.view k)) h.s1,s6:=(slT _ _ _).mono (gW (Ext.view k)) h.s6,h7:=keep h.h7,pay:=⟨c,keep h1,h2⟩ }
noncomputable def detT:Piece where
 c:=detC
 z:=detL
 good:=detG
 after:=detA
 grow:=fun ⟨nn,F,ps,rs,b7,cap,O,h⟩ k=>⟨nn,F,ps,rs,b7,cap,O,h.grow k⟩
 pays:=fun {d a w} ⟨nn,F,ps,rs,b7,cap,O,h⟩ _=>by obtain ⟨c,h1,h2⟩:=h.pay;exact ⟨c,by rw [h.eC]; exact h1,h2⟩
theorem Scr_as (S:Ses) (r:Nat) : ∃ St, ∀ g,Scr S r g=LGo S.P true S.ty S.Wg St g:=by cases r <;> exact ⟨_,fun _=>rfl⟩
section
variable {d:DD} {a:Act} {ĝ : World} {nn:Nat} {F:Nat→Nat→Int} {ps rs:Nat→Nat} {b7 cap:Nat} {O:List Nat} {b:Frame} {k:List Item} {cs:List Frame} {S:Ses} {Wg:Nat}
structure SesD (S:Ses) (d:DD) (a0:Act) (ĝ : World) (Wg:Nat) (b:Frame) (k:List Item) (cs:List Frame):Prop where
 P:S.P=Tryz.prog
 ty:S.ty=Tryz.link.tWg
 eWg:S.Wg=Wg
 n:S.n=d.n
 C:0<d.n→S.C=d.C
 eC:S.eC=d.eC
 e9:S.e9=d.e9
 e10:S.e10=d.e10
 pv:S.pv=d.pv
 bx:S.bx=d.bx
 child:S.child=fun b9 b10=>born Tryz.prog (callD a0 Wg b9 b10)
 Anch:S.Anch=fun g => ∃ a1,RS a0 Wg d.n d.n a1∧AnchW Tryz.link Wg (b.at a1 (.inRegion ops13 [0] :: .code detL :: k)) cs g
 vis : ∀ gg,Sees S gg → ∀ b' c e f,c ≠ #[] → ĝ.heap[b']? = some (.cells c e f)→(0<d.n→b'≠d.C)→gg.heap[b']? = some (.cells c e (0,c.size))
theorem SesD.sees {a0:Act} (s:SesD S d a0 ĝ Wg b k cs) (hO:d.C∈O) {gg:World} (h:Sees S gg):Hp.sees (Tor.hid O (view ĝ)) (view gg):=fun b' c T f hc e=>by
 obtain ⟨h1,h2⟩:=cW e
 exact ⟨_,fR (s.vis gg h b' c T f hc (dS h2) fun _ e=>h1 (e▸hO))⟩
theorem piece_scr {a0:Act} (s:SesD S d a0 ĝ Wg b k cs) (h:GoodX d a0 ĝ nn F ps rs b7 cap O) (hb:b.roundOf=none) (hk:b.kind ≠ .early) : ∀ r,r≤d.n → ∀ a1,RS a0 Wg d.n (d.n - r) a1 →
  Scr S r (G (b.atR a1 (.code rndC :: .inLoop rndC :: .inBlock 0 :: .code (.seq (.region 13 ops13 false) detL) :: k)) cs):=by
 have hsm:=h.sml
 intro r
 induction r with
 | zero =>
  intro _ a1 h1
  unfold Scr
  rw [s.P,s.ty,s.eWg,s.Anch]
  exact head hb hk X h1 (Nat.le_refl _) (fun hlt=>absurd hlt X) fun _ a' h'=>(reg13 hb hk h'.s8).mono fun g hg=>hg.mono fun g hg=>⟨a',h',hg⟩
 | succ r ih =>
  intro hr a1 h1
  obtain ⟨St,hSt⟩:=Scr_as S r
  unfold Scr
  rw [s.P,s.ty,s.eWg,s.n]
  refine head hb hk X h1 X (fun hlt a2 h2=>LGo.stop ⟨rfl,fun gg hsee => ?_⟩) fun he=>absurd he X
  rw [s.P]
  letI:Kc:=noAsk
  refine @reg9 noAsk true b _ cs a0 a2 Wg d.n (d.n - (r+1)) ps gg _ hb hk h2 hlt (Thaw.thaw (s.sees h.hidC hsee) h.s6) fun a3 w3 b9 b10 h3 e9 e10 hne k9 k10 => .stop fun w4 hg => ?_
  refine ⟨b9,b10,hne,?_,?_,?_,rfl⟩
  ·rw [s.bx,h.bx _ hlt,s.e9,h.e9]
   exact (hg.block b9 (Array.getElem?_eq_some_iff.1 k9).1).trans k9
  ·rw [s.bx,h.bx _ hlt,s.e10,h.e10]
   exact (hg.block b10 (Array.getElem?_eq_some_iff.1 k10).1).trans k10
  ·rw [s.P,s.ty,s.eWg]
   refine reg10 hb hk h3 (reg11 hb hk (h3.put X) ?_ ?_ s.P (by rw [s.child]) fun a4 h4 => ?_)
   ·rw [aP X]; exact e9
   ·rw [aP X]; exact e10
   rw [hSt,s.P,s.ty,s.eWg]
   refine LGo.calm Z (fun _=>sG_rend) (reg12 hb hk X h4 fun a5 h5 => ?_)
   have:=ih X a5 (by rw [show d.n - r=d.n - (r+1)+1 by omega]; exact h5)
   rw [hSt,s.P,s.ty,s.eWg] at this
   exact this
theorem cell_ptr {w:World} {b':Nat} {v:Value} {T:TypeId} {f:Nat × Nat} (h:w.heap[b']? = some (.cells #[v] T f)):(bL .one (one v)).p (.pointer (some ⟨b',0,none⟩)) (view w) :=
 ⟨b',0, #[v],T,f,v,rfl,fR h,rfl,rfl⟩
theorem piece_child {a0:Act} (s:SesD S d a0 ĝ Wg b k cs) (h:GoodX d a0 ĝ nn F ps rs b7 cap O):ChildOk S:=by
 intro i hi b9 b10 g h9 h10 hsee
 rw [s.n] at hi
 rw [s.bx,h.bx i hi] at h9 h10
 have h7:=s.vis g hsee b7 _ _ _ (by simp) h.h7 (fun _=>h.ne)
 rw [s.P]
 refine @child_go noAsk S a0 b9 b10 i d.n cap nn (ps i) (rs i) F g hi s.P s.ty (s.eC.trans h.eC) (by rw [s.pv]; exact h.pv i hi) (by rw [s.child,s.eWg]) (h.res i hi) (Thaw.thaw (s.sees h.hidC hsee) h.s1) ?_ (cell_ptr h9) (cell_ptr h10)
 rw [h.s7,s.C X]
 exact cell_ptr h7
theorem piece_anch {a0:Act} (s:SesD S d a0 ĝ Wg b k cs) (hF:S.Fin=fun g => ∃ a',detA a a'∧g=G (b.atR a' (.code detL :: k)) cs) (h2:a0.tmps.getD 2 undef=a.tmps.getD 2 undef) (h7:a0.tmps.getD 7 undef=a.tmps.getD 7 undef) (hb:b.roundOf=none) :
  ∀ g,S.Anch g→g.status = .running∧LGo Tryz.prog true Tryz.link.tWg Wg (W1 Tryz.prog Tryz.link.tWg Wg S.Fin S.Anch) g:=by
 intro g hg
 rw [s.Anch] at hg ⊢
 obtain ⟨a1,hR,hA⟩:=hg
 refine ⟨?_,?_⟩
 ·obtain ⟨T,rfl,_⟩:=hA;rfl
 ·have e:(ops13[0]?).bind (·.dst)=some 35:=by kernel_rfl
  refine (waitRound (Ret:=S.Fin) Tryz.wgLib ?_ hA).mono fun g hg=>hg.mono fun g hg=>⟨a1,hR,hg⟩
  rw [e, ← Frame.atR_of_none hb]
  refine LGo.calm Z (fun _=>sG_rend) (.stop ?_)
  rw [hF]
  have hR':=hR.put (d:=35) (v := .tuple #[]) X
  exact ⟨_,⟨hR'.sz,hR'.df,(hR'.kp 2 X).trans h2,(hR'.kp 7 X).trans h7⟩,rfl⟩
theorem run_alloc (a:Act) (w:World) {o:Oper} (hop:o.op = .alloc 112):(execOp a.eval o).run Tryz.prog w = .ok (.value (.pointer (some ⟨w.heap.size,0,none⟩))) (w.alloc (wgBlock Tryz.link.tWg 0 0))∧(execOp a.eval o).events Tryz.prog w #[] = #[]:=by
 have h1:=Tryz.zeroValue112
 have h2:=Tryz.sizeOf112
 have h3:=Tryz.isAgg112
 have h4:=Tryz.underlying112
 refine ⟨?_,?_⟩
 ·unfold execOp
  simp only [hop]
  simp [go_sem,Instr.alloc,h1,h2,h3,h4]
  rfl
 ·unfold execOp
  simp only [hop]
  simp [go_sem,Instr.alloc,h1,h2,h3,h4]
theorem GoodX.put8 (h:GoodX d a ĝ nn F ps rs b7 cap O) (v:Value):GoodX d (a.put (some 8) v) ĝ nn F ps rs b7 cap O :=
 { h with sz:=(put_size _ _ _).trans h.sz,df:=(put_defers _ _ _).trans h.df,s1:=by rw [aP X]; exact h.s1,s6:=by rw [aP X]; exact h.s6,s7:=by rw [aP X]; exact h.s7 }
theorem detT_ok:PieceOk Tryz.prog Tryz.link.tWg detT:=by
 refine ⟨fun ⟨nn,F,ps,rs,b7,cap,O,h⟩=>h.sml,?_⟩
 rintro d a ĝ ⟨nn,F,ps,rs,b7,cap,O,h⟩ b k cs hb hk
 have hsm:=h.sml
 let rest:Code := .seq (.seq (.region 7 ops7 false) (.block 0 (.loop rndC))) (.seq (.region 13 ops13 false) detL)
 refine ⟨G (b.atR a (.inRegion ops6 [0] :: .code rest :: k)) cs,fun W=>G (b.atR (a.put (some 8) (.pointer (some ⟨W,0,none⟩))) (.inRegion ops6 [] :: .code rest :: k)) cs,?_,rfl,fun w => ?_,fun Wg => ?_⟩
 ·rw [show (Item.code detT.c) = .code (.seq (.region 6 ops6 false) rest) from congrArg _ detC_eq]
  exact .step Z (fun _=>sG_seq) (.step Z (sG_reg (l := [0]) Y) .refl)
 ·obtain ⟨o,ho,hop,hd,hg⟩ : ∃ o,ops6[0]? = some o∧o.op = .alloc 112∧o.dst=some 8∧o.guard=none:=by
   dsimp only [ops6,opsC,fstC,sndC,detC,bodyD,Tryz.f40,Option.getD_some]
   exact ⟨_,rfl,rfl,rfl,rfl⟩
  letI:Kc:=noAsk
  obtain ⟨h1,h2⟩:=run_alloc a w hop
  have:=sG_val (P:=Tryz.prog) (m:=true) (R:=none) (b:=b) (k := .code rest :: k) (cs:=cs) (rest := []) (.inl Z) ho (by simp [Region.wanted,hg]) hb hk h1
  rw [this,h2,hd]
  simp [seen_none]
 obtain ⟨a0,ha0⟩ : ∃ a0,a0=a.put (some 8) (.pointer (some ⟨Wg,0,none⟩)):=⟨_,rfl⟩
 have h0:GoodX d a0 ĝ nn F ps rs b7 cap O:=ha0▸h.put8 _
 have k2:a0.tmps.getD 2 undef=a.tmps.getD 2 undef:=by rw [ha0,aP X]
 have k7:a0.tmps.getD 7 undef=a.tmps.getD 7 undef:=by rw [ha0,aP X]
 have k8:a0.tmps.getD 8 undef = .pointer (some ⟨Wg,0,none⟩):=by rw [ha0,be (by rw [h.sz]; omega)]
 dsimp only
 rw [← ha0]
 refine ⟨fun b9 b10=>born Tryz.prog (callD a0 Wg b9 b10),fun g => ∃ a1,RS a0 Wg d.n d.n a1∧AnchW Tryz.link Wg (b.at a1 (.inRegion ops13 [0] :: .code detL :: k)) cs g,?_⟩
 intro S s1 s2 s3 s4 s5 s6 s7 s8 s9 s10 s11 s12 s13 s14
 have s:SesD S d a0 ĝ Wg b k cs:=⟨s1,s2,s3,s4,s5,s6,s7,s8,s9,s10,s11,s12,s14⟩
 refine ⟨?_,piece_child s h0,fun g hg => ?_⟩
 ·obtain ⟨St,hSt⟩:=Scr_as S S.n
  obtain ⟨x,cp,e6,_,_,_⟩:=h0.s6
  rw [hSt,s1,s2,s3]
  refine LGo.calm Z (fun _=>sG_rend) (LGo.calm Z (fun _=>sG_seq) (LGo.calm Z (fun _=>sG_seq) (reg7 hb hk h0.sz h0.df k8 e6 fun a1 h1 => ?_)))
  refine LGo.calm Z (fun _=>sG_block) (LGo.calm Z (fun _=>sG_loop) ?_)
  have:=piece_scr s h0 hb hk d.n (Nat.le_refl _) a1 (by rw [Nat.sub_self]; exact h1)
  rw [← s4,hSt,s1,s2,s3] at this
  exact this
 ·have:=piece_anch s s13 k2 k7 hb g (by rw [s12]; exact hg)
  rw [s12] at this
  exact this
end
end Tor.Co
end
section
namespace Tor.Co
open Go Go.Conc Go.RowKit
theorem wpX_ask {P:Program} {T:Piece} {Q:Exit→Act→World→Prop} {d:DD} {a:Act} {w:World} (hg:T.good d a w) (h : ∀ a' w',T.after a a'→AfterW d w w' → @WpX (pieceK T) P none T.z Q a' w') : @WpX (pieceK T) P none T.c Q a w :=
 fun m b k cs Stop hb hk hc => @GoI.ask (pieceK T) P m Stop b a k cs w T.c T.z (fun a' w'=>T.after a a'∧AfterW d w w') hb hk ⟨rfl,rfl,d,hg,fun _ _ h1 h2=>⟨h1,h2⟩⟩ fun a' w' hR=>h a' w' hR.1 hR.2 m b k cs Stop hb hk hc
theorem top_at [Kc] {P:Program} {f:FuncId} {fn:Func} {c:Code} {args:Array Value} {w:World} {R:Value→World→Prop} (hf:P.funcs[f]? = some fn) (hb:fn.body=some c) (hi:P.inits.idxOf? f=none)
  (h:WpX P none c (bodyX P fn fun | .returned v,w=>R v w | _,_=>False) { tmps:=args ++ Array.replicate (fn.ntmps - args.size) undef,defers := [] } w):GoI P true (AtRet P R) (G (Frame.enter P f args .normal) []) w:=by
 let b:Frame := { (default:Frame) with fn:=f,kind := .normal }
 have henter:Frame.enter P f args .normal=b.atR { tmps:=args ++ Array.replicate (fn.ntmps - args.size) undef,defers := [] } [.code c]:=by
  simp [Frame.enter,Frame.atR,hf,hb,b]; rfl
 rw [henter]
 have ret : ∀ (a:Act) (w:World) (todo:List Item),(a.defers = [] ∧ ∀ w₁,Grow w w₁ → ∃ v,(results fn a.tmps).run P w₁ = .ok v w₁∧R v w₁)→GoI P true (AtRet P R) (G { b.atR a todo with mode := .returning } []) w:=fun a w todo ⟨hd,h⟩=>by
  obtain ⟨ts,ds⟩:=a
  simp only at hd
  subst hd
  exact .stop fun w₁ h₁=>⟨b,fn,ts,todo,rfl,rfl,hf,hi,h w₁ h₁⟩
 refine h true b [] [] _ Z (by simp [b]) fun e a' w' q => ?_
 cases e with
 | normal => exact .calm Z (fun _ => sG_end Z) (ret _ _ _ q)
 | ret => exact ⟨fun _ todo => ret _ _ _ q, fun h => by cases h⟩
 | _ => exact q.elim
end Tor.Co
end
section
namespace Tor
open Go Go.RowKit Go.Proofs
variable [Tor.Co.Kc]
abbrev rp (l:List Nat):VT:=slT .one l.length (fun q=>one (.int .u64 (l.getD q 0:Nat)))
def jF (l:List Nat) (k:Nat):Nat:=prN k (fun q=>l.getD q 0)
theorem uk {l:List Nat} (hl : ∀ q,l.getD q 0<2^64) : ∀ k,jF l k≤2^(64*k)
 | 0 => Nat.le_refl _
 | k + 1 => by
  have h1:=uk hl k
  have h2:=hl k
  show jF l k*l.getD k 0≤_
  rw [Nat.mul_succ,Nat.pow_add]
  exact Nat.mul_le_mul h1 (Nat.le_of_lt h2)
theorem sS {l:List Nat} (hl : ∀ q,l.getD q 0<2^64) {k:Nat} (hk:k≤24):cf (jF l k:Int):=gz (n:=2^1600) (by
 rw [Int.natAbs_natCast]
 exact Nat.le_trans (uk hl k) (Nat.pow_le_pow_right (n:=2) (i:=64*k) (j:=1600) U X)) (Nat.pow_lt_pow_right (a:=2) (m:=1600) (n:=2048) U U)
theorem gi {x:Nat} (h:x<2^64):cf (x:Int):=gz (n:=2^64) (by rw [Int.natAbs_natCast]; exact Nat.le_of_lt h) V
theorem gtc {x y:Int} : (0<c4 x y)↔y<x:=by unfold c4;split <;> (try split) <;> omega
theorem vE (l:List Nat) (k:Nat):((jF l (k+1):Nat):Int)=(jF l k:Int)*(l.getD k 0:Int):=by
 show ((jF l k*l.getD k 0:Nat):Int)=_
 exact Int.natCast_mul _ _
attribute [local irreducible] J PJ aC one slT bL bE bw exT cj eP aT aH slV VT.le Ret bQ dz ed
attribute [local irreducible] aU
theorem rq (u:Nat) (hu:u<18446744073709551616):Ok Tryz.prog 91 [one (.int .u64 (u:Nat))] (aU (u:Int)):=by
 have h1:=iH (u / 4294967296:Nat) X X
 have h2:=iH 4294967296 U U
 have h3:=iH (u % 4294967296:Nat) X X
 have s1:cf ((u / 4294967296:Nat):Int):=gi X
 have s2:cf (4294967296:Int):=gi (x:=4294967296) U
 have s3:cf ((u % 4294967296:Nat):Int):=gi X
 have hm:=f7 ((u / 4294967296:Nat):Int) 4294967296 s1 s2
 have ha:=fZ (((u / 4294967296:Nat):Int)*4294967296) ((u % 4294967296:Nat):Int) (by
  have:((u / 4294967296:Nat):Int)*4294967296=((u / 4294967296*4294967296:Nat):Int):=by omega
  rw [this]; exact gi X) s3
 refine Ok.enter Tryz.func91 Z Tryz.ntmps91 Z (fun w O => ?_)
 refine ae (ai ?_)
 refine aN (T:=28) Z (ltN Z) (fun b2 => ?_)
 refine Cf (aa (ae (ai (Cc Z (Cb (fw Z) (Cb (dc Z X X) ?_))))))
 refine Cb (ao (h1) Z ⟨A,Cg⟩) ?_
 refine Cb (ao (h2) Z ⟨A,Cg⟩) ?_
 refine Cb (ao (hm) Z ⟨A,A,Cg⟩) ?_
 refine aN (T:=28) Z (ltN Z) (fun b3 => ?_)
 refine az 0 Z Z Z Z Z (leN Z) Z (Cf (aa (ae (bG 6 bH Y U (Cb (am 0 Z Z Z) (Cc Z (Cb (rY Z X) (Cb (dc Z X X) ?_))))))))
 refine Cb (ao (h3) Z ⟨A,Cg⟩) ?_
 refine Cb (ao (ha) Z ⟨A,A,Cg⟩) ?_
 refine Cf (az 1 Z Z Z Z Z (leN Z) Z (Cf (aa (aG ?_))))
 refine aV Tryz.results91 (.cellB 1 Z Z Z (oh X))
theorem ov (l:List Nat) (b:Int) (hl : ∀ q,l.getD q 0<2^64) (hk:l.length≤24) (hb:gS b):Ok Tryz.prog 59 [rp l,aU b] (one (.bool (decide (b+b<(jF l l.length:Int))))):=by
 have h1:=iH 1 U U
 have had:=fZ b b (cM hb) (cM hb)
 have hc:=jt (jF l l.length:Int) (b+b)
 have hgt:=gtc (x:=(jF l l.length:Int)) (y:=b+b)
 refine Ok.enter Tryz.func59 Z Tryz.ntmps59 Z (fun w O => ?_)
 refine ae (ai ?_)
 refine jH Z Z (ltN Z) (fun b3 => ?_)
 refine Cd Z (Cf (aa (ae (ai ?_))))
 refine Cb (ao (h1) Z ⟨A,Cg⟩) ?_
 refine aN (T:=28) Z (ltN Z) (fun b5 => ?_)
 refine az 0 Z Z Z Z Z (leN Z) Z (Cf (aa (ae (ae (ai (Cc Z (Cb (a9 Z) (Cc Z (Cf ?_)))))))))
 refine aa (aw (cv (Γ' := [(3,_),(4,_),(5,_),(9,_),(10,_),(11,_)]) BW (SubM.refl _) ?_))
 refine bO (σ:=Nat) (Γk := [(3,_),(4,_),(5,_),(9,_),(10,_)]) BW (fun i => [(11,one (.int .i64 (i:Nat)))]) (fun i M0=>(M0.set 0 (aT b5 28 2 [(0, .agg 2,aU (jF l i:Int))]))) (fun i=>i≤l.length) (fun i=>l.length - i) (0) (Nat.zero_le _) BX (.keep Ca (.keep Ca (.nil))) (fun i hi => ?_)
 refine cg (Γ' := [(11,_),(3,_),(4,_),(5,_),(9,_),(10,_)]) (M' := [_,_]) Z Z ?_
 by_cases hi:i<l.length
 ·have hw:=rq (l.getD i 0) (hl i)
  have hm:=f7 (jF l i:Int) (l.getD i 0:Int) (sS hl X) (gi (hl i))
  have hs:=vE l i
  refine ae (ai (Cb (sT X (bD Z Z)) (Cf (aa (ae (aM Z (ay (aa (ae ?_)))))))))
  refine aw (ae (ai (Cb (aI Z Z X) (Cb (aY Z) (Cd Z (Cf (aa (bG 4 bH Y U (Cb (am 0 Z Z Z) ?_)))))))))
  refine Cc Z ?_
  refine Cb (ao (hw) Z ⟨A,Cg⟩) ?_
  refine Cb (ao (hm) Z ⟨A,A,Cg⟩) ?_
  refine Cf (az 0 Z Z Z Z Z (leN Z) Z (Cf (aK (aa (ai (Cb (bU _ 1 Z Z X) (Cc Z (Cf ?_))))))))
  refine aX (i+1) (hi) X BX (.keep Ca (.keep Ca (.nil)))
 ·have he:i=l.length:=by omega
  subst he
  generalize c4 (jF l l.length:Int) (b+b)=cc at *
  refine ae (ai (Cb (sF X (bD Z Z)) (Cf (aa (ae (aD Z (a8 (ax (ax ?_)))))))))
  refine aL (aa (ae (bG 6 bH Y U (Cb (am 0 Z Z Z) (Cb (am 1 Z Z Z) (Cb (am 1 Z Z Z) ?_))))))
  refine Cb (ao (had) Z ⟨A,A,Cg⟩) ?_
  refine Cb (ao (hc) Z ⟨A,A,Cg⟩) ?_
  refine Cb (dx Z Z) (Cf (Cd Z (Cf (aa (aG ?_)))))
  refine aV Tryz.results59 (.tmp Z (av (by congr 1;exact decide_eq_decide.2 hgt)))
end Tor
end
section
namespace Tor
open Go Go.RowKit Go.Proofs
variable [Tor.Co.Kc]
theorem pI {p:Nat→Bool} {n:Nat} : bf p n<2147483648:=by
 have:=kN p (min n 2147483648)
 show iK p (min n 2147483648)<_
 omega
theorem Ah {p:Nat→Bool} {n:Nat} (h:0<n):bf p n<n:=by
 have:=kN p (min n 2147483648)
 show iK p (min n 2147483648)<_
 omega
theorem ru {sv:Option Nat} {T:TypeId} {cap x:Nat} {l:List Nat} : Own.le (aH sv T .one cap (l.length+1) (fun q=>if q<l.length then one (.int .u64 (l.getD q 0:Nat)) else one (.int .u64 (x:Nat)))) (aH sv T .one cap (l ++ [x]).length (fun q=>one (.int .u64 ((l ++ [x]).getD q 0:Nat)))):=by
 refine i7 (by simp) (fun q hq => ?_)
 by_cases h:q<l.length
 ·rw [if_pos h]; simp only [List.getD]; rw [List.getElem?_append_left h]
 ·have:q=l.length:=by omega
  subst this;rw [if_neg h]; simp [List.getD]
theorem mc:VT.le (one (.slice none 0 0)) (rp []):=gL
theorem zI {l m:List Nat} (h:l=m):VT.le (rp l) (rp m):=h▸VT.le_refl _
attribute [local irreducible] J PJ aC one slT bL bE bw exT cj eP aT aH slV VT.le Ret bQ dz ed
attribute [local irreducible] aU
end Tor
end
section
namespace Tor
open Go Go.RowKit Go.Proofs
variable [Tor.Co.Kc]
abbrev U64:=Fin 18446744073709551616
def vF (x:U64):Value := .int .u64 (x.val:Nat)
def dnL (c k:Nat):List U64:=(List.range k).map fun i=>⟨(c - 1 - i) % 18446744073709551616,Nat.mod_lt _ U⟩
theorem ji {c k:Nat} : dnL c (k+1)=dnL c k ++ [⟨(c - 1 - k) % 18446744073709551616,Nat.mod_lt _ U⟩]:=by simp [dnL,List.range_succ]
theorem zJ {c k:Nat} : (dnL c k).length=k:=by simp [dnL]
theorem no {p:Nat→Bool} {c:Nat} (hc:c<18446744073709551616) : ∀ k,k≤c→(∀ y∈dnL c k,p y.val=false)→iK p c=iK p (c - k)
 | 0, _, _ => rfl
 | k + 1, hk, h => by
  rw [no hc k X (fun y hy=>h y (by rw [ji]; exact List.mem_append.2 (.inl hy)))]
  have h1:=h ⟨(c - 1 - k) % 18446744073709551616,Nat.mod_lt _ U⟩ (by rw [ji]; exact List.mem_append.2 (.inr (List.mem_singleton.2 Z)))
  have h1:p ((c - 1 - k) % 18446744073709551616)=false:=h1
  rw [Nat.mod_eq_of_lt X] at h1
  rw [show c - k=(c - 1 - k)+1 by omega,iK,if_neg (by rw [h1]; simp),show c - (k+1)=c - 1 - k by omega]
attribute [local irreducible] J PJ aC one slT bL bE bw exT cj eP aT aH slV VT.le Ret bQ dz ed
theorem x6 (n:Nat) (hn:n<18446744073709551616):OkY Tryz.prog 166 [bL .one (one (.int .u64 (n:Nat)))] vF (fun xs=>xs=dnL (min n 2147483648) (min n 2147483648)) (fun pre => ∃ k,k<min n 2147483648∧pre=dnL (min n 2147483648) (k+1)) (min n 2147483648):=by
 refine OkY.enter Tryz.func166 Z Tryz.ntmps166 Z (fun w0 l J Jx B hA hAx hY h0 => ?_)
 refine ae (ai (Cb (aY Z) (Cb (vV Z Z) (Cd Z (Cf (aa (aw ?_)))))))
 obtain ⟨c,hc⟩ : ∃ c:Nat,c=min n 2147483648:=⟨_,rfl⟩
 have hcl:c<18446744073709551616:=by omega
 have hci:(min (n:Int) 2147483648)=(c:Int):=by omega
 rw [hci]
 rw [← hc] at hY ⊢
 refine Ad [(0,one (.func (.yield l) #[] #[])),(3,one (.int .u64 (c:Nat)))] (.cons Z A (.cons Z A .nil)) (.cons (.cons .nil)) (fun w1 hw1 => ?_)
 refine c6 (σ:=Nat × World) (fun s => [(0,one (.func (.yield l) #[] #[])),(3,one (.int .u64 ((c - s.1:Nat):Int)))]) (fun s => [yO s.2]) (fun s=>s.1≤c∧SameW w1 s.2∧J (dnL c s.1) s.2) (fun s=>c - s.1) (0,w1)
  ⟨Nat.zero_le _,SameW.refl _,qr hA h0 hw1⟩ (dO.refl _) (SubM.refl _) (fun s hs => ?_)
 obtain ⟨k,W⟩:=s
 obtain ⟨hk,hsw,hJ⟩:=hs
 dsimp only at hk hsw hJ ⊢
 by_cases hlt:k<c
 ·have hv:one (.int .u64 ((c - k - 1:Nat):Int))=one (vF ⟨(c - 1 - k) % 18446744073709551616,Nat.mod_lt _ U⟩):=by
   have e:(c - 1 - k) % 18446744073709551616=c - k - 1:=by omega
   show _=one (.int .u64 (((c - 1 - k) % 18446744073709551616:Nat):Int))
   rw [e]
  refine ae (ae (ai ?_))
  refine Cc Z (Cb (sT X (dx Z Z)) (Cf ?_))
  refine aa (aM Z (ay (aa (ae (aw (ae ?_))))))
  refine wD (m:=3) ⟨(c - 1 - k) % 18446744073709551616,Nat.mod_lt _ U⟩ [(0,one (.func (.yield l) #[] #[])),(3,one (.int .u64 ((c - k:Nat):Int)))] hY hA hsw hJ (by rw [zJ]; exact hlt) Z Z (.cons (.cons .nil)) ?_ (fun W' hJ' hw' => ?_) (fun W' hx' => ?_)
  ·refine Cc Z (Cc Z (Cb (jS 1 Z Z X X) (Cf ?_)))
   exact ⟨rfl,rfl,rfl,congrArg some hv, .cons Z A (.cons Z A .nil)⟩
  ·rw [← ji] at hJ'
   refine Cb (c8 Z) (Cf (aa (aD Z (ay (aK (aa (ai (Cc Z (Cb (jS 1 Z Z X X) ?_)))))))))
   refine Cd Z (Cf ?_)
   refine aX (k+1,W') ?_ ?_ ?_ (SubM.refl _)
   ·exact ⟨hlt,hw',hJ'⟩
   ·show c - (k+1)<c - k;omega
   ·exact .cons Z A (.cons Z (av (by rw [Nat.sub_sub])) .nil)
  ·rw [← ji] at hx'
   refine Cb (c8 Z) (Cf (aa (aM Z (aG (bp (aJ (aJ (bp ?_))))))))
   exact qu Z hAx hx' ⟨k,hlt,rfl⟩ (SameW.refl _)
 ·obtain rfl:k=c:=by omega
  refine ae (ae (ai (Cc Z (Cb (sF X (dx Z Z)) (Cf (aa (aD Z (a8 (ax ?_)))))))))
  refine ax (aL ?_)
  exact qs Z hA hJ Z hsw
theorem x7 (n:Nat) (hn:n<18446744073709551616):Ok Tryz.prog 151 [jB 166 [bL .one (one (.int .u64 (n:Nat)))]] (one (.int .u64 (bf bg n:Nat))):=by
 refine Ok.enterR Tryz.func151 Z Tryz.ntmps151 Z (fun w O => ?_)
 refine ae (ai ?_)
 refine aN (T:=47) Z (ltN Z) (fun b2 => ?_)
 refine Cf (aa (ae (ae (ai (Cc Z (Cf (aa (aw ?_))))))))
 refine tI (α:=U64) (σ:=Nat) (x6 n hn) (fun v => [aT b2 47 1 [(0, .one,one (.int .u64 (v:Nat)))]]) (fun pre v=>v=0 ∧ ∀ x∈pre,bg x.val=false)
  (fun e pre v=>e=none ∧ ∃ init x,pre=init ++ [x]∧v=x.val∧bg x.val=true ∧ ∀ y∈init,bg y.val=false) 0 Z Z ⟨rfl,fun x h=>by cases h⟩ (SubM.refl _) Z Z (by simp [fO,mg])
  (fun l W pre x v hv hlen => ?_) (fun xs v D hxs hv => ?_) (fun pre v D hpre hv => ?_) (fun id pre v D hpre hv=>absurd hv.1 (by simp))
 ·obtain ⟨rfl,hv⟩:=hv
  have hx:=x.isLt
  unfold vF
  cases hp:bg x.val with
  | true =>
   refine aw (ae (ai (Cc Z ?_)))
   refine Cb (sBt (by assumption) (ao (fo _ (by assumption)) Z ⟨A,Cg⟩)) ?_
   refine Cf (aa (aM Z (ae (ai (Cc Z (az 0 Z Z Z Z Z (leN Z) Z (Cf (aa (aG ?_)))))))))
   refine bp ?_
   exact tJ (x.val:Nat) ⟨rfl,pre,x,rfl,rfl,hp,hv⟩ (SubM.refl _)
  | false =>
   refine aw (ae (ai (Cc Z ?_)))
   refine Cb (sBf (by assumption) (ao (fo _ (by assumption)) Z ⟨A,Cg⟩)) ?_
   refine Cf (aa (aD Z (ay (aK ?_))))
   exact qp 0 ⟨rfl,fun y hy=>by rcases List.mem_append.1 hy with h | h;exact hv y h;rw [List.mem_singleton.1 h]; exact hp⟩ (SubM.refl _)
 ·have hz:bf bg n=0:=by
   have:=no (p:=bg) (c:=min n 2147483648) X (min n 2147483648) (Nat.le_refl _) (fun y hy=>hv.2 y (hxs▸hy))
   rw [Nat.sub_self] at this
   exact this
  refine aK (aa (ae (ai (az 1 Z Z Z Z Z (leN Z) Z (Cf (aa (aG ?_)))))))
  rw [hz]
  refine l7 ?_
  refine aV Tryz.results151 (.cellB 0 Z Z Z A)
 ·obtain ⟨k,hk,hpre⟩:=hpre
  obtain ⟨_,init,x,h1,rfl,h3,h4⟩:=hv
  have hz:bf bg n=x.val:=by
   rw [hpre,ji] at h1
   obtain ⟨e1,e2⟩:=List.append_inj' h1 Z
   have e2:(⟨(min n 2147483648 - 1 - k) % 18446744073709551616,Nat.mod_lt _ U⟩:U64)=x:=by simpa using e2
   have hb:=no (p:=bg) (c:=min n 2147483648) X k X (fun y hy=>h4 y (e1▸hy))
   have e3:x.val=min n 2147483648 - 1 - k:=by rw [← e2]; show (min n 2147483648 - 1 - k) % 18446744073709551616=_;omega
   show iK bg (min n 2147483648)=_
   rw [hb,show min n 2147483648 - k=(min n 2147483648 - 1 - k)+1 by omega,iK,if_pos (by rw [← e3]; exact h3),e3]
  refine bp (aJ ?_)
  rw [hz]
  refine l7 ?_
  refine aV Tryz.results151 (.cellB 0 Z Z Z A)
theorem rv (n:Nat) (hn:n<18446744073709551616):Ok Tryz.prog 152 [one (.int .u64 (n:Nat))] (jB 166 [bL .one (one (.int .u64 (n:Nat)))]):=by
 refine Ok.enter Tryz.func152 Z Tryz.ntmps152 Z (fun w O => ?_)
 refine ae (ai ?_)
 refine jH Z Z (ltN Z) (fun b1 => ?_)
 refine Cd Z (Cf (aa (ae (ai (Cb (jN Z) (Cd Z (Cf (aa (aG ?_)))))))))
 refine fW [aT b1 47 1 [(0, .one,one (.int .u64 (n:Nat)))]] (Kp := []) (Kp' := []) (List.Perm.refl _) (EntM.refl []) (uE.set (t:=2) Z (Ent.clo1 (Ent.ptr List.mem_cons_self List.mem_cons_self))) ?_
 refine aV Tryz.results152 (.tmp Z A)
theorem ow (n:Nat) (hn:n<18446744073709551616):Ok Tryz.prog 135 [one (.int .u64 (n:Nat))] (one (.int .u64 (bf bg n:Nat))):=by
 refine Ok.enter Tryz.func135 Z Tryz.ntmps135 Z (fun w O => ?_)
 have h1:=rv n hn
 have h2:=x7 n hn
 refine ae (ai (Cd Z (Cf (aa (ae (ai (Cc Z ?_)))))))
 refine Cb (ao (h1) Z ⟨A,Cg⟩) ?_
 refine Cb (ao (h2) Z ⟨A,Cg⟩) ?_
 refine Cd Z (Cf (aa (aG ?_)))
 refine aV Tryz.results135 (.tmp Z A)
end Tor
end
section
namespace Tor
open Go Go.RowKit Go.Proofs
variable [Tor.Co.Kc]
def pk (p:Nat→Bool) (n:Nat):Nat→Nat
 | 0 => bf p n
 | k + 1 => bf p (pk p n k)
def toU (x:Nat):U64:=⟨x % 18446744073709551616,Nat.mod_lt _ U⟩
def blL (p:Nat→Bool) (n k:Nat):List U64:=(List.range k).map fun i=>toU (pk p n i)
theorem rx {p:Nat→Bool} {n k:Nat} : blL p n (k+1)=blL p n k ++ [toU (pk p n k)]:=by simp [blL,List.range_succ]
theorem zK {p:Nat→Bool} {n k:Nat} : (blL p n k).length=k:=by simp [blL]
theorem Ai {p:Nat→Bool} {n:Nat} : ∀ k,pk p n k<2147483648
 | 0 => pI
 | k + 1 => pI
theorem ul {p:Nat→Bool} {n k:Nat} : (blL p n k).map (·.val)=(List.range k).map (pk p n):=by
 unfold blL
 rw [List.map_map]
 refine List.map_congr_left fun i _ => ?_
 have:=Ai (p:=p) (n:=n) i
 show pk p n i % 18446744073709551616=_
 omega
theorem pJ {p:Nat→Bool} {n:Nat} : ∀ k,(∀ i,i<k→pk p n i≠0)→pk p n k+k≤bf p n
 | 0, _ => Nat.le_refl _
 | k + 1, h => by
  have h1:=pJ k (fun i hi=>h i X)
  have h2:=h k X
  have h3:=Ah (p:=p) (n:=pk p n k) X
  show bf p (pk p n k)+(k+1)≤_
  omega
theorem ry {b:Nat} {T:TypeId} {φ:VT} {sv:Option Nat} {l l' cap:Nat} (h:l+1=l'):Own.le (aT b T 1 (kf [(0, .one, φ)] 0 (one (slV sv (l+1) cap)))) (aT b T 1 [(0, .one,one (slV sv l' cap))]):=by
 subst h;exact Own.le_refl _
attribute [local irreducible] J PJ aC one slT bL bE bw exT cj eP aT aH slV VT.le Ret bQ dz ed
theorem vG (n:Nat) (hn:n<18446744073709551616):OkY Tryz.prog 134 [bL .one (one (.int .u64 (n:Nat)))] vF (fun xs => ∃ k,xs=blL bg n k∧pk bg n k=0 ∧ ∀ i,i<k→pk bg n i≠0)
  (fun pre => ∃ k,pre=blL bg n (k+1) ∧ ∀ i,i<k+1→pk bg n i≠0) 2147483648:=by
 refine OkY.enter Tryz.func134 Z Tryz.ntmps134 Z (fun w0 l J Jx B hA hAx hY h0 => ?_)
 have hb0:=ow n hn
 refine ae (ai (Cb (aY Z) ?_))
 refine Cb (ao (hb0) Z ⟨A,Cg⟩) ?_
 refine Cd Z (Cf (aa (aw ?_)))
 refine Ad [(0,one (.func (.yield l) #[] #[])),(3,one (.int .u64 (pk bg n 0:Nat)))] (.cons Z A (.cons Z A .nil)) (.cons (.cons .nil)) (fun w1 hw1 => ?_)
 refine c6 (σ:=Nat × World) (fun s => [(0,one (.func (.yield l) #[] #[])),(3,one (.int .u64 (pk bg n s.1:Nat)))]) (fun s => [yO s.2]) (fun s=>(∀ i,i<s.1→pk bg n i≠0)∧SameW w1 s.2∧J (blL bg n s.1) s.2) (fun s=>pk bg n s.1) (0,w1)
  ⟨fun i hi=>absurd hi (Nat.not_lt_zero _),SameW.refl _,qr hA h0 hw1⟩ (dO.refl _) (SubM.refl _) (fun s hs => ?_)
 obtain ⟨k,W⟩:=s
 obtain ⟨hk,hsw,hJ⟩:=hs
 dsimp only at hk hsw hJ ⊢
 have hlt:=Ai (p:=bg) (n:=n) k
 have hdec:=pJ (p:=bg) (n:=n) k hk
 have hlt0:=pI (p:=bg) (n:=n)
 by_cases hz:pk bg n k=0
 ·refine ae (ae (ai (Cc Z (Cb (sF X (dx Z Z)) (Cf (aa (aD Z (a8 (ax ?_)))))))))
  refine ax (aL ?_)
  exact qs Z hA hJ ⟨k,rfl,hz,hk⟩ hsw
 ·have hk' : ∀ i,i<k+1→pk bg n i≠0:=fun i hi=>by
   by_cases e:i=k
   ·exact e▸hz
   ·exact hk i X
  have hv:one (.int .u64 ((pk bg n k:Nat):Int))=one (vF (toU (pk bg n k))):=by
   show _=one (.int .u64 ((pk bg n k % 18446744073709551616:Nat):Int))
   rw [Nat.mod_eq_of_lt X]
  refine ae (ae (ai ?_))
  refine Cc Z (Cb (sT X (dx Z Z)) (Cf ?_))
  refine aa (aM Z (ay (aa (ae (aw (ae ?_))))))
  refine wD (m:=2) (toU (pk bg n k)) [(0,one (.func (.yield l) #[] #[])),(3,one (.int .u64 (pk bg n k:Nat)))] hY hA hsw hJ (by rw [zK]; omega) Z Z (.cons (.cons .nil)) ?_ (fun W' hJ' hw' => ?_) (fun W' hx' => ?_)
  ·refine Cc Z (Cc Z (Cf ?_))
   exact ⟨rfl,rfl,rfl,congrArg some hv, .cons Z A (.cons Z A .nil)⟩
  ·rw [← rx] at hJ'
   have hb1:=ow (pk bg n k) X
   refine Cb (c8 Z) (Cf (aa (aD Z (ay (aK (aa (ai (Cc Z ?_))))))))
   refine Cb (ao (hb1) Z ⟨A,Cg⟩) ?_
   refine Cd Z (Cf ?_)
   refine aX (k+1,W') ?_ ?_ ?_ (SubM.refl _)
   ·exact ⟨hk',hw',hJ'⟩
   ·exact Ah X
   ·exact .cons Z A (.cons Z A .nil)
  ·rw [← rx] at hx'
   refine Cb (c8 Z) (Cf (aa (aM Z (aG (bp (aJ (aJ (bp ?_))))))))
   exact qu Z hAx hx' ⟨k,rfl,hk'⟩ (SameW.refl _)
theorem x8 (n:Nat) (hn:n<18446744073709551616):Ok Tryz.prog 92 [one (.int .u64 (n:Nat))] (jB 134 [bL .one (one (.int .u64 (n:Nat)))]):=by
 refine Ok.enter Tryz.func92 Z Tryz.ntmps92 Z (fun w O => ?_)
 refine ae (ai ?_)
 refine jH Z Z (ltN Z) (fun b1 => ?_)
 refine Cd Z (Cf (aa (ae (ai (Cb (jN Z) (Cd Z (Cf (aa (aG ?_)))))))))
 refine fW [aT b1 47 1 [(0, .one,one (.int .u64 (n:Nat)))]] (Kp := []) (Kp' := []) (List.Perm.refl _) (EntM.refl []) (uE.set (t:=2) Z (Ent.clo1 (Ent.ptr List.mem_cons_self List.mem_cons_self))) ?_
 refine aV Tryz.results92 (.tmp Z A)
end Tor
end
section
namespace Tor
open Go Go.RowKit Go.Proofs
variable [Tor.Co.Kc]
def dR (l:List Nat):Nat:=l.foldl (· * ·) 1
theorem np (l:List Nat) (x:Nat):dR (l ++ [x])=dR l*x:=by simp [dR,List.foldl_append]
def pkB (p:Nat→Bool) (n:Nat):Nat→Nat
 | 0 => n
 | k + 1 => pk p n k
theorem x9 {p:Nat→Bool} {n:Nat} : ∀ k,bf p (pkB p n k)=pk p n k
 | 0 => rfl
 | k + 1 => rfl
theorem sU {p:Nat→Bool} {n:Nat} {B:Int} : ∀ k f,(∀ i,i<k→pk p n i≠0)→(∀ i,i<k → ¬ B<(dR ((List.range i).map (pk p n)):Int)) →
  ndL p B (k+f) 1 n=(ndL p B f (dR ((List.range k).map (pk p n))) (pkB p n k)).map ((List.range k).map (pk p n) ++ ·)
 | 0, f, _, _ => by simp [pkB, dR]
 | k + 1, f, h, h' => by
  rw [show k+1+f=k+(f+1) by omega,sU k (f+1) (fun i hi=>h i X) (fun i hi=>h' i X),ndL,if_neg (h' k X),x9,if_neg (h k X),List.range_succ,List.map_append, ← np]
  show Option.map _ (Option.map _ (ndL p B f _ (pk p n k)))=Option.map _ (ndL p B f _ (pk p n k))
  rw [Option.map_map]
  congr 1
  funext r
  simp
theorem rz {p:Nat→Bool} {n k i:Nat} (h:i≤k):((List.range k).map (pk p n)).take i=(List.range i).map (pk p n):=by
 rw [← List.map_take,List.take_range,Nat.min_eq_left h]
theorem zL {b:Nat} {T:TypeId} : Own.le (aT b T 1 [(0, .one,one (.slice none 0 0))]) (aT b T 1 [(0, .one,one (slV none 0 0))]):=Own.le_refl _
attribute [local irreducible] J PJ aC one slT bL bE bw exT cj eP aT aH slV VT.le Ret bQ dz ed
attribute [local irreducible] aU
theorem vH (n:Nat) (b:Int) (hn:n<18446744073709551616) (hb:gS b) (R:Option (List Nat)) (hR:ndL bg (b+b) (min n 2147483648+2) 1 n=R):Ok Tryz.prog 63 [aU b,one (.int .u64 (n:Nat))] (rp (R.getD [])):=by
 have hbl:=x8 n hn
 have h1:=iH 1 U U
 have had:=fZ b b (cM hb) (cM hb)
 have hbb:(b+b).natAbs≤2^401:=Nat.le_trans (Int.natAbs_add_le b b) (Nat.le_trans (Nat.add_le_add hb hb) V)
 have hbs:cf (b+b):=gz hbb V
 have hen:=ov [] b (fun q=>by simp) (by simp) hb
 refine Ok.enterR Tryz.func63 Z Tryz.ntmps63 Z (fun w O => ?_)
 have e1:(jF [] ([]:List Nat).length:Int)=1:=rfl
 rw [e1] at hen
 by_cases h0:b+b<1
 ·rw [decide_eq_true h0] at hen
  refine ae (ai ?_)
  refine jH Z Z (ltN Z) (fun b2 => ?_)
  refine aN (T:=58) Z (ltN Z) (fun b4 => ?_)
  refine Cf (aa (ae (ae (ai (Cb (am 1 Z Z Z) ?_)))))
  refine Cb (ao (hen) Z ⟨(mc),A,Cg⟩) ?_
  refine Cf (aa (aM Z (ae (ai (az 0 Z Z Z Z Z (leN Z) Z (Cf (aa (aG (aJ ?_)))))))))
  have hR0:R=some []:=by rw [← hR]; show (if _ then _ else _)=_;rw [if_pos (by simpa using h0)]
  subst hR0
  refine uO ?_
  refine aV Tryz.results63 (.cellB 0 Z Z Z (mc))
 ·rw [decide_eq_false h0] at hen
  refine ae (ai ?_)
  refine jH Z Z (ltN Z) (fun b2 => ?_)
  refine aN (T:=58) Z (ltN Z) (fun b4 => ?_)
  refine Cf (aa (ae (ae (ai (Cb (am 1 Z Z Z) ?_)))))
  refine Cb (ao (hen) Z ⟨(mc),A,Cg⟩) ?_
  refine Cf (aa (aD Z (ay (aa (ae (ai ?_))))))
  refine aN (T:=58) Z (ltN Z) (fun b5 => ?_)
  refine Cf (aa (ae ?_))
  refine fX bH Y Y ?_
  refine uxk (h1) Z ⟨A,Cg⟩ Z ?_
  refine ux (fun B=>am 2 Z Z Z) Z Z ?_
  refine ux (fun B=>am 2 Z Z Z) Z Z ?_
  refine uxk (had) Z ⟨A,A,Cg⟩ Z ?_
  refine ua Z (ua Z (us Z (us Z ?_)))
  refine RunU.nil (fun γ => ?_)
  refine er (M' := [_,_,_,_,_]) Z (aa (ae (ae (ai (Cc Z ?_)))))
  refine Cb (ao (hbl) Z ⟨A,Cg⟩) ?_
  refine Cf (aa (aw ?_))
  refine iW (ConvM.nilSl0 (T:=47) (L := .one) (φ:=fun _=>bQ) _) ?_
  refine tI (α:=U64) (σ:=Option Nat × Nat × List Nat × Value) (vG n hn) (fun s => [aH s.1 47 .one s.2.1 s.2.2.1.length (fun q=>one (.int .u64 (s.2.2.1.getD q 0:Nat))),aT (γ 7) 28 2 [(0, .agg 2,aU (b+b))],
    aT (γ 6) 28 2 [(0, .agg 2,aU (dR s.2.2.1:Int))],aT b5 58 1 [(0, .one,one (slV s.1 s.2.2.1.length s.2.1))],aT b4 58 1 [(0, .one,one s.2.2.2)]])
   (fun pre s=>s.2.2.1=pre.map (·.val)∧s.2.2.2 = .slice none 0 0 ∧ ∀ i,i≤s.2.2.1.length → ¬ b+b<(dR (s.2.2.1.take i):Int))
   (fun e pre s=>e=none∧s.2.2.1=pre.map (·.val)∧s.2.2.2=slV s.1 s.2.2.1.length s.2.1∧b+b<(dR s.2.2.1:Int) ∧ ∀ i,i<s.2.2.1.length → ¬ b+b<(dR (s.2.2.1.take i):Int)) (none,0, [], .slice none 0 0) Z Z
   ⟨rfl,rfl,fun i _=>by simpa [dR] using h0⟩
   (.keep (bV (fun q hq=>absurd hq (Nat.not_lt_zero _))) (.keep Ca (.keep Ca (.keep zL (.keep Ca (.drop .nil)))))) Z Z (by simp [fO,mg])
   (fun l W pre x s hs hlen => ?_) (fun xs s D hxs hs => ?_) (fun pre s D hpre hs => ?_) (fun id pre s D hpre hs=>absurd hs.1 (by simp))
  ·obtain ⟨sv,cap,m,v⟩:=s
   obtain ⟨hm,hv,hl⟩:=hs
   dsimp only at hm hv hl ⊢
   subst hv
   have hx:=x.isLt
   have hml:m.length=pre.length:=by rw [hm]; simp
   have hlt:=hl m.length (Nat.le_refl _)
   rw [List.take_length] at hlt
   have hp1:dR m≤2^401:=by omega
   have hsm:cf (dR m:Int):=gz (n:=2^401) (by rw [Int.natAbs_natCast]; exact hp1) V
   have hw:=rq x.val hx
   have hmu:=f7 (dR m:Int) (x.val:Int) hsm (gi hx)
   have hcm:=jt ((dR m:Int)*(x.val:Int)) (b+b)
   have hgt:=gtc (x:=(dR m:Int)*(x.val:Int)) (y:=b+b)
   have hpr:((dR (m ++ [x.val]):Nat):Int)=(dR m:Int)*(x.val:Int):=by rw [np]; exact Int.natCast_mul _ _
   have hend:(m ++ [x.val])=(pre ++ [x]).map (·.val):=by rw [hm]; simp
   have hnx : ∀ i,i<(m ++ [x.val]).length → ¬ b+b<(dR ((m ++ [x.val]).take i):Int):=fun i hi=>by
    have hi:i≤m.length:=by simp at hi;omega
    rw [List.take_append_of_le_length hi]; exact hl i hi
   unfold vF
   by_cases he:b+b<(dR m:Int)*(x.val:Int)
   ·have hcc:=hgt.2 he
    generalize c4 ((dR m:Int)*(x.val:Int)) (b+b)=cc at *
    refine aw (ae (ai (Cb (am 3 Z Z Z) (Cc Z (my Z Z Z Z ?_)))))
    (refine dB 0 Z Z Z (leN Z) ?_ ?_ Z (ltN Z) (fun sv21 cap21 => ?_);omega;omega)
    refine az 3 Z Z Z Z Z (leN Z) Z (Cf (aa (ae (bG 4 bH Y U (Cb (am 2 Z Z Z) (Cc Z ?_))))))
    refine Cb (ao (hw) Z ⟨A,Cg⟩) ?_
    refine Cb (ao (hmu) Z ⟨A,A,Cg⟩) ?_
    refine Cf (az 2 Z Z Z Z Z (leN Z) Z (Cf (aa (ae (ai (Cb (am 2 Z Z Z) (Cb (am 1 Z Z Z) ?_)))))))
    refine Cb (ao (hcm) Z ⟨A,A,Cg⟩) ?_
    refine Cb (sT (by assumption) (dx Z Z)) (Cf (aa (aM Z (ae (ai (Cb (am 3 Z Z Z) (az 4 Z Z Z Z Z (leN Z) Z (Cf (aa ?_)))))))))
    refine aG (bp ?_)
    exact tJ (sv21,cap21,m ++ [x.val],slV sv21 (m.length+1) cap21) ⟨rfl,hend,by simp,by rw [hpr]; exact he,hnx⟩
     (.keep ru (.keep Ca (.keep (hpr▸Own.le_refl _) (.keep (ry (by simp)) (.keep Ca .nil)))))
   ·have hcc : ¬ 0<c4 ((dR m:Int)*(x.val:Int)) (b+b):=fun h=>he (hgt.1 h)
    generalize c4 ((dR m:Int)*(x.val:Int)) (b+b)=cc at *
    refine aw (ae (ai (Cb (am 3 Z Z Z) (Cc Z (my Z Z Z Z ?_)))))
    (refine dB 0 Z Z Z (leN Z) ?_ ?_ Z (ltN Z) (fun sv21 cap21 => ?_);omega;omega)
    refine az 3 Z Z Z Z Z (leN Z) Z (Cf (aa (ae (bG 4 bH Y U (Cb (am 2 Z Z Z) (Cc Z ?_))))))
    refine Cb (ao (hw) Z ⟨A,Cg⟩) ?_
    refine Cb (ao (hmu) Z ⟨A,A,Cg⟩) ?_
    refine Cf (az 2 Z Z Z Z Z (leN Z) Z (Cf (aa (ae (ai (Cb (am 2 Z Z Z) (Cb (am 1 Z Z Z) ?_)))))))
    refine Cb (ao (hcm) Z ⟨A,A,Cg⟩) ?_
    refine Cb (sF (by assumption) (dx Z Z)) (Cf (aa (aD Z (ay (aK ?_)))))
    exact qp (sv21,cap21,m ++ [x.val], .slice none 0 0) ⟨hend,rfl,fun i hi=>by
      by_cases e:i=(m ++ [x.val]).length
      ·rw [e,List.take_length,hpr]; exact he
      ·exact hnx i (Nat.lt_of_le_of_ne hi e)⟩
     (.keep ru (.keep Ca (.keep (hpr▸Own.le_refl _) (.keep (ry (by simp)) (.keep Ca .nil)))))
  ·obtain ⟨sv,cap,m,v⟩:=s
   obtain ⟨hm,hv,hl⟩:=hs
   obtain ⟨j,hj,hz,hnz⟩:=hxs
   dsimp only at hm hv hl ⊢
   subst hv
   have hm':m=(List.range j).map (pk bg n):=by rw [hm,hj,ul]
   have hml:m.length=j:=by rw [hm']; simp
   have hR0:R=none:=by
    have hd:=pJ (p:=bg) (n:=n) j hnz
    have hle:=kN bg (min n 2147483648)
    have hle:bf bg n≤min n 2147483648 - 1:=hle
    obtain ⟨f,hf⟩ : ∃ f,min n 2147483648+2=j+(f+1):=⟨min n 2147483648+1 - j,by omega⟩
    have hst : ∀ i,i≤j → ¬ b+b<(dR ((List.range i).map (pk bg n)):Int):=fun i hi=>by
     have:=hl i X
     rwa [hm',rz hi] at this
    rw [← hR,hf,sU j (f+1) hnz (fun i hi=>hst i X),ndL,if_neg (hst j (Nat.le_refl _)),x9,if_pos hz]
    rfl
   subst hR0
   refine aK (aa (ae (ai (az 5 Z Z Z Z Z (leN Z) Z (Cf (aa (aG (l7 ?_))))))))
   refine aV Tryz.results63 (.cellB 4 Z Z Z (mc))
  ·obtain ⟨sv,cap,m,v⟩:=s
   obtain ⟨_,hm,hv,hgt,hl⟩:=hs
   obtain ⟨j,hj,hnz⟩:=hpre
   dsimp only at hm hv hl hgt ⊢
   subst hv
   have hm':m=(List.range (j+1)).map (pk bg n):=by rw [hm,hj,ul]
   have hml:m.length=j+1:=by rw [hm']; simp
   have hR0:R=some m:=by
    have hd:=pJ (p:=bg) (n:=n) j (fun i hi=>hnz i X)
    have hle:=kN bg (min n 2147483648)
    have hle:bf bg n≤min n 2147483648 - 1:=hle
    obtain ⟨f,hf⟩ : ∃ f,min n 2147483648+2=j+1+(f+1):=⟨min n 2147483648 - j,by omega⟩
    have hst : ∀ i,i<j+1 → ¬ b+b<(dR ((List.range i).map (pk bg n)):Int):=fun i hi=>by
     have:=hl i X
     rwa [hm',rz X] at this
    rw [← hR,hf,sU (j+1) (f+1) hnz hst,ndL,if_pos (by rw [← hm']; exact hgt), ← hm']
    simp
   have hres:m=R.getD []:=by rw [hR0]; rfl
   refine bp (aJ (l7 ?_))
   refine fW [aH sv 47 .one cap m.length (fun q=>one (.int .u64 (m.getD q 0:Nat)))] (List.Perm.refl _) (.keep (p8.refl _) (.keep (p8.refl _) (.keep (p8.refl _) (.keep (p8.box (oL.cons List.mem_cons_self (Ent.sl List.mem_cons_self) .nil)) .nil)))) (uE.refl _) ?_
   refine aV Tryz.results63 (.cellB 3 Z Z Z (zI hres))
end Tor
end
section
namespace Tor
open Go Go.RowKit Go.Proofs
variable [Tor.Co.Kc]
theorem ya {sv:Option Nat} {T:TypeId} {cap n j:Nat} {g:Nat→Int} : Own.le (aH sv T (.agg 2) cap n (upd (upd (fun q=>aU (g q)) (j+1) (aU (g j))) j (aU (g (j+1))))) (aH sv T (.agg 2) cap n (fun q=>aU (jd j g q))):=bV fun q _=>by
 unfold upd jd
 by_cases h:q=j
 ·rw [if_pos h,if_pos h]
 ·rw [if_neg h,if_neg h]
  by_cases h2:q=j+1
  ·rw [if_pos h2,if_pos h2]
  ·rw [if_neg h2,if_neg h2]
def InL (n:Nat) (g h:Nat→Int):Prop := ∀ q,q<n → ∃ i,i<n∧h q=g i
theorem InL.sort {n i:Nat} {g:Nat→Int} (hi:i≤n):InL n g (eu i g):=fun q hq=>by
 have h1:eu i g q∈lst n (eu i g):=by unfold lst;exact List.mem_map.2 ⟨q,List.mem_range.2 hq,rfl⟩
 have h2:=(iA g hi).mem_iff.1 h1
 unfold lst at h2
 obtain ⟨k,hk,e⟩:=List.mem_map.1 h2
 exact ⟨k,List.mem_range.1 hk,e.symm⟩
theorem InL.swp {n j:Nat} {g h:Nat→Int} (H:InL n g h) (hj:j+1<n):InL n g (jd j h):=fun q hq=>by
 unfold jd
 split
 ·exact H _ hj
 ·split
  ·exact H _ X
  ·exact H q hq
attribute [local irreducible] J PJ aC one slT bL bE bw exT cj eP aT aH slV VT.le Ret bQ dz ed
attribute [local irreducible] aU
theorem pK (sv:Option Nat) (cap n:Nat) (g:Nat→Int) (cl:VT) (hn:n≤1048576) (hC : ∀ x y,(∃ i,i<n∧x=g i)→(∃ i,i<n∧y=g i)→fE Tryz.prog cl [aU x,aU y] (one (.int .i64 (c4 y x)))) :
  OkI Tryz.prog 156 [one (slV sv n cap),one (.int .i64 0),one (.int .i64 (n:Nat)),cl] [aH sv 28 (.agg 2) cap n (fun q=>aU (g q))]
   (fun _:Unit=>bw []) (fun _ => [aH sv 28 (.agg 2) cap n (fun q=>aU (eu n g q))]):=by
 refine OkI.enter Tryz.func156 Z Tryz.ntmps156 Z (fun w O => ?_)
 refine kb (i:=0) (F:=sv=none→n=0) Z (fun g h hp he=>lF hp he) (fun hsv => ?_)
 refine ae (ai (Cc Z (Cb (cz Z Z (aR X X)) (Cd Z (Cf (aa (aw (cv (Γ' := [(0,_),(1,_),(2,_),(3,_),(8,_)]) BW (SubM.refl _) ?_))))))))
 refine bO (σ:=Nat) (Γk := [(0,_),(1,_),(2,_),(3,_)]) BW (fun t => [(8,one (.int .i64 ((t+1:Nat):Int)))]) (fun t M0=>(M0.set 0 (aH sv 28 (.agg 2) cap n (fun q=>aU (eu (t+1) g q))))) (fun t=>t+1≤n∨t=0) (fun t=>n - t) (0) (.inr Z) BX (.keep Ca (.nil)) (fun t ht => ?_)
 refine cg (Γ' := [(8,_),(0,_),(1,_),(2,_),(3,_)]) (M' := [_]) Z Z ?_
 by_cases hlt:t+1<n
 ·obtain ⟨bs,rfl⟩:=fA hsv X
  refine ae (ae (ai (Cc Z (Cc Z (Cb (sT X (bD Z Z)) (Cf (aa (aM Z (ay ?_)))))))))
  refine aa (ae (aw (ae (ai (Cc Z (Cd Z (Cf (aa (aw ?_)))))))))
  refine cv (Γ' := [(0,_),(1,_),(2,_),(3,_),(8,_),(9,_)]) BW (SubM.refl _) ?_
  refine bO (σ:=Nat × (Nat→Int)) (Γk := [(0,_),(1,_),(2,_),(3,_),(8,_)]) BW (fun s => [(9,one (.int .i64 (s.1:Nat)))]) (fun s M0=>(M0.set 0 (aH (some bs) 28 (.agg 2) cap n (fun q=>aU (s.2 q))))) (fun s=>s.1≤t+1∧InL n g s.2∧vp s.1 s.2=eu (t+2) g) (fun s=>s.1) ((t+1,eu (t+1) g)) (⟨Nat.le_refl _,InL.sort X,rfl⟩) BX (.keep Ca (.nil)) (fun s hs => ?_)
  refine cg (Γ' := [(9,_),(0,_),(1,_),(2,_),(3,_),(8,_)]) (M' := [_]) Z Z ?_
  obtain ⟨j,h⟩:=s
  obtain ⟨hj,hin,hI⟩:=hs
  dsimp only at hj hin hI ⊢
  cases j with
  | zero =>
   have hI:h=eu (t+2) g:=hI
   subst hI
   refine ae (ae (bG 17 bH Y U (Cc Z (Cc Z (Cb (sF X (dx Z Z)) (Cc Z (sn0 Z Z Z Z Z (sn0 Z Z Z Z Z (sn0 Z Z Z Z Z ?_)))))))))
   refine sn0 Z Z Z Z Z (sn0 Z Z Z Z Z (sn0 Z Z Z Z Z (sn0 Z Z Z Z Z (sn0 Z Z Z Z Z (sn0 Z Z Z Z Z (sn0 Z Z Z Z Z (sn0 Z Z Z Z Z (sn0 Z Z Z Z Z (Cb (bT Z Z) ?_)))))))))
   refine Cf (Cf (aa (aD Z (a8 (ax (ax (aL (aK (aa ?_)))))))))
   refine ai (Cc Z (Cb (bU _ 1 Z Z X) (Cd Z (Cf ?_))))
   refine aX (t+1) X X BX (.keep Ca (.nil))
  | succ j =>
   have hx:=hin (j+1) X
   have hy:=hin j X
   have hcl:=hC (h (j+1)) (h j) hx hy
   have hI:(if h j<h (j+1) then vp j (jd j h) else h)=eu (t+2) g:=hI
   by_cases hlt2:h j<h (j+1)
   ·rw [if_pos hlt2] at hI
    have hcc:c4 (h j) (h (j+1))<0:=by unfold c4;split <;> (try split) <;> omega
    generalize c4 (h j) (h (j+1))=cc at *
    refine ae (ae (bG 17 bH Y U (Cc Z (Cc Z (Cb (sT X (dx Z Z)) (Cc Z (Ce (ab Z) (Ce (ab Z) (Ce (ab Z) ?_)))))))))
    refine Ce (ar Z Z X) (Ce (bM 0 Z Z X) (Ce (ab Z) (Ce (ab Z) (Ce (cm _ 1 Z Z X X) (Ce (ar Z Z X) (Ce (bM 0 Z Z X) ?_))))))
    refine Ce (lZ hcl Z Z ⟨A,A,Cg⟩) ?_
    refine Ce (sT (by assumption) (bD Z Z)) (Cb (bh Z Z) (Cf (Cf (aa (aM Z (ay (aa (ae (aw ?_)))))))))
    apply r8 (Γ1 := [(9,_),(0,_),(1,_),(2,_),(3,_),(8,_)]) (M1 := [_]) 15 6 [2,3,4] [] bH Y U
    ·refine Cc Z (Cc Z (Cc Z (Cc Z (Cb (cm _ 1 Z Z X X) (Cc Z (Cc Z (Cb (cm _ 1 Z Z X X) (Cb (ar Z Z X) (Cb (bM 0 Z Z X) ?_)))))))))
     refine Cc Z (Cc Z (Cb (ar Z Z X) (Cb (bM 0 Z Z X) (Cb (ar Z Z X) (Cf ?_)))))
     refine wA (Γa := [(9,_),(0,_),(1,_),(2,_),(3,_),(8,_),(51,_),(46,_),(50,_)]) (Γb := [(9,_),(0,_),(1,_),(2,_),(3,_),(8,_),(51,_),(46,_),(50,_),(41,_)]) (Γc := [(9,_),(0,_),(1,_),(2,_),(3,_),(8,_),(51,_),(46,_),(50,_),(40,_)]) (Γd := [(9,_),(0,_),(1,_),(2,_),(3,_),(8,_),(51,_),(46,_),(50,_),(40,_),(41,_)]) (Γe := [(9,_),(0,_),(1,_),(2,_),(3,_),(8,_),(51,_),(46,_),(50,_),(39,_)]) (Γf := [(9,_),(0,_),(1,_),(2,_),(3,_),(8,_),(51,_),(46,_),(50,_),(39,_),(41,_)]) (Γg := [(9,_),(0,_),(1,_),(2,_),(3,_),(8,_),(51,_),(46,_),(50,_),(39,_),(40,_)]) (Γh := [(9,_),(0,_),(1,_),(2,_),(3,_),(8,_),(51,_),(46,_),(50,_),(39,_),(40,_),(41,_)]) (rem := [15,16,17]) Z BZ Z BZ Z BZ Z BZ Z BZ Z BZ Z BZ Z BZ Z ?_ ?_ ?_ ?_ ?_ ?_ ?_ ?_
     ·refine dw (r1 := [3,4,15,16,17]) (r2 := [2,4,15,16,17]) (r3 := [2,3,4,16,17]) (i:=2) (j:=3) (k:=15) Y Z Z Z Z Z Z ?_ ?_ ?_ iZ.nil
      refine Cc Z (Cf ?_)
      refine ⟨rfl,?_⟩
      refine bm (rem' := [4,15,16,17]) (rem'' := [3,4,16,17]) (i:=3) (j:=15) Y Z Z Z Z ?_ ?_ iZ.nil
      refine Cc Z (Cf ?_)
      refine ⟨rfl,?_⟩
      refine bm (rem' := [15,16,17]) (rem'' := [4,16,17]) (i:=4) (j:=15) Y Z Z Z Z ?_ ?_ iZ.nil
      refine Cb (cm _ 1 Z Z X X) (Cf ?_)
      refine ⟨rfl,?_⟩
      refine ak (rem' := [16,17]) (i:=15) Y Z Z ?_ iZ.nil
      (refine au 0 Z Z Z ?_ Z ?_;omega)
      refine Cf ?_
      refine ⟨rfl,?_⟩
      refine ak (rem' := [17]) (i:=16) Y Z Z ?_ iZ.nil
      refine Cb (ar Z Z X) (Cf ?_)
      refine ⟨rfl,?_⟩
      refine ak (rem' := []) (i:=17) Y Z Z ?_ iZ.nil
      (refine au 0 Z Z Z ?_ Z ?_;omega)
      refine Cf ?_
      refine ⟨rfl,?_⟩
      refine aE BZ (SubM.refl _) iZ.nil
      (refine au 0 Z Z Z ?_ Z ?_;omega)
      refine Cf ?_
      refine ⟨rfl,?_⟩
      refine ak (rem' := [16,17]) (i:=4) Y Z Z ?_ iZ.nil
      refine Cb (cm _ 1 Z Z X X) (Cf ?_)
      refine ⟨rfl,?_⟩
      refine ak (rem' := [17]) (i:=16) Y Z Z ?_ iZ.nil
      refine Cb (ar Z Z X) (Cf ?_)
      refine ⟨rfl,?_⟩
      refine ak (rem' := []) (i:=17) Y Z Z ?_ iZ.nil
      (refine au 0 Z Z Z ?_ Z ?_;omega)
      refine Cf ?_
      refine ⟨rfl,?_⟩
      refine aE BZ (SubM.refl _) iZ.nil
      (refine au 0 Z Z Z ?_ Z ?_;omega)
      refine Cf ?_
      refine ⟨rfl,?_⟩
      refine ak (rem' := [4,16,17]) (i:=3) Y Z Z ?_ iZ.nil
      refine Cc Z (Cf ?_)
      refine ⟨rfl,?_⟩
      refine ak (rem' := [16,17]) (i:=4) Y Z Z ?_ iZ.nil
      refine Cb (cm _ 1 Z Z X X) (Cf ?_)
      refine ⟨rfl,?_⟩
      refine ak (rem' := [17]) (i:=16) Y Z Z ?_ iZ.nil
      refine Cb (ar Z Z X) (Cf ?_)
      refine ⟨rfl,?_⟩
      refine ak (rem' := []) (i:=17) Y Z Z ?_ iZ.nil
      (refine au 0 Z Z Z ?_ Z ?_;omega)
      refine Cf ?_
      refine ⟨rfl,?_⟩
      refine aE BZ (SubM.refl _) iZ.nil
      refine Cc Z (Cf ?_)
      refine ⟨rfl,?_⟩
      refine dw (r1 := [4,15,16,17]) (r2 := [2,15,16,17]) (r3 := [2,4,16,17]) (i:=2) (j:=4) (k:=15) Y Z Z Z Z Z Z ?_ ?_ ?_ iZ.nil
      refine Cc Z (Cf ?_)
      refine ⟨rfl,?_⟩
      refine bm (rem' := [15,16,17]) (rem'' := [4,16,17]) (i:=4) (j:=15) Y Z Z Z Z ?_ ?_ iZ.nil
      refine Cb (cm _ 1 Z Z X X) (Cf ?_)
      refine ⟨rfl,?_⟩
      refine ak (rem' := [16,17]) (i:=15) Y Z Z ?_ iZ.nil
      (refine au 0 Z Z Z ?_ Z ?_;omega)
      refine Cf ?_
      refine ⟨rfl,?_⟩
      refine ak (rem' := [17]) (i:=16) Y Z Z ?_ iZ.nil
      refine Cb (ar Z Z X) (Cf ?_)
      refine ⟨rfl,?_⟩
      refine ak (rem' := []) (i:=17) Y Z Z ?_ iZ.nil
      (refine au 0 Z Z Z ?_ Z ?_;omega)
      refine Cf ?_
      refine ⟨rfl,?_⟩
      refine aE BZ (SubM.refl _) iZ.nil
      (refine au 0 Z Z Z ?_ Z ?_;omega)
      refine Cf ?_
      refine ⟨rfl,?_⟩
      refine ak (rem' := [16,17]) (i:=4) Y Z Z ?_ iZ.nil
      refine Cb (cm _ 1 Z Z X X) (Cf ?_)
      refine ⟨rfl,?_⟩
      refine ak (rem' := [17]) (i:=16) Y Z Z ?_ iZ.nil
      refine Cb (ar Z Z X) (Cf ?_)
      refine ⟨rfl,?_⟩
      refine ak (rem' := []) (i:=17) Y Z Z ?_ iZ.nil
      (refine au 0 Z Z Z ?_ Z ?_;omega)
      refine Cf ?_
      refine ⟨rfl,?_⟩
      refine aE BZ (SubM.refl _) iZ.nil
      refine Cb (cm _ 1 Z Z X X) (Cf ?_)
      refine ⟨rfl,?_⟩
      refine bm (rem' := [15,16,17]) (rem'' := [2,16,17]) (i:=2) (j:=15) Y Z Z Z Z ?_ ?_ iZ.nil
      refine Cc Z (Cf ?_)
      refine ⟨rfl,?_⟩
      refine ak (rem' := [16,17]) (i:=15) Y Z Z ?_ iZ.nil
      (refine au 0 Z Z Z ?_ Z ?_;omega)
      refine Cf ?_
      refine ⟨rfl,?_⟩
      refine ak (rem' := [17]) (i:=16) Y Z Z ?_ iZ.nil
      refine Cb (ar Z Z X) (Cf ?_)
      refine ⟨rfl,?_⟩
      refine ak (rem' := []) (i:=17) Y Z Z ?_ iZ.nil
      (refine au 0 Z Z Z ?_ Z ?_;omega)
      refine Cf ?_
      refine ⟨rfl,?_⟩
      refine aE BZ (SubM.refl _) iZ.nil
      (refine au 0 Z Z Z ?_ Z ?_;omega)
      refine Cf ?_
      refine ⟨rfl,?_⟩
      refine ak (rem' := [16,17]) (i:=2) Y Z Z ?_ iZ.nil
      refine Cc Z (Cf ?_)
      refine ⟨rfl,?_⟩
      refine ak (rem' := [17]) (i:=16) Y Z Z ?_ iZ.nil
      refine Cb (ar Z Z X) (Cf ?_)
      refine ⟨rfl,?_⟩
      refine ak (rem' := []) (i:=17) Y Z Z ?_ iZ.nil
      (refine au 0 Z Z Z ?_ Z ?_;omega)
      refine Cf ?_
      refine ⟨rfl,?_⟩
      refine aE BZ (SubM.refl _) iZ.nil
      (refine au 0 Z Z Z ?_ Z ?_;omega)
      refine Cf ?_
      refine ⟨rfl,?_⟩
      refine bm (rem' := [4,16,17]) (rem'' := [2,16,17]) (i:=2) (j:=4) Y Z Z Z Z ?_ ?_ iZ.nil
      refine Cc Z (Cf ?_)
      refine ⟨rfl,?_⟩
      refine ak (rem' := [16,17]) (i:=4) Y Z Z ?_ iZ.nil
      refine Cb (cm _ 1 Z Z X X) (Cf ?_)
      refine ⟨rfl,?_⟩
      refine ak (rem' := [17]) (i:=16) Y Z Z ?_ iZ.nil
      refine Cb (ar Z Z X) (Cf ?_)
      refine ⟨rfl,?_⟩
      refine ak (rem' := []) (i:=17) Y Z Z ?_ iZ.nil
      (refine au 0 Z Z Z ?_ Z ?_;omega)
      refine Cf ?_
      refine ⟨rfl,?_⟩
      refine aE BZ (SubM.refl _) iZ.nil
      refine Cb (cm _ 1 Z Z X X) (Cf ?_)
      refine ⟨rfl,?_⟩
      refine ak (rem' := [16,17]) (i:=2) Y Z Z ?_ iZ.nil
      refine Cc Z (Cf ?_)
      refine ⟨rfl,?_⟩
      refine ak (rem' := [17]) (i:=16) Y Z Z ?_ iZ.nil
      refine Cb (ar Z Z X) (Cf ?_)
      refine ⟨rfl,?_⟩
      refine ak (rem' := []) (i:=17) Y Z Z ?_ iZ.nil
      (refine au 0 Z Z Z ?_ Z ?_;omega)
      refine Cf ?_
      refine ⟨rfl,?_⟩
      refine aE BZ (SubM.refl _) iZ.nil
      (refine au 0 Z Z Z ?_ Z ?_;omega)
      refine Cf ?_
      refine ⟨rfl,?_⟩
      refine bm (rem' := [3,4,16,17]) (rem'' := [2,4,16,17]) (i:=2) (j:=3) Y Z Z Z Z ?_ ?_ iZ.nil
      refine Cc Z (Cf ?_)
      refine ⟨rfl,?_⟩
      refine ak (rem' := [4,16,17]) (i:=3) Y Z Z ?_ iZ.nil
      refine Cc Z (Cf ?_)
      refine ⟨rfl,?_⟩
      refine ak (rem' := [16,17]) (i:=4) Y Z Z ?_ iZ.nil
      refine Cb (cm _ 1 Z Z X X) (Cf ?_)
      refine ⟨rfl,?_⟩
      refine ak (rem' := [17]) (i:=16) Y Z Z ?_ iZ.nil
      refine Cb (ar Z Z X) (Cf ?_)
      refine ⟨rfl,?_⟩
      refine ak (rem' := []) (i:=17) Y Z Z ?_ iZ.nil
      (refine au 0 Z Z Z ?_ Z ?_;omega)
      refine Cf ?_
      refine ⟨rfl,?_⟩
      refine aE BZ (SubM.refl _) iZ.nil
      refine Cc Z (Cf ?_)
      refine ⟨rfl,?_⟩
      refine bm (rem' := [4,16,17]) (rem'' := [2,16,17]) (i:=2) (j:=4) Y Z Z Z Z ?_ ?_ iZ.nil
      refine Cc Z (Cf ?_)
      refine ⟨rfl,?_⟩
      refine ak (rem' := [16,17]) (i:=4) Y Z Z ?_ iZ.nil
      refine Cb (cm _ 1 Z Z X X) (Cf ?_)
      refine ⟨rfl,?_⟩
      refine ak (rem' := [17]) (i:=16) Y Z Z ?_ iZ.nil
      refine Cb (ar Z Z X) (Cf ?_)
      refine ⟨rfl,?_⟩
      refine ak (rem' := []) (i:=17) Y Z Z ?_ iZ.nil
      (refine au 0 Z Z Z ?_ Z ?_;omega)
      refine Cf ?_
      refine ⟨rfl,?_⟩
      refine aE BZ (SubM.refl _) iZ.nil
      refine Cb (cm _ 1 Z Z X X) (Cf ?_)
      refine ⟨rfl,?_⟩
      refine ak (rem' := [16,17]) (i:=2) Y Z Z ?_ iZ.nil
      refine Cc Z (Cf ?_)
      refine ⟨rfl,?_⟩
      refine ak (rem' := [17]) (i:=16) Y Z Z ?_ iZ.nil
      refine Cb (ar Z Z X) (Cf ?_)
      refine ⟨rfl,?_⟩
      refine ak (rem' := []) (i:=17) Y Z Z ?_ iZ.nil
      (refine au 0 Z Z Z ?_ Z ?_;omega)
      refine Cf ?_
      refine ⟨rfl,?_⟩
      refine aE BZ (SubM.refl _) iZ.nil
     ·refine dw (r1 := [3,15,16,17]) (r2 := [2,15,16,17]) (r3 := [2,3,16,17]) (i:=2) (j:=3) (k:=15) Y Z Z Z Z Z Z ?_ ?_ ?_ iZ.nil
      refine Cc Z (Cf ?_)
      refine ⟨rfl,?_⟩
      refine bm (rem' := [15,16,17]) (rem'' := [3,16,17]) (i:=3) (j:=15) Y Z Z Z Z ?_ ?_ iZ.nil
      refine Cc Z (Cf ?_)
      refine ⟨rfl,?_⟩
      refine ak (rem' := [16,17]) (i:=15) Y Z Z ?_ iZ.nil
      (refine au 0 Z Z Z ?_ Z ?_;omega)
      refine Cf ?_
      refine ⟨rfl,?_⟩
      refine ak (rem' := [17]) (i:=16) Y Z Z ?_ iZ.nil
      refine Cb (ar Z Z X) (Cf ?_)
      refine ⟨rfl,?_⟩
      refine ak (rem' := []) (i:=17) Y Z Z ?_ iZ.nil
      (refine au 0 Z Z Z ?_ Z ?_;omega)
      refine Cf ?_
      refine ⟨rfl,?_⟩
      refine aE BZ (SubM.refl _) iZ.nil
      (refine au 0 Z Z Z ?_ Z ?_;omega)
      refine Cf ?_
      refine ⟨rfl,?_⟩
      refine ak (rem' := [16,17]) (i:=3) Y Z Z ?_ iZ.nil
      refine Cc Z (Cf ?_)
      refine ⟨rfl,?_⟩
      refine ak (rem' := [17]) (i:=16) Y Z Z ?_ iZ.nil
      refine Cb (ar Z Z X) (Cf ?_)
      refine ⟨rfl,?_⟩
      refine ak (rem' := []) (i:=17) Y Z Z ?_ iZ.nil
      (refine au 0 Z Z Z ?_ Z ?_;omega)
      refine Cf ?_
      refine ⟨rfl,?_⟩
      refine aE BZ (SubM.refl _) iZ.nil
      refine Cc Z (Cf ?_)
      refine ⟨rfl,?_⟩
      refine bm (rem' := [15,16,17]) (rem'' := [2,16,17]) (i:=2) (j:=15) Y Z Z Z Z ?_ ?_ iZ.nil
      refine Cc Z (Cf ?_)
      refine ⟨rfl,?_⟩
      refine ak (rem' := [16,17]) (i:=15) Y Z Z ?_ iZ.nil
      (refine au 0 Z Z Z ?_ Z ?_;omega)
      refine Cf ?_
      refine ⟨rfl,?_⟩
      refine ak (rem' := [17]) (i:=16) Y Z Z ?_ iZ.nil
      refine Cb (ar Z Z X) (Cf ?_)
      refine ⟨rfl,?_⟩
      refine ak (rem' := []) (i:=17) Y Z Z ?_ iZ.nil
      (refine au 0 Z Z Z ?_ Z ?_;omega)
      refine Cf ?_
      refine ⟨rfl,?_⟩
      refine aE BZ (SubM.refl _) iZ.nil
      (refine au 0 Z Z Z ?_ Z ?_;omega)
      refine Cf ?_
      refine ⟨rfl,?_⟩
      refine ak (rem' := [16,17]) (i:=2) Y Z Z ?_ iZ.nil
      refine Cc Z (Cf ?_)
      refine ⟨rfl,?_⟩
      refine ak (rem' := [17]) (i:=16) Y Z Z ?_ iZ.nil
      refine Cb (ar Z Z X) (Cf ?_)
      refine ⟨rfl,?_⟩
      refine ak (rem' := []) (i:=17) Y Z Z ?_ iZ.nil
      (refine au 0 Z Z Z ?_ Z ?_;omega)
      refine Cf ?_
      refine ⟨rfl,?_⟩
      refine aE BZ (SubM.refl _) iZ.nil
      (refine au 0 Z Z Z ?_ Z ?_;omega)
      refine Cf ?_
      refine ⟨rfl,?_⟩
      refine bm (rem' := [3,16,17]) (rem'' := [2,16,17]) (i:=2) (j:=3) Y Z Z Z Z ?_ ?_ iZ.nil
      refine Cc Z (Cf ?_)
      refine ⟨rfl,?_⟩
      refine ak (rem' := [16,17]) (i:=3) Y Z Z ?_ iZ.nil
      refine Cc Z (Cf ?_)
      refine ⟨rfl,?_⟩
      refine ak (rem' := [17]) (i:=16) Y Z Z ?_ iZ.nil
      refine Cb (ar Z Z X) (Cf ?_)
      refine ⟨rfl,?_⟩
      refine ak (rem' := []) (i:=17) Y Z Z ?_ iZ.nil
      (refine au 0 Z Z Z ?_ Z ?_;omega)
      refine Cf ?_
      refine ⟨rfl,?_⟩
      refine aE BZ (SubM.refl _) iZ.nil
      refine Cc Z (Cf ?_)
      refine ⟨rfl,?_⟩
      refine ak (rem' := [16,17]) (i:=2) Y Z Z ?_ iZ.nil
      refine Cc Z (Cf ?_)
      refine ⟨rfl,?_⟩
      refine ak (rem' := [17]) (i:=16) Y Z Z ?_ iZ.nil
      refine Cb (ar Z Z X) (Cf ?_)
      refine ⟨rfl,?_⟩
      refine ak (rem' := []) (i:=17) Y Z Z ?_ iZ.nil
      (refine au 0 Z Z Z ?_ Z ?_;omega)
      refine Cf ?_
      refine ⟨rfl,?_⟩
      refine aE BZ (SubM.refl _) iZ.nil
     ·refine dw (r1 := [4,15,16,17]) (r2 := [2,15,16,17]) (r3 := [2,4,16,17]) (i:=2) (j:=4) (k:=15) Y Z Z Z Z Z Z ?_ ?_ ?_ iZ.nil
      refine Cc Z (Cf ?_)
      refine ⟨rfl,?_⟩
      refine bm (rem' := [15,16,17]) (rem'' := [4,16,17]) (i:=4) (j:=15) Y Z Z Z Z ?_ ?_ iZ.nil
      refine Cb (cm _ 1 Z Z X X) (Cf ?_)
      refine ⟨rfl,?_⟩
      refine ak (rem' := [16,17]) (i:=15) Y Z Z ?_ iZ.nil
      (refine au 0 Z Z Z ?_ Z ?_;omega)
      refine Cf ?_
      refine ⟨rfl,?_⟩
      refine ak (rem' := [17]) (i:=16) Y Z Z ?_ iZ.nil
      refine Cb (ar Z Z X) (Cf ?_)
      refine ⟨rfl,?_⟩
      refine ak (rem' := []) (i:=17) Y Z Z ?_ iZ.nil
      (refine au 0 Z Z Z ?_ Z ?_;omega)
      refine Cf ?_
      refine ⟨rfl,?_⟩
      refine aE BZ (SubM.refl _) iZ.nil
      (refine au 0 Z Z Z ?_ Z ?_;omega)
      refine Cf ?_
      refine ⟨rfl,?_⟩
      refine ak (rem' := [16,17]) (i:=4) Y Z Z ?_ iZ.nil
      refine Cb (cm _ 1 Z Z X X) (Cf ?_)
      refine ⟨rfl,?_⟩
      refine ak (rem' := [17]) (i:=16) Y Z Z ?_ iZ.nil
      refine Cb (ar Z Z X) (Cf ?_)
      refine ⟨rfl,?_⟩
      refine ak (rem' := []) (i:=17) Y Z Z ?_ iZ.nil
      (refine au 0 Z Z Z ?_ Z ?_;omega)
      refine Cf ?_
      refine ⟨rfl,?_⟩
      refine aE BZ (SubM.refl _) iZ.nil
      refine Cb (cm _ 1 Z Z X X) (Cf ?_)
      refine ⟨rfl,?_⟩
      refine bm (rem' := [15,16,17]) (rem'' := [2,16,17]) (i:=2) (j:=15) Y Z Z Z Z ?_ ?_ iZ.nil
      refine Cc Z (Cf ?_)
      refine ⟨rfl,?_⟩
      refine ak (rem' := [16,17]) (i:=15) Y Z Z ?_ iZ.nil
      (refine au 0 Z Z Z ?_ Z ?_;omega)
      refine Cf ?_
      refine ⟨rfl,?_⟩
      refine ak (rem' := [17]) (i:=16) Y Z Z ?_ iZ.nil
      refine Cb (ar Z Z X) (Cf ?_)
      refine ⟨rfl,?_⟩
      refine ak (rem' := []) (i:=17) Y Z Z ?_ iZ.nil
      (refine au 0 Z Z Z ?_ Z ?_;omega)
      refine Cf ?_
      refine ⟨rfl,?_⟩
      refine aE BZ (SubM.refl _) iZ.nil
      (refine au 0 Z Z Z ?_ Z ?_;omega)
      refine Cf ?_
      refine ⟨rfl,?_⟩
      refine ak (rem' := [16,17]) (i:=2) Y Z Z ?_ iZ.nil
      refine Cc Z (Cf ?_)
      refine ⟨rfl,?_⟩
      refine ak (rem' := [17]) (i:=16) Y Z Z ?_ iZ.nil
      refine Cb (ar Z Z X) (Cf ?_)
      refine ⟨rfl,?_⟩
      refine ak (rem' := []) (i:=17) Y Z Z ?_ iZ.nil
      (refine au 0 Z Z Z ?_ Z ?_;omega)
      refine Cf ?_
      refine ⟨rfl,?_⟩
      refine aE BZ (SubM.refl _) iZ.nil
      (refine au 0 Z Z Z ?_ Z ?_;omega)
      refine Cf ?_
      refine ⟨rfl,?_⟩
      refine bm (rem' := [4,16,17]) (rem'' := [2,16,17]) (i:=2) (j:=4) Y Z Z Z Z ?_ ?_ iZ.nil
      refine Cc Z (Cf ?_)
      refine ⟨rfl,?_⟩
      refine ak (rem' := [16,17]) (i:=4) Y Z Z ?_ iZ.nil
      refine Cb (cm _ 1 Z Z X X) (Cf ?_)
      refine ⟨rfl,?_⟩
      refine ak (rem' := [17]) (i:=16) Y Z Z ?_ iZ.nil
      refine Cb (ar Z Z X) (Cf ?_)
      refine ⟨rfl,?_⟩
      refine ak (rem' := []) (i:=17) Y Z Z ?_ iZ.nil
      (refine au 0 Z Z Z ?_ Z ?_;omega)
      refine Cf ?_
      refine ⟨rfl,?_⟩
      refine aE BZ (SubM.refl _) iZ.nil
      refine Cb (cm _ 1 Z Z X X) (Cf ?_)
      refine ⟨rfl,?_⟩
      refine ak (rem' := [16,17]) (i:=2) Y Z Z ?_ iZ.nil
      refine Cc Z (Cf ?_)
      refine ⟨rfl,?_⟩
      refine ak (rem' := [17]) (i:=16) Y Z Z ?_ iZ.nil
      refine Cb (ar Z Z X) (Cf ?_)
      refine ⟨rfl,?_⟩
      refine ak (rem' := []) (i:=17) Y Z Z ?_ iZ.nil
      (refine au 0 Z Z Z ?_ Z ?_;omega)
      refine Cf ?_
      refine ⟨rfl,?_⟩
      refine aE BZ (SubM.refl _) iZ.nil
     ·refine bm (rem' := [15,16,17]) (rem'' := [2,16,17]) (i:=2) (j:=15) Y Z Z Z Z ?_ ?_ iZ.nil
      refine Cc Z (Cf ?_)
      refine ⟨rfl,?_⟩
      refine ak (rem' := [16,17]) (i:=15) Y Z Z ?_ iZ.nil
      (refine au 0 Z Z Z ?_ Z ?_;omega)
      refine Cf ?_
      refine ⟨rfl,?_⟩
      refine ak (rem' := [17]) (i:=16) Y Z Z ?_ iZ.nil
      refine Cb (ar Z Z X) (Cf ?_)
      refine ⟨rfl,?_⟩
      refine ak (rem' := []) (i:=17) Y Z Z ?_ iZ.nil
      (refine au 0 Z Z Z ?_ Z ?_;omega)
      refine Cf ?_
      refine ⟨rfl,?_⟩
      refine aE BZ (SubM.refl _) iZ.nil
      (refine au 0 Z Z Z ?_ Z ?_;omega)
      refine Cf ?_
      refine ⟨rfl,?_⟩
      refine ak (rem' := [16,17]) (i:=2) Y Z Z ?_ iZ.nil
      refine Cc Z (Cf ?_)
      refine ⟨rfl,?_⟩
      refine ak (rem' := [17]) (i:=16) Y Z Z ?_ iZ.nil
      refine Cb (ar Z Z X) (Cf ?_)
      refine ⟨rfl,?_⟩
      refine ak (rem' := []) (i:=17) Y Z Z ?_ iZ.nil
      (refine au 0 Z Z Z ?_ Z ?_;omega)
      refine Cf ?_
      refine ⟨rfl,?_⟩
      refine aE BZ (SubM.refl _) iZ.nil
     ·refine bm (rem' := [4,15,16,17]) (rem'' := [3,4,16,17]) (i:=3) (j:=15) Y Z Z Z Z ?_ ?_ iZ.nil
      refine Cc Z (Cf ?_)
      refine ⟨rfl,?_⟩
      refine bm (rem' := [15,16,17]) (rem'' := [4,16,17]) (i:=4) (j:=15) Y Z Z Z Z ?_ ?_ iZ.nil
      refine Cb (cm _ 1 Z Z X X) (Cf ?_)
      refine ⟨rfl,?_⟩
      refine ak (rem' := [16,17]) (i:=15) Y Z Z ?_ iZ.nil
      (refine au 0 Z Z Z ?_ Z ?_;omega)
      refine Cf ?_
      refine ⟨rfl,?_⟩
      refine ak (rem' := [17]) (i:=16) Y Z Z ?_ iZ.nil
      refine Cb (ar Z Z X) (Cf ?_)
      refine ⟨rfl,?_⟩
      refine ak (rem' := []) (i:=17) Y Z Z ?_ iZ.nil
      (refine au 0 Z Z Z ?_ Z ?_;omega)
      refine Cf ?_
      refine ⟨rfl,?_⟩
      refine aE BZ (SubM.refl _) iZ.nil
      (refine au 0 Z Z Z ?_ Z ?_;omega)
      refine Cf ?_
      refine ⟨rfl,?_⟩
      refine ak (rem' := [16,17]) (i:=4) Y Z Z ?_ iZ.nil
      refine Cb (cm _ 1 Z Z X X) (Cf ?_)
      refine ⟨rfl,?_⟩
      refine ak (rem' := [17]) (i:=16) Y Z Z ?_ iZ.nil
      refine Cb (ar Z Z X) (Cf ?_)
      refine ⟨rfl,?_⟩
      refine ak (rem' := []) (i:=17) Y Z Z ?_ iZ.nil
      (refine au 0 Z Z Z ?_ Z ?_;omega)
      refine Cf ?_
      refine ⟨rfl,?_⟩
      refine aE BZ (SubM.refl _) iZ.nil
      (refine au 0 Z Z Z ?_ Z ?_;omega)
      refine Cf ?_
      refine ⟨rfl,?_⟩
      refine ak (rem' := [4,16,17]) (i:=3) Y Z Z ?_ iZ.nil
      refine Cc Z (Cf ?_)
      refine ⟨rfl,?_⟩
      refine ak (rem' := [16,17]) (i:=4) Y Z Z ?_ iZ.nil
      refine Cb (cm _ 1 Z Z X X) (Cf ?_)
      refine ⟨rfl,?_⟩
      refine ak (rem' := [17]) (i:=16) Y Z Z ?_ iZ.nil
      refine Cb (ar Z Z X) (Cf ?_)
      refine ⟨rfl,?_⟩
      refine ak (rem' := []) (i:=17) Y Z Z ?_ iZ.nil
      (refine au 0 Z Z Z ?_ Z ?_;omega)
      refine Cf ?_
      refine ⟨rfl,?_⟩
      refine aE BZ (SubM.refl _) iZ.nil
     ·refine bm (rem' := [15,16,17]) (rem'' := [3,16,17]) (i:=3) (j:=15) Y Z Z Z Z ?_ ?_ iZ.nil
      refine Cc Z (Cf ?_)
      refine ⟨rfl,?_⟩
      refine ak (rem' := [16,17]) (i:=15) Y Z Z ?_ iZ.nil
      (refine au 0 Z Z Z ?_ Z ?_;omega)
      refine Cf ?_
      refine ⟨rfl,?_⟩
      refine ak (rem' := [17]) (i:=16) Y Z Z ?_ iZ.nil
      refine Cb (ar Z Z X) (Cf ?_)
      refine ⟨rfl,?_⟩
      refine ak (rem' := []) (i:=17) Y Z Z ?_ iZ.nil
      (refine au 0 Z Z Z ?_ Z ?_;omega)
      refine Cf ?_
      refine ⟨rfl,?_⟩
      refine aE BZ (SubM.refl _) iZ.nil
      (refine au 0 Z Z Z ?_ Z ?_;omega)
      refine Cf ?_
      refine ⟨rfl,?_⟩
      refine ak (rem' := [16,17]) (i:=3) Y Z Z ?_ iZ.nil
      refine Cc Z (Cf ?_)
      refine ⟨rfl,?_⟩
      refine ak (rem' := [17]) (i:=16) Y Z Z ?_ iZ.nil
      refine Cb (ar Z Z X) (Cf ?_)
      refine ⟨rfl,?_⟩
      refine ak (rem' := []) (i:=17) Y Z Z ?_ iZ.nil
      (refine au 0 Z Z Z ?_ Z ?_;omega)
      refine Cf ?_
      refine ⟨rfl,?_⟩
      refine aE BZ (SubM.refl _) iZ.nil
     ·refine bm (rem' := [15,16,17]) (rem'' := [4,16,17]) (i:=4) (j:=15) Y Z Z Z Z ?_ ?_ iZ.nil
      refine Cb (cm _ 1 Z Z X X) (Cf ?_)
      refine ⟨rfl,?_⟩
      refine ak (rem' := [16,17]) (i:=15) Y Z Z ?_ iZ.nil
      (refine au 0 Z Z Z ?_ Z ?_;omega)
      refine Cf ?_
      refine ⟨rfl,?_⟩
      refine ak (rem' := [17]) (i:=16) Y Z Z ?_ iZ.nil
      refine Cb (ar Z Z X) (Cf ?_)
      refine ⟨rfl,?_⟩
      refine ak (rem' := []) (i:=17) Y Z Z ?_ iZ.nil
      (refine au 0 Z Z Z ?_ Z ?_;omega)
      refine Cf ?_
      refine ⟨rfl,?_⟩
      refine aE BZ (SubM.refl _) iZ.nil
      (refine au 0 Z Z Z ?_ Z ?_;omega)
      refine Cf ?_
      refine ⟨rfl,?_⟩
      refine ak (rem' := [16,17]) (i:=4) Y Z Z ?_ iZ.nil
      refine Cb (cm _ 1 Z Z X X) (Cf ?_)
      refine ⟨rfl,?_⟩
      refine ak (rem' := [17]) (i:=16) Y Z Z ?_ iZ.nil
      refine Cb (ar Z Z X) (Cf ?_)
      refine ⟨rfl,?_⟩
      refine ak (rem' := []) (i:=17) Y Z Z ?_ iZ.nil
      (refine au 0 Z Z Z ?_ Z ?_;omega)
      refine Cf ?_
      refine ⟨rfl,?_⟩
      refine aE BZ (SubM.refl _) iZ.nil
     ·refine ak (rem' := [16,17]) (i:=15) Y Z Z ?_ iZ.nil
      (refine au 0 Z Z Z ?_ Z ?_;omega)
      refine Cf ?_
      refine ⟨rfl,?_⟩
      refine ak (rem' := [17]) (i:=16) Y Z Z ?_ iZ.nil
      refine Cb (ar Z Z X) (Cf ?_)
      refine ⟨rfl,?_⟩
      refine ak (rem' := []) (i:=17) Y Z Z ?_ iZ.nil
      (refine au 0 Z Z Z ?_ Z ?_;omega)
      refine Cf ?_
      refine ⟨rfl,?_⟩
      refine aE BZ (SubM.refl _) iZ.nil
    ·refine aK (aa (ai (Cc Z (Cb (cm _ 1 Z Z X X) (Cd Z (Cf ?_))))))
     refine aX ((j,jd j h)) (⟨by omega,hin.swp X,hI⟩) X BX (.keep (ya) (.nil))
   ·rw [if_neg hlt2] at hI
    have hcc : ¬ c4 (h j) (h (j+1))<0:=by unfold c4;split <;> (try split) <;> omega
    generalize c4 (h j) (h (j+1))=cc at *
    subst hI
    refine ae (ae (bG 17 bH Y U (Cc Z (Cc Z (Cb (sT X (dx Z Z)) (Cc Z (Ce (ab Z) (Ce (ab Z) (Ce (ab Z) ?_)))))))))
    refine Ce (ar Z Z X) (Ce (bM 0 Z Z X) (Ce (ab Z) (Ce (ab Z) (Ce (cm _ 1 Z Z X X) (Ce (ar Z Z X) (Ce (bM 0 Z Z X) ?_))))))
    refine Ce (lZ hcl Z Z ⟨A,A,Cg⟩) ?_
    refine Ce (sF (by assumption) (bD Z Z)) (Cb (bh Z Z) (Cf (Cf (aa (aD Z (a8 (ax (ax (aL ?_)))))))))
    refine aK (aa (ai (Cc Z (Cb (bU _ 1 Z Z X) (Cd Z (Cf ?_))))))
    refine aX (t+1) X X BX (.keep Ca (.nil))
 ·refine ae (ae (ai (Cc Z (Cc Z (Cb (sF X (bD Z Z)) (Cf (aa (aD Z (a8 ?_)))))))))
  refine ax (ax (aL (oV ?_)))
  exact qk (σ:=Unit) (ψ:=fun _=>bw []) () Tryz.results156 A (.keep (bV fun q hq=>by rw [show t+1=n by omega]) .nil)
end Tor
end
section
namespace Tor
open Go Go.RowKit Go.Proofs
variable [Tor.Co.Kc]
theorem zM:VT.le (one (.slice none 0 0)) (one (slV none 0 0)):=VT.le_refl _
attribute [local irreducible] J PJ aC one slT bL bE bw exT cj eP aT aH slV VT.le Ret bQ dz ed
attribute [local irreducible] aU
theorem vI (x:Nat) (hx:x<256):Ok Tryz.prog 164 [one (.int .u64 (x:Nat))] (one (.int .i64 (fH x))):=by
 have k2:fH x≤8:=ju (n:=8) X U
 refine Ok.enter Tryz.func164 Z Tryz.ntmps164 Z (fun w O => ?_)
 refine ae (ai (Cd Z (Cf (aa (ae (ae (ai (Cc Z (Cb (sF X (eR Z Z)) ?_)))))))))
 refine Cf (aa (aD Z (ay (aa (ae (ae (ai (Cc Z (Cb (sF X (eR Z Z)) ?_)))))))))
 refine Cf (aa (aD Z (ay (aa (ae (ae (ai (Cc Z (Cb (sF X (eR Z Z)) ?_)))))))))
 refine Cf (aa (aD Z (ay (aa (ae (ai (Cc Z (Cc Z (Cb (kv Z X X) ?_)))))))))
 refine Cb (gp Y Z Z (mO V X)) (Cb (dc Z X X) (Cb (cz Z Z (aR X X)) (Cd Z (Cf (aa (aG ?_))))))
 refine aV Tryz.results164 (.tmp Z (av (by congr 1;omega)))
theorem zN (x:Nat) (hx:x<256):Ok Tryz.prog 148 [one (.int .u64 (x:Nat))] (one (.int .i64 (fH x))):=by
 have h:=vI x hx
 refine Ok.enter Tryz.func148 Z Tryz.ntmps148 Z (fun w O => ?_)
 refine ae (ai (Cd Z (Cf (aa (ae (aD Z (ay (aa (ae ?_)))))))))
 refine ai (Cc Z ?_)
 refine Cb (ao (h) Z ⟨A,Cg⟩) ?_
 refine Cd Z (Cf (aa (aG ?_)))
 refine aV Tryz.results148 (.tmp Z A)
theorem Bg (sv:Option Nat) (cap n:Nat) (lim:Int) (g:Nat→Int) (cl:VT) (hn:n≤12) (hC : ∀ x y,(∃ i,i<n∧x=g i)→(∃ i,i<n∧y=g i)→fE Tryz.prog cl [aU x,aU y] (one (.int .i64 (c4 y x)))) :
  OkI Tryz.prog 147 [one (slV sv n cap),one (.int .i64 0),one (.int .i64 (n:Nat)),one (.int .i64 lim),cl] [aH sv 28 (.agg 2) cap n (fun q=>aU (g q))]
   (fun _:Unit=>bw []) (fun _ => [aH sv 28 (.agg 2) cap n (fun q=>aU (eu n g q))]):=by
 have hi:=pK sv cap n g cl X hC
 refine OkI.enter Tryz.func147 Z Tryz.ntmps147 Z (fun w O => ?_)
 refine ae (ai (Cd Z (Cf (aa (ae (ai (Cd Z (Cf (aa ?_)))))))))
 refine aw ?_
 refine wn 0 ?_
 refine aw (ae (ai (Cc Z (Cc Z (Cb (cm _ 0 Z Z X X) (Cd Z (Cf (aa (ae ?_)))))))))
 refine ae (ai (Cc Z (Cb (sT X (yu Z Z)) (Cf (aa (aM Z (ae (ai (Cc Z ?_)))))))))
 refine Cc Z (Cc Z (Cc Z ?_))
 refine ir (Kp := []) hi Z ⟨A,A,A,A,Cg⟩ (List.Perm.refl _) Z Z (fun _ => ?_)
 refine Cf (aa (aG (aJ (bp (aJ (bp ?_))))))
 exact qk (σ:=Unit) (ψ:=fun _=>bw []) () Tryz.results147 A (SubM.refl _)
theorem rA (sv:Option Nat) (cap n:Nat) (g:Nat→Int) (cl:VT) (hn:n≤12) (hC : ∀ x y,(∃ i,i<n∧x=g i)→(∃ i,i<n∧y=g i)→fE Tryz.prog cl [aU x,aU y] (one (.int .i64 (c4 y x)))) :
  OkI Tryz.prog 123 [one (slV sv n cap),cl] [aH sv 28 (.agg 2) cap n (fun q=>aU (g q))]
   (fun _:Unit=>bw []) (fun _ => [aH sv 28 (.agg 2) cap n (fun q=>aU (eu n g q))]):=by
 have hp:=fun lim=>Bg sv cap n lim g cl hn hC
 have hL:=zN n X
 refine OkI.enter Tryz.func123 Z Tryz.ntmps123 Z (fun w O => ?_)
 refine ae (ai (Cc Z (Cb (iP Z) (Cd Z (Cf (aa (ai (Cc Z (Cc Z ?_)))))))))
 refine Cc Z (Cb (cd Z X) ?_)
 refine Cb (ao (hL) Z ⟨A,Cg⟩) ?_
 refine Cc Z ?_
 refine ir (Kp := []) (hp _) Z ⟨A,A,A,A,A,Cg⟩ (List.Perm.refl _) Z Z (fun _ => ?_)
 refine Cf (oV ?_)
 exact qk (σ:=Unit) (ψ:=fun _=>bw []) () Tryz.results123 A (SubM.refl _)
theorem vJ (x y:Int):Ok Tryz.prog 124 [aU x,aU y] (one (.int .i64 (c4 y x))):=by
 have h:=jt y x
 refine Ok.enter Tryz.func124 Z Tryz.ntmps124 Z (fun w O => ?_)
 refine ae (ai ?_)
 refine jH Z Z (ltN Z) (fun b2 => ?_)
 refine jH Z Z (ltN Z) (fun b3 => ?_)
 refine Cd Z (Cf (aa (ae (ai (Cb (am 0 Z Z Z) (Cb (am 1 Z Z Z) ?_))))))
 refine Cb (ao (h) Z ⟨A,A,Cg⟩) ?_
 refine Cd Z (Cf (aa (aG ?_)))
 refine aV Tryz.results124 (.tmp Z A)
theorem Bh {r c:Nat} {F:Nat→Nat→Int} : VT.le (slT (.agg 2) r (fun q=>aU (eu r (fun i=>(eH c (F i):Int)) q))) (slT (.agg 2) r (fun t=>aU (jf r c F t:Int))):=fL fun q hq=>jI (by rw [oi hq])
theorem sV (r c:Nat) (F:Nat→Nat→Int) (hr:r≤12) (hc:c≤1048576) (hF : ∀ i j,gS (F i j)):Ok Tryz.prog 82 [cr r c F] (slT (.agg 2) r (fun t=>aU (jf r c F t:Int))):=by
 have hd:=fun i=>AZ c c (F i) (F i) hc hc (hF i) (hF i)
 have hd' : ∀ i,Ok Tryz.prog 122 [ei c (F i),ei c (F i)] (bw [aU (eH c (F i):Int),one (.int .i64 0)]):=fun i=>by
  have h:=hd i
  rw [if_pos Z,if_pos Z, ← ue] at h;exact h
 clear hd
 unfold cr ei at *
 refine Ok.enter Tryz.func82 Z Tryz.ntmps82 Z (fun w O => ?_)
 refine ae (ai ?_)
 refine bJ Z Z (ltN Z) (fun b1 => ?_)
 refine Cd Z (Cf (aa (ae (ai (Cd Z (Cf (aa (ae (ae ?_)))))))))
 refine ai (Cb (aj Z) (Cb (am 0 Z Z Z) (Cb (a9 Z) (Cc Z (Cf (aa (aw ?_)))))))
 refine iW (ConvM.nilSl0 (T:=28) (L := .agg 2) (φ:=fun _=>bQ) _) ?_
 refine cv (Γ' := [(2,_),(3,_),(9,_),(10,_),(11,_)]) BW (SubM.refl _) ?_
 refine bO (σ:=Nat × Option Nat × Nat) (Γk := [(2,_),(9,_),(10,_)]) BW (fun s => [(11,one (.int .i64 (s.1:Nat))),(3,one (slV s.2.1 s.1 s.2.2))]) (fun s M0=>(M0.set 0 (aH s.2.1 28 (.agg 2) s.2.2 s.1 (fun q=>aU (eH c (F q):Int))))) (fun s=>s.1≤r) (fun s=>r - s.1) ((0,none,0)) (Nat.zero_le _) (by (repeat (first | exact dO.nil | refine dO.cons Z A ?_ | refine dO.cons Z zM ?_))) (.keep (bV (fun q hq=>absurd hq (Nat.not_lt_zero _))) (.keep Ca (.nil))) (fun s hs => ?_)
 refine cg (Γ' := [(11,_),(3,_),(2,_),(9,_),(10,_)]) (M' := [_,_]) Z Z ?_
 obtain ⟨i,sv,cap⟩:=s
 dsimp only at hs ⊢
 by_cases hi:i<r
 ·refine ae (ai (Cb (sT X (bD Z Z)) (Cf (aa (ae (aM Z (ay (aa (ae ?_)))))))))
  refine aw (ae (ai (Cb (aI Z Z X) (Cb (aY Z) (Cd Z (Cf (aa (ae (ai ?_)))))))))
  refine Cc Z (Cc Z ?_)
  refine Cb (ao (hd' _) Z ⟨A,A,Cg⟩) ?_
  refine Cc Z (Cb (aA Z Z) (Cb (aA Z Z) ?_))
  refine aN (T:=28) Z (ltN Z) (fun b6 => ?_)
  refine az 0 Z Z Z Z Z (leN Z) Z (Cd Z (Cf (aa (ai (Cc Z (Cb (am 0 Z Z Z) (my Z Z Z Z ?_)))))))
  (refine dB 1 Z Z Z (leN Z) ?_ ?_ Z (ltN Z) (fun sv24 cap24 => ?_);omega;omega)
  refine Cd Z (Cf (aK (aa (ai (Cb (bU _ 1 Z Z X) (Cc Z (Cf ?_)))))))
  refine aX ((i+1,sv24,cap24)) (hi) X BX (.drop (.keep (vo (h:=fun q=>(eH c (F q):Int)) Z) (.keep Ca (.nil))))
 ·have he:i=r:=by omega
  subst he
  have hso:=rA sv cap i (fun q=>(eH c (F q):Int)) (one (.func (.func 124) #[] #[])) hr (fun x y _ _=>fE.fn (vJ x y))
  refine ae (ai (Cb (sF X (bD Z Z)) (Cf (aa (ae (aD Z (a8 (ax (ax ?_)))))))))
  refine aL (aa (ae (ai (Cc Z ?_))))
  refine ir (Kp := [_]) hso Z ⟨A,A,Cg⟩ (List.Perm.refl _) Z Z (fun _ => ?_)
  refine Cf (aa (ae (ai (Cc Z (Cd Z (Cf (aa (aG (dh (t:=2) (i:=0) Z Z ?_)))))))))
  refine aV Tryz.results82 (.tmp Z (Bh))
theorem zO (n:Nat) (g:Nat→Nat) (B:Nat) (hn:n≤1048576) (hB:1≤B) (hp:B^n<2^800) (hg : ∀ i,i<n→g i≤B):Ok Tryz.prog 81 [slT (.agg 2) n (fun t=>aU (g t:Int))] (aU (upN (prN n g):Int)):=by
 have h1:=iH 1 U U
 refine Ok.enter Tryz.func81 Z Tryz.ntmps81 Z (fun w O => ?_)
 refine ae (ai ?_)
 refine aN (T:=28) Z (ltN Z) (fun b2 => ?_)
 refine Cf (aa (ae (ai ?_)))
 refine Cb (ao (h1) Z ⟨A,Cg⟩) ?_
 refine aN (T:=28) Z (ltN Z) (fun b3 => ?_)
 refine az 0 Z Z Z Z Z (leN Z) Z (Cf (aa (ae (ae (ai (Cc Z (Cb (a9 Z) (Cc Z (Cf ?_)))))))))
 refine aa (aw (cv (Γ' := [(2,_),(3,_),(9,_),(10,_),(11,_)]) BW (SubM.refl _) ?_))
 refine bO (σ:=Nat) (Γk := [(2,_),(3,_),(9,_),(10,_)]) BW (fun i => [(11,one (.int .i64 (i:Nat)))]) (fun i M0=>(M0.set 0 (aT b3 28 2 [(0, .agg 2,aU (prN i g:Int))]))) (fun i=>i≤n) (fun i=>n - i) (0) (Nat.zero_le _) BX (.keep Ca (.keep Ca (.nil))) (fun i hi => ?_)
 refine cg (Γ' := [(11,_),(2,_),(3,_),(9,_),(10,_)]) (M' := [_,_]) Z Z ?_
 by_cases hi:i<n
 ·have hB8:=BM hB hp X
  have hm:=f7 (prN i g:Int) (g i:Int) (xA (xB (xC hB hp hg (Nat.le_of_lt hi)))) (xA (xB (Nat.lt_of_le_of_lt (hg i hi) hB8)))
  have hs:((prN (i+1) g:Nat):Int)=(prN i g:Int)*(g i:Int):=by rw [prN,Int.natCast_mul]
  refine ae (ai (Cb (sT X (bD Z Z)) (Cf (aa (ae (aM Z (ay (aa (ae ?_)))))))))
  refine aw (ae (ai (Cb (aI Z Z X) (Cb (aY Z) ?_))))
  refine aN (T:=28) Z (ltN Z) (fun b5 => ?_)
  refine az 0 Z Z Z Z Z (leN Z) Z (Cf (aa (ai (Cb (am 1 Z Z Z) (Cb (am 0 Z Z Z) ?_)))))
  refine Cb (ao (hm) Z ⟨A,A,Cg⟩) ?_
  refine az 1 Z Z Z Z Z (leN Z) Z (Cf (aK (aa (ai (Cb (bU _ 1 Z Z X) (Cc Z (Cf ?_)))))))
  refine aX (i+1) (hi) X BX (.drop (.keep Ca (.keep Ca (.nil))))
 ·have he:i=n:=by omega
  subst he
  have ha:=xC hB hp hg (Nat.le_refl i)
  generalize prN i g=a at *
  have h2:=je a
  have hs:=A3 a
  have hro:Ok Tryz.prog 121 [aU (a:Int)] (bw [aU (isq a:Int),one (.int .i64 0)]):=by
   by_cases h0:a=0
   ·subst h0;exact wV
   ·exact y9 a (isq a) ha h0 h2.1 h2.2
  have hsm:cf (isq a:Int):=xA (Nat.le_trans hs (xB ha))
  have hm:=f7 (isq a:Int) (isq a:Int) hsm hsm
  have hq:(isq a:Int)*(isq a:Int)=((isq a*isq a:Nat):Int):=(Int.natCast_mul _ _).symm
  have hc:=jt ((isq a:Int)*(isq a:Int)) (a:Int)
  have had:=fZ (isq a:Int) 1 hsm nX
  unfold upN
  by_cases hlt:isq a*isq a<a
  ·have hcc:c4 ((isq a:Int)*(isq a:Int)) (a:Int)<0:=by rw [hq]; unfold c4;rw [if_pos X]; decide
   rw [if_pos hlt]
   generalize c4 ((isq a:Int)*(isq a:Int)) (a:Int)=cc at *
   refine ae (ai (Cb (sF X (bD Z Z)) (Cf (aa (ae (aD Z (a8 (ax (ax ?_)))))))))
   refine aL (aa (ae (ai (Cb (am 0 Z Z Z) ?_))))
   refine Cb (ao (hro) Z ⟨A,Cg⟩) ?_
   refine Cc Z (Cb (aA Z Z) (Cb (aA Z Z) ?_))
   refine aN (T:=28) Z (ltN Z) (fun b6 => ?_)
   refine az 0 Z Z Z Z Z (leN Z) Z (Cd Z (Cf (aa (ae (ae (bG 6 bH Y U (Cb (am 0 Z Z Z) (Cb (am 0 Z Z Z) ?_))))))))
   refine Cb (ao (hm) Z ⟨A,A,Cg⟩) ?_
   refine Cb (am 1 Z Z Z) ?_
   refine Cb (ao (hc) Z ⟨A,A,Cg⟩) ?_
   refine Cb (sT (by assumption) (bD Z Z)) (Cf (Cf (aa (aM Z (bG 2 bH Y U (Cb (am 0 Z Z Z) ?_))))))
   refine Cb (ao (h1) Z ⟨A,Cg⟩) ?_
   refine Cf ?_
   refine Cb (ao (had) Z ⟨A,A,Cg⟩) ?_
   refine az 0 Z Z Z Z Z (leN Z) Z (Cf (aa (ae (ai (Cb (am 0 Z Z Z) (az 2 Z Z Z Z Z (leN Z) Z (Cf (aa (aG ?_)))))))))
   refine aV Tryz.results81 (.cellB 2 Z Z Z (oh X))
  ·have hcc : ¬ c4 ((isq a:Int)*(isq a:Int)) (a:Int)<0:=by
    rw [hq]; unfold c4;rw [if_neg X]; split <;> decide
   rw [if_neg hlt]
   generalize c4 ((isq a:Int)*(isq a:Int)) (a:Int)=cc at *
   refine ae (ai (Cb (sF X (bD Z Z)) (Cf (aa (ae (aD Z (a8 (ax (ax ?_)))))))))
   refine aL (aa (ae (ai (Cb (am 0 Z Z Z) ?_))))
   refine Cb (ao (hro) Z ⟨A,Cg⟩) ?_
   refine Cc Z (Cb (aA Z Z) (Cb (aA Z Z) ?_))
   refine aN (T:=28) Z (ltN Z) (fun b6 => ?_)
   refine az 0 Z Z Z Z Z (leN Z) Z (Cd Z (Cf (aa (ae (ae (bG 6 bH Y U (Cb (am 0 Z Z Z) (Cb (am 0 Z Z Z) ?_))))))))
   refine Cb (ao (hm) Z ⟨A,A,Cg⟩) ?_
   refine Cb (am 1 Z Z Z) ?_
   refine Cb (ao (hc) Z ⟨A,A,Cg⟩) ?_
   refine Cb (sF (by assumption) (bD Z Z)) (Cf (Cf (aa (aD Z (ay (aa (ae (ai (Cb (am 0 Z Z Z) ?_)))))))))
   refine az 2 Z Z Z Z Z (leN Z) Z (Cf (aa (aG ?_)))
   refine aV Tryz.results81 (.cellB 2 Z Z Z A)
end Tor
end
section
namespace Tor
open Go Go.RowKit Go.Proofs
variable [Tor.Co.Kc]
attribute [local irreducible] J PJ aC one slT bL bE bw exT cj eP aT aH slV VT.le Ret bQ dz ed
attribute [local irreducible] aU
theorem pL (r c:Nat) (F:Nat→Nat→Int) (h:r≠c):Ok Tryz.prog 57 [cr r c F] (bw [aU 0,one (.int .i64 50)]):=by
 have hv:=kW r c F
 unfold cr at *
 refine Ok.enter Tryz.func57 Z Tryz.ntmps57 Z (fun w O => ?_)
 refine ae (ai ?_)
 refine bJ Z Z (ltN Z) (fun b1 => ?_)
 refine aN (T:=28) Z (ltN Z) (fun b2 => ?_)
 refine Cd Z (Cf (aa (ae (ae (ai (Cb (bI 1 Z Z) ?_))))))
 refine Cb (ao (hv) Z ⟨A,Cg⟩) ?_
 refine Cb (c8 Z) (Cc Z (Ce (aj Z) (Ce (am 1 Z Z Z) (Ce (aj Z) (Ce (am 1 Z Z Z) (Ce (sT X (ek Z Z)) (Cb (bT Z Z) (Cf (aa ?_)))))))))
 refine aM Z (ae (ai (stB Z Z Z (BuildK.nil (az 0 Z Z Z Z Z (leN Z) Z (Cd Z (Cf (aa (aG ?_)))))))))
 refine aJ ?_
 refine db Tryz.results57 (.cellB 0 Z Z Z (ie)) (.tmp Z A)
theorem jk (r:Nat) (F:Nat→Nat→Int) (B:Nat) (hr:r≤12) (hF : ∀ i j,gS (F i j)) (hB:1≤B) (hn:B^r<2^800) (hl : ∀ i,i<r→eH r (F i)≤B):Ok Tryz.prog 57 [cr r r F] (bw [aU (upN (prN r (jf r r F)):Int),one (.int .i64 0)]):=by
 have hv:=kW r r F
 have hle:=sV r r F hr X hF
 have hro:=zO r (jf r r F) B X hB hn (fun i hi=>zn hl hi)
 unfold cr at *
 refine Ok.enter Tryz.func57 Z Tryz.ntmps57 Z (fun w O => ?_)
 refine ae (ai ?_)
 refine bJ Z Z (ltN Z) (fun b1 => ?_)
 refine aN (T:=28) Z (ltN Z) (fun b2 => ?_)
 refine Cd Z (Cf (aa (ae (ae (ai (Cb (bI 1 Z Z) ?_))))))
 refine Cb (ao (hv) Z ⟨A,Cg⟩) ?_
 refine Cb (c8 Z) (Cc Z (Ce (aj Z) (Ce (am 1 Z Z Z) (Ce (aj Z) (Ce (am 1 Z Z Z) (Ce (sF X (ek Z Z)) (Cb (bT Z Z) (Cf (aa ?_)))))))))
 refine aD Z (ay (aa (ae (ai (Cb (bI 1 Z Z) ?_)))))
 refine Cb (ao (hle) Z ⟨A,Cg⟩) ?_
 refine Cb (ao (hro) Z ⟨A,Cg⟩) ?_
 refine az 0 Z Z Z Z Z (leN Z) Z (Cd Z (Cf (aa (aG ?_))))
 refine db Tryz.results57 (.cellB 0 Z Z Z A) (.tmp Z A)
end Tor
end
section
namespace Tor
open Go Go.RowKit Go.Proofs
section
variable [Co.Kc] {P:Program} {E:Env} {D:List Deferred} {Γ:Ctx} {M:Mem} {Q:Exit→Act→World→Prop} {x y:Code}
def JX (P:Program) (E:Env) (D:List Deferred) (Γ:Ctx) (M:Mem) (c:Code) (Q:Exit→Act→World→Prop):Prop := ∀ a w,St E D Γ M a w→Co.WpX P E.R c Q a w
theorem JX.seq (hc:OkC E.R x) (h:J P E D Γ M x (Exit.then (fun a w=>Co.WpX P E.R y Q a w) Q)):JX P E D Γ M (.seq x y) Q:=fun a w hS=>Co.wpX_seq (h a w hS hc)
theorem sW (h:JX P E D Γ M y Q):PJ E D Γ M .normal (Exit.then (fun a w=>Co.WpX P E.R y Q a w) Q):=fun a w hS=>h a w hS
theorem Ok.enterX {f:FuncId} {fn:Func} {c:Code} {N:Nat} {φs:List VT} {ψ:VT} (hf:P.funcs[f]? = some fn) (hb:fn.body=some c) (hN:fn.ntmps=N) (hle:Nat.ble φs.length N=true)
  (h : ∀ (w:World) (O:List Nat),JX P ⟨w,O, [],N,none⟩ [] (fK 0 φs) [] c (cG P fn (Ret O ψ w))):Ok P f φs ψ:=fun w O vs hO hv'=>by
 have hl:=gX hv'
 have hle':=Nat.le_of_ble_eq_true hle
 refine Co.callsX_of hf hb (h w O _ w ⟨⟨by simp,by simp,by simp,by simp,?_,Fr.refl _ _⟩,?_,rfl,?_⟩)
 ·intro b hb';exact hO b (by simpa using hb')
 ·simp [hN]; omega
 ·intro t φ e
  obtain ⟨v,_,h2,h3⟩:=eM e hv'
  have h4:hv ⟨w,O, [],N,none⟩ [] w=hid O (view w):=by simp [hv]
  rw [h4]
  rw [Nat.sub_zero] at h2
  have hlt:=(List.getElem?_eq_some_iff.1 h2).1
  rw [Array.getD_eq_getD_getElem?,Array.getElem?_append_left (by simpa using hlt)]
  simpa [h2] using h3
end
section
variable {E:Env} {D:List Deferred} {Γ:Ctx} {M:Mem}
theorem yb {d:Co.DD} {a a':Act} {w w':World} {T:TypeId} {cap:Nat} {φ ψ:Nat→VT} {Γ':Ctx} (hS:St E D Γ (aH (some d.C) T (.agg 2) cap d.n φ :: M) a w) (h:Co.AfterW d w w') (hcap:cap=d.n) (hT:T=d.eC)
  (hψ : ∀ i c h,i<d.n→c[2*i]? = some (d.pv i).1→c[2*i+1]? = some (d.pv i).2→c.size=2*d.n → ∃ x,bP (.agg 2) c (i*2)=some x∧(ψ i).p x h)
  (hsz:a'.tmps.size=a.tmps.size) (hdf:a'.defers=a.defers) (hk : ∀ t φ,bt Γ' t=some φ→bt Γ t=some φ∧a'.tmps.getD t undef=a.tmps.getD t undef) :
  St E D Γ' (aH (some d.C) T (.agg 2) cap d.n ψ :: M) a' w':=by
 have hbl:aS (aH (some d.C) T (.agg 2) cap d.n ψ :: M)=aS (aH (some d.C) T (.agg 2) cap d.n φ :: M):=rfl
 have hC:d.C∈aS (aH (some d.C) T (.agg 2) cap d.n φ :: M):=by simp [aH]
 have hnd:=hS.base.nd
 have hCM:d.C ∉ aS M:=by
  rw [blks_cons] at hnd
  simp [aH] at hnd
  exact hnd.1
 have hCl:d.C<w.heap.size:=hS.base.ex _ (List.mem_append.2 (.inr hC))
 have hle:Hp.le (hv E (aH (some d.C) T (.agg 2) cap d.n φ :: M) w) (hv E (aH (some d.C) T (.agg 2) cap d.n ψ :: M) w'):=fun b x e=>by
  obtain ⟨h1,h2⟩:=cW e
  refine eA (by rw [hbl]; exact h1) ?_
  have hlt:=d9 h2
  have hne:b≠d.C:=fun e=>h1 (List.mem_append.2 (.inr (e▸hC)))
  obtain ⟨c,T',f⟩:=x
  exact fR ((h.block b hlt fun _=>hne).trans (dS h2))
 refine ⟨⟨fun o ho => ?_,by rw [hbl]; exact hnd,fun b hb=>hS.base.dis b (by rwa [hbl] at hb),fun b hb=>hS.base.lo b (by rwa [hbl] at hb),fun b hb=>Nat.lt_of_lt_of_le (hS.base.ex b (by rwa [hbl] at hb)) h.size,?_⟩,hsz.trans hS.sz,hdf.trans hS.df,fun t χ ht => ?_⟩
 ·rcases List.mem_cons.1 ho with rfl | ho
  ·obtain ⟨h1,h2,h3,h4⟩:=hS.base.mem _ List.mem_cons_self
   refine ⟨h1,h2,h3,fun b hb => ?_⟩
   cases hb
   obtain ⟨c,g1,g2,_⟩:=h4 _ Z
   by_cases hn:0<d.n
   ·obtain ⟨c',p1,p2,p3⟩:=h.pay hn
    refine ⟨c',?_,by rw [p2,hcap]; show _=d.n*2;omega,fun i hi => ?_⟩
    ·rw [hT]; unfold vw raw;rw [p1]
    ·obtain ⟨q1,q2⟩:=p3 i hi
     exact hψ i c' _ hi q1 q2 p2
   ·refine ⟨c,?_,g2,fun i hi=>absurd hi X⟩
    exact vR (fJ (h.block _ hCl fun hn'=>absurd hn' hn)).symm g1
  ·refine o.loc (fun b hb => ?_) hle (hS.base.mem o (List.mem_cons_of_mem _ ho))
   have hbM:b∈aS M:=List.mem_flatMap.2 ⟨o,ho,hb⟩
   have hlt:b<w.heap.size:=hS.base.ex b (List.mem_append.2 (.inr (by rw [blks_cons]; exact List.mem_append.2 (.inr hbM))))
   exact (fJ (h.block b hlt fun _ e=>hCM (e▸hbM))).symm
 ·have hf:=hS.base.fr
  refine ⟨h.os.trans hf.os,h.tape.trans hf.tape,h.output.trans hf.output,Nat.le_trans hf.size h.size,fun k hk hkI => ?_⟩
  refine (h.block k (Nat.lt_of_lt_of_le hk hf.size) fun _ e => ?_).trans (hf.block k hk hkI)
  subst e
  rcases hS.base.lo _ hC with h1 | h1
  ·omega
  ·exact hkI h1
 ·obtain ⟨h1,h2⟩:=hk t χ ht
  rw [h2]
  exact χ.mono hle (hS.tm t χ h1)
end
end Tor
end
section
namespace Tor
open Go Go.RowKit Go.Proofs
@[reducible] noncomputable instance detK:Co.Kc:=Co.pieceK Co.detT
theorem ox {P:Nat} (h:P<2^598):upN P<2^300:=by
 have h1:upN P≤upN (2^598):=A2 (Nat.le_of_lt h)
 have h2:upN (2^598)=2^299:=sE V (fun t ht=>by
  have:=Nat.mul_lt_mul_of_lt_of_le ht (Nat.le_of_lt ht) V
  exact Nat.lt_of_lt_of_le this V)
 rw [h2] at h1
 exact Nat.lt_of_le_of_lt h1 V
theorem Bi {P:Program} {E:Env} {D:List Deferred} {Γ:Ctx} {M:Mem} {Q:Exit→Act→World→Prop} {T:Co.Piece} (hR:E.R=none) (h : ∀ a w,St E D Γ M a w → ∃ d,T.good d a w ∧ ∀ a' w',T.after a a'→Co.AfterW d w w' → @Co.WpX (Co.pieceK T) P none T.z Q a' w') : @JX (Co.pieceK T) P E D Γ M T.c Q:=fun a w hS=>by
 obtain ⟨d,h1,h2⟩:=h a w hS
 rw [hR]
 exact Co.wpX_ask h1 h2
theorem vK {Ms:Mem} {cs:bW} : oL Ms cs cs:=fun q hq=>⟨q.2.2,hq,Ent.refl _⟩
theorem Bj {c:Array Value} {i:Nat} {p r:Nat} {h:Hp} (h1:c[2*i]? = some (.int .u64 (p:Nat))) (h2:c[2*i+1]? = some (.int .u64 (r:Nat))) : ∃ x,bP (.agg 2) c (i*2)=some x∧(jD (p,r)).p x h:=by
 have hs:2*i+1<c.size:=(Array.getElem?_eq_some_iff.1 h2).1
 have e:c.extract (i*2) (i*2+2) = #[.int .u64 (p:Nat), .int .u64 (r:Nat)]:=by
  apply Array.ext_getElem?
  intro j
  rw [cI]
  match j with
  | 0 => rw [if_pos X, show i * 2 + 0 = 2 * i by omega, h1]; rfl
  | 1 => rw [if_pos X, show i * 2 + 1 = 2 * i + 1 by omega, h2]; rfl
  | j + 2 => rw [if_neg X]; rfl
 refine ⟨.agg #[.int .u64 (p:Nat), .int .u64 (r:Nat)],?_,?_⟩
 ·show (if i*2+2≤c.size then some (Value.agg (c.extract (i*2) (i*2+2))) else none)=_
  rw [if_pos X,e]
 ·unfold jD
  refine ⟨_,rfl,rfl,by simp [Value.oneCell'],fun q hq => ?_⟩
  rcases List.mem_cons.1 hq with rfl | hq
  ·exact ⟨_,rfl,rfl⟩
  rcases List.mem_cons.1 hq with rfl | hq
  ·exact ⟨_,rfl,rfl⟩
  cases hq
theorem yc {Ms:Mem} {sv:Option Nat} {T:TypeId} {cap n:Nat} {L:List (Nat × Nat)} (hn:L.length=n) (hm:aH sv T (.agg 2) cap n (fun i=>jD (L.getD i (0,0)))∈Ms):Ent Ms (one (slV sv n cap)) (ia L):=by
 subst hn;exact Ent.slE hm fun q _=>Ent.refl _
theorem Bk {w0:World} {O:List Nat} {Γ:Ctx} {M:Mem} {Q:Exit→Act→World→Prop} {n bC b2 b7:Nat} {F:Nat→Nat→Int} {l:List Nat} {f:Nat→Nat} {φ:Nat→VT} (g1:bt Γ 1=some (bL (.agg 3) (cr n n F))) (g6:bt Γ 6=some (rp l)) (g7:bt Γ 7=some (one (.pointer (some ⟨b7,0,none⟩)))) (g2:bt Γ 2=some (one (.pointer (some ⟨b2,0,none⟩))))
  (hl:l.length<2147483648) (hres : ∀ p∈l, @Ok Co.noAsk Tryz.prog 21 [cr n n F,one (.int .u64 (p:Nat))] (bw [one (.agg #[.int .u64 (p:Nat), .int .u64 (f p:Nat)]),one (.int .i64 0)]))
  (hk:J Tryz.prog ⟨w0,O, [],40,none⟩ [] [(2,one (.pointer (some ⟨b2,0,none⟩))),(7,one (.pointer (some ⟨b7,0,none⟩)))] (aH (some bC) 50 (.agg 2) l.length l.length (fun i=>jD ((l.map fun p=>(p,f p)).getD i (0,0))) :: aT b7 46 1 [(0, .one,one (slV (some bC) l.length l.length))] :: M) Co.detL Q) :
  JX Tryz.prog ⟨w0,O, [],40,none⟩ [] Γ (aH (some bC) 50 (.agg 2) l.length l.length φ :: aT b7 46 1 [(0, .one,one (slV (some bC) l.length l.length))] :: M) Co.detC Q:=by
 refine Bi (T:=Co.detT) Z fun a w hS => ?_
 have hget : ∀ i,i<l.length→l.getD i 0∈l:=fun i hi=>by
  rw [List.getD_eq_getElem?_getD,List.getElem?_eq_getElem hi]; exact List.getElem_mem hi
 let d:Co.DD:=⟨l.length,bC,50,3,47,fun i=>(.int .u64 (l.getD i 0:Nat), .int .u64 (f (l.getD i 0):Nat)),fun i=>(.int .i64 (i:Nat), .int .u64 (l.getD i 0:Nat))⟩
 have hbase:=hS.base
 have hnd:=hbase.nd
 have hne:b7≠bC:=fun e=>by
  subst e
  simp [aS,aH,aT] at hnd
 refine ⟨d,⟨n,F,fun i=>l.getD i 0,fun i=>f (l.getD i 0),b7,l.length,O ++ aS (aH (some bC) 50 (.agg 2) l.length l.length φ :: aT b7 46 1 [(0, .one,one (slV (some bC) l.length l.length))] :: M),?_⟩,fun a' w' h1 h2 => ?_⟩
 ·refine ⟨hS.sz,hS.df,hl,rfl,rfl,rfl,List.mem_append.2 (.inr (by simp [aH,d])),fun i _=>rfl,fun i _=>rfl,fun i hi=>hres _ (hget i hi),hS.tm 1 _ g1,hS.tm 6 _ g6,hS.tm 7 _ g7,?_,hne,?_⟩
  ·exact pH (hbase.mem _ (List.mem_cons_of_mem _ List.mem_cons_self))
  ·obtain ⟨_,_,_,h4⟩:=hbase.mem _ List.mem_cons_self
   obtain ⟨c,e1,e2,_⟩:=h4 bC Z
   refine ⟨c,?_,by rw [e2]; show l.length*2=2*l.length;omega⟩
   unfold vw raw at e1
   split at e1
   ·rename_i e;cases e1;exact e
   ·cases e1
 ·obtain ⟨k1,k2,k3,k4⟩:=h1
  have hS':=yb (d:=d) (a':=a') (w':=w') (ψ:=fun i=>jD ((l.map fun p=>(p,f p)).getD i (0,0))) (Γ' := [(2,one (.pointer (some ⟨b2,0,none⟩))),(7,one (.pointer (some ⟨b7,0,none⟩)))]) hS h2 Z Z (fun i c h hi q1 q2 _=>by
   have e:(l.map fun p=>(p,f p)).getD i (0,0)=(l.getD i 0,f (l.getD i 0)):=by
    have hi':i<l.length:=hi
    simp [List.getD_eq_getElem?_getD,hi']
   rw [e]
   exact Bj q1 q2) (k1.trans hS.sz.symm) (k2.trans hS.df.symm) (fun t χ ht=>by
   rw [aW] at ht
   split at ht
   ·rename_i e;subst e;cases ht;exact ⟨g2,k3⟩
   ·rw [aW] at ht
    split at ht
    ·rename_i e;subst e;cases ht;exact ⟨g7,k4⟩
    ·cases ht)
  exact x4 hk hS' ⟨.inl Z,by kernel_rfl⟩
attribute [local irreducible] J PJ aC one slT bL bE bw exT cj eP aT aH slV VT.le Ret bQ dz ed
attribute [local irreducible] aU ei
theorem sX (n:Nat) (F:Nat→Nat→Int) (B:Nat) (hn:n≤12) (hF : ∀ i j,gS (F i j)) (hB:1≤B) (hBn:B^n<2^598) (hl : ∀ i,i<n→eH n (F i)≤B):Ok Tryz.prog 40 [cr n n F] (bw [aU (Lin.bY n F),one (.int .i64 0)]):=by
 have hH:=jk n F B hn hF hB (Nat.lt_trans hBn V) hl
 have hb3:upN (prN n (jf n n F))<2^300:=by
  rw [q9]
  exact ox (Nat.lt_of_le_of_lt (pA hl n (Nat.le_refl n)) hBn)
 have hdet:(Lin.bY n F).natAbs≤upN (prN n (jf n n F)):=by rw [q9]; exact uf n F
 generalize upN (prN n (jf n n F))=b at *
 obtain ⟨l,hnd⟩:=zC hdet hb3
 have hN:=vH 2147483648 (b:Int) U (by show (b:Int).natAbs≤2^400;rw [Int.natAbs_natCast]; exact Nat.le_of_lt (Nat.lt_trans hb3 V)) (some l) hnd.nd
 replace hN:Ok Tryz.prog 63 [aU (b:Int),one (.int .u64 ((2147483648:Nat):Int))] (rp l):=hN
 have hlen:=hnd.len
 have hC:=mY (l.map fun p=>(p,iC n F p)) (fun p hp=>by
  obtain ⟨x,hx,rfl⟩:=List.mem_map.1 hp
  obtain ⟨_,h2,h3⟩:=hnd.mem x hx
  have:=uh (n:=n) (F:=F) (p:=x) (by have:=h2.1;omega)
  exact ⟨by show x<_;omega,by show iC n F x<_;omega⟩) (by rw [List.length_map]; omega) hnd.val
 rw [hnd.comb] at hC
 have hsm : ∀ i j,cf (F i j):=fun i j=>cM (hF i j)
 refine Ok.enterX Tryz.func40 Z Tryz.ntmps40 Z (fun w O => ?_)
 refine JX.seq ⟨.inl Z,by kernel_rfl⟩ ?_
 refine ai ?_
 refine bJ Z Z (ltN Z) (fun b1 => ?_)
 refine aN (T:=28) Z (ltN Z) (fun b2 => ?_)
 refine Cd Z (Cf (sW ?_))
 refine JX.seq ⟨.inl Z,by kernel_rfl⟩ ?_
 refine ai (Cb (bI 1 Z Z) ?_)
 refine Cb (ao (hH) Z ⟨A,Cg⟩) ?_
 refine Cc Z (Cb (aA Z Z) (Cb (aA Z Z) ?_))
 refine aN (T:=28) Z (ltN Z) (fun b4 => ?_)
 refine az 0 Z Z Z Z Z (leN Z) Z (Cd Z (Cf (sW ?_)))
 refine JX.seq ⟨.inl Z,by kernel_rfl⟩ ?_
 refine ae (ai (Cc Z (Cb (sF X (ek Z Z)) (Cf (aa (aD Z (ay (sW ?_))))))))
 refine JX.seq ⟨.inl Z,by kernel_rfl⟩ ?_
 refine ai (Cb (am 0 Z Z Z) ?_)
 refine Cb (ao (hN) Z ⟨A,A,Cg⟩) ?_
 refine Cd Z (Cf (sW ?_))
 refine JX.seq ⟨.inl Z,by kernel_rfl⟩ ?_
 refine ai (Cc Z (Cb (a9 Z) ?_))
 refine cA l.length l.length Z Z Z Z (Nat.le_refl _) Z Z X Z Z (fun bC => ?_)
 refine aN (T:=46) Z (ltN Z) (fun b7 => ?_)
 refine az 0 Z Z Z Z Z (leN Z) Z (Cf ?_)
 refine fW [_] (List.perm_append_comm (l₁ := [_,_,_,_]) (l₂ := [_])) (EntM.refl _) (uE.set (t:=1) Z (Ent.ptrW List.mem_cons_self vK)) ?_
 refine fx (.ofPerm (List.Perm.swap _ _ _)) (sW ?_)
 refine Bk (b2:=b2) (f:=iC n F) (l:=l) Z Z Z Z X (fun p hp => ?_) ?_
 ·obtain ⟨h1,h2,h3⟩:=hnd.mem p hp
  exact @nl Co.noAsk p n F h1 h2.1 h3 (Pr.invP h2) hsm X
 conv=>arg 6;dsimp only [Co.detL,Co.detC,Co.sndC,Co.bodyD,Tryz.f40,Option.getD_some]
 refine iX [_] (List.Perm.refl _) (.keep (p8.box (cs' := [(0, .one,ia (l.map fun p=>(p,iC n F p)))]) (.cons List.mem_cons_self (yc (by rw [List.length_map]) List.mem_cons_self) .nil)) (EntM.refl _)) (uE.refl _) ?_
 refine ae (ai (Cb (am 0 Z Z Z) ?_))
 refine Cb (ao (hC) Z ⟨A,Cg⟩) ?_
 refine Cb (aA Z Z) (Cb (aA Z Z) (az 2 Z Z Z Z Z (leN Z) Z (Cd Z (Cf (aa (aG ?_))))))
 refine db Tryz.results40 (.cellB 2 Z Z Z A) (.tmp Z A)
end Tor
end
section
namespace Tor
open Go Go.RowKit Go.Proofs
variable [Tor.Co.Kc]
def fsL (l:List (Nat × Nat)):List Nat:=l.map (·.1)
theorem um (l:List (Nat × Nat)):(fsL l).length=l.length:=List.length_map _
theorem un (l:List (Nat × Nat)) (i:Nat):(fsL l).getD i 0=(l.getD i (0,0)).1:=by
 unfold fsL
 rw [List.getD_eq_getElem?_getD,List.getD_eq_getElem?_getD,List.getElem?_map]
 cases l[i]? <;> rfl
theorem zP {sv:Option Nat} {T:TypeId} {cap c i:Nat} {l:List (Nat × Nat)} : Own.le (aH sv T .one cap c (upd (fun q=>one (.int .u64 ((if q<i then (l.getD q (0,0)).1 else 0:Nat)))) i (one (.int .u64 ((l.getD i (0,0)).1:Nat))))) (aH sv T .one cap c (fun q=>one (.int .u64 ((if q<i+1 then (l.getD q (0,0)).1 else 0:Nat))))):=bV fun q _=>by
 unfold upd
 by_cases h:q=i
 ·subst h;rw [if_pos Z,if_pos (Nat.lt_succ_self q)]
 ·rw [if_neg h]
  dsimp only
  by_cases h2:q<i
  ·rw [if_pos h2,if_pos X]
  ·rw [if_neg h2,if_neg X]
theorem zQ {sv:Option Nat} {T:TypeId} {cap c i:Nat} {l:List (Nat × Nat)} (hc:c=l.length) (h:c≤i):Own.le (aH sv T .one cap c (fun q=>one (.int .u64 ((if q<i then (l.getD q (0,0)).1 else 0:Nat))))) (aH sv T .one cap c (fun q=>one (.int .u64 ((fsL l).getD q 0:Nat)))):=bV fun q hq=>by
 rw [if_pos X,un]
theorem Bl {Ms:Mem} {sv:Option Nat} {T:TypeId} {cap n:Nat} {L:List Nat} (hn:L.length=n) (hm:aH sv T .one cap n (fun q=>one (.int .u64 (L.getD q 0:Nat)))∈Ms):Ent Ms (one (slV sv n cap)) (rp L):=by
 subst hn;exact Ent.slE hm fun q _=>Ent.refl _
attribute [local irreducible] J PJ aC one slT bL bE bw exT cj eP aT aH slV VT.le Ret bQ dz ed
attribute [local irreducible] aU ei
theorem pM (n:Nat) (F:Nat→Nat→Int) (B:Nat) (l:List (Nat × Nat)) (hn:n≤12) (hF : ∀ i j,gS (F i j)) (hB:1≤B) (hBn:B^n<2^800) (hl : ∀ i,i<n→eH n (F i)≤B) (h64:mV l) (hv:dV [] l=false) :
  Ok Tryz.prog 25 [cr n n F,ia l] (bw [aU 0,one (.int .i64 40)]):=by
 have hH:=jk n F B hn hF hB hBn hl
 generalize upN (prN n (jf n n F))=b at *
 have hC:=qP l h64 hv
 refine Ok.enter Tryz.func25 Z Tryz.ntmps25 Z (fun w O => ?_)
 refine ae (ai ?_)
 refine bJ Z Z (ltN Z) (fun b2 => ?_)
 refine aN (T:=28) Z (ltN Z) (fun b4 => ?_)
 refine Cd Z (Cf (aa (ae (ai (Cb (bI 1 Z Z) ?_)))))
 refine Cb (ao (hH) Z ⟨A,Cg⟩) ?_
 refine Cc Z (Cb (aA Z Z) (Cb (aA Z Z) ?_))
 refine aN (T:=28) Z (ltN Z) (fun b6 => ?_)
 refine az 0 Z Z Z Z Z (leN Z) Z (Cd Z (Cf (aa (ae (ae (ai (Cc Z (Cb (sF X (ek Z Z)) (Cf ?_)))))))))
 refine aa (aD Z (ay (aa (ae (ai (Cc Z ?_))))))
 refine Cb (ao (hC) Z ⟨A,Cg⟩) ?_
 refine Cc Z (Cb (aA Z Z) (Cb (aA Z Z) ?_))
 refine aN (T:=28) Z (ltN Z) (fun b8 => ?_)
 refine az 0 Z Z Z Z Z (leN Z) Z (Cd Z (Cf (aa (ae (ae (ai (Cc Z (Cb (sT X (ek Z Z)) (Cf ?_)))))))))
 refine aa (aM Z (ae (ai (stB Z Z Z (BuildK.nil (Cc Z (az 2 Z Z Z Z Z (leN Z) Z (Cd Z (Cf ?_)))))))))
 refine aa (aG (aJ ?_))
 refine db Tryz.results25 (.cellB 2 Z Z Z (ie)) (.tmp Z A)
theorem lS (n:Nat) (F:Nat→Nat→Int) (B b:Nat) (l:List (Nat × Nat)) (hn:n≤12) (hF : ∀ i j,gS (F i j)) (hB:1≤B) (hBn:B^n<2^800) (hl : ∀ i,i<n→eH n (F i)≤B) (hb:upN (prN n (jf n n F))=b) (hbm:gS (b:Int)) (h64:mV l) (hlen:l.length≤16) (hv:dV [] l=true)
  (x:Int) (hx:x=if (b:Int)+(b:Int)<(jF (fsL l) (fsL l).length:Int) then mX l else 0) (e:Int) (he:e=if (b:Int)+(b:Int)<(jF (fsL l) (fsL l).length:Int) then 0 else 200) :
  Ok Tryz.prog 25 [cr n n F,ia l] (bw [aU x,one (.int .i64 e)]):=by
 have hH:=jk n F B hn hF hB hBn hl
 rw [hb] at hH
 have hC:=mY l h64 hlen hv
 have hE:=ov (fsL l) (b:Int) (fun q=>by rw [un]; exact (h64.get q).1) (by rw [um]; omega) hbm
 generalize hP:(jF (fsL l) (fsL l).length:Int)=P at *
 unfold ia jD at *
 refine Ok.enter Tryz.func25 Z Tryz.ntmps25 Z (fun w O => ?_)
 refine ae (ai ?_)
 refine bJ Z Z (ltN Z) (fun b2 => ?_)
 refine aN (T:=28) Z (ltN Z) (fun b4 => ?_)
 refine Cd Z (Cf (aa (ae (ai (Cb (bI 1 Z Z) ?_)))))
 refine Cb (ao (hH) Z ⟨A,Cg⟩) ?_
 refine Cc Z (Cb (aA Z Z) (Cb (aA Z Z) ?_))
 refine aN (T:=28) Z (ltN Z) (fun b6 => ?_)
 refine az 0 Z Z Z Z Z (leN Z) Z (Cd Z (Cf (aa (ae (ae (ai (Cc Z (Cb (sF X (ek Z Z)) (Cf ?_)))))))))
 refine aa (aD Z (ay (aa (ae (ai (Cc Z ?_))))))
 refine Cb (ao (hC) Z ⟨A,Cg⟩) ?_
 refine Cc Z (Cb (aA Z Z) (Cb (aA Z Z) ?_))
 refine aN (T:=28) Z (ltN Z) (fun b8 => ?_)
 refine az 0 Z Z Z Z Z (leN Z) Z (Cd Z (Cf (aa (ae (ae (ai (Cc Z (Cb (sF X (ek Z Z)) (Cf ?_)))))))))
 refine aa (aD Z (ay (aa (ae (ai (Cc Z (Cb (a9 Z) ?_)))))))
 refine cA l.length l.length Z Z Z Z (Nat.le_refl _) Z Z X Z Z (fun bC => ?_)
 refine Cd Z (Cf (aa (ae (ae (ai (Cc Z (Cb (a9 Z) (Cc Z (Cf ?_)))))))))
 refine aa (aw (cv (Γ' := [(4,_),(5,_),(6,_),(8,_),(9,_),(33,_),(34,_),(35,_)]) BW (SubM.refl _) ?_))
 refine bO (σ:=Nat) (Γk := [(4,_),(5,_),(6,_),(8,_),(9,_),(33,_),(34,_)]) BW (fun i => [(35,one (.int .i64 (i:Nat)))]) (fun i M0=>(M0.set 0 (aH (some bC) 47 .one l.length l.length (fun q=>one (.int .u64 ((if q<i then (l.getD q (0,0)).1 else 0:Nat))))))) (fun i=>i≤l.length) (fun i=>l.length - i) (0) (Nat.zero_le _) BX (.keep Ca (.keep Ca (.keep Ca (.keep Ca (.keep Ca (.nil)))))) (fun i hi => ?_)
 refine cg (Γ' := [(35,_),(4,_),(5,_),(6,_),(8,_),(9,_),(33,_),(34,_)]) (M' := [_,_,_,_,_]) Z Z ?_
 by_cases hc:i<l.length
 ·refine ae (ai (Cb (sT X (bD Z Z)) (Cf (aa (ae (aM Z (ay (aa (ae ?_)))))))))
  refine aw (ae (ai (Cc Z (Cb (aI Z Z X) (Cb (aY Z) ?_)))))
  refine bZ (T:=50) Z Z Z (fun b11 => ?_)
  refine Cd Z (bX 0 Z Z Z Z (Cf (aa (ai (Cc Z (Cc Z (Cb (aj Z) (Cb (am 0 Z Z Z) (Cb (ar Z Z X) ?_)))))))))
  (refine au 1 Z Z Z ?_ Z ?_;omega)
  refine Cf (aK (aa (ai (Cb (bU _ 1 Z Z X) (Cc Z (Cf ?_))))))
  refine aX (i+1) X X BX (.drop (.keep (zP) (.keep Ca (.keep Ca (.keep Ca (.keep Ca (.nil)))))))
 ·refine iW (ConvM.le (zQ Z X)) ?_
  refine iX [_] (List.Perm.refl _) (EntM.refl _) (uE.set (t:=9) Z (Bl (um l) List.mem_cons_self)) ?_
  by_cases hq:(b:Int)+(b:Int)<P
  ·rw [if_pos hq] at hx he
   subst hx he
   rw [decide_eq_true hq] at hE
   refine ae (ai (Cb (sF X (bD Z Z)) (Cf (aa (ae (aD Z (a8 (ax (ax ?_)))))))))
   refine aL (aa (ae (ae (ai (Cc Z (Cb (am 1 Z Z Z) ?_))))))
   refine Cb (ao (hE) Z ⟨A,A,Cg⟩) ?_
   refine Cb (c8 Z) (Cf (aa (aD Z (ay (aa (ae (ai (Cb (am 0 Z Z Z) (az 2 Z Z Z Z Z (leN Z) Z ?_)))))))))
   refine Cd Z (Cf (aa (aG ?_)))
   refine db Tryz.results25 (.cellB 2 Z Z Z A) (.tmp Z A)
  ·rw [if_neg hq] at hx he
   subst hx he
   rw [decide_eq_false hq] at hE
   refine ae (ai (Cb (sF X (bD Z Z)) (Cf (aa (ae (aD Z (a8 (ax (ax ?_)))))))))
   refine aL (aa (ae (ae (ai (Cc Z (Cb (am 1 Z Z Z) ?_))))))
   refine Cb (ao (hE) Z ⟨A,A,Cg⟩) ?_
   refine Cb (c8 Z) (Cf (aa (aM Z (ae (ai (stB Z Z Z (BuildK.nil (az 2 Z Z Z Z Z (leN Z) Z (Cd Z ?_)))))))))
   refine Cf (aa (aG (aJ ?_)))
   refine db Tryz.results25 (.cellB 2 Z Z Z (ie)) (.tmp Z A)
end Tor
end
section
namespace Tor
open Go Go.RowKit Go.Proofs
variable [Tor.Co.Kc]
def fc (c:Nat) (l:List Int):Nat→Nat→Int:=fun i j=>l.getD (i*c+j) 0
def IN (r c:Nat) (l:List Int):VT:=cr r c (fc c l)
theorem yd {l:List Int} (h:(l.all fun x=>decide (-9223372036854775808≤x) && decide (x≤9223372036854775807))=true) : ∀ x∈l, -9223372036854775808≤x∧x≤9223372036854775807:=fun x hx=>by
 have:=List.all_eq_true.1 h x hx
 simpa using this
theorem uo (r c:Nat) (l:List Int) (hr:r≤1048576) (hc:c≤1048576) (h:(l.all fun x=>decide (-9223372036854775808≤x) && decide (x≤9223372036854775807))=true):Ok Tryz.prog 39 [one (.int .i64 r),one (.int .i64 c),jE .i64 l] (IN r c l):=xo r c l hr hc (yd h)
theorem zR (r c:Nat) (hr:r≤1048576) (hc:c≤1048576):Ok Tryz.prog 35 [one (.int .i64 r),one (.int .i64 c)] (cr r c (fun _ _=>0)):=(kV r c hr hc).ok fun s=>qY _ s
end Tor
end
section
namespace Tor
open Go Go.RowKit
inductive Pg (p:Program) : {α:Type} → Sem α→α→Prop
 | pure {α : Type} (a : α) : Pg p (.pure a) a
 | program {α : Type} {k : Program → Sem α} {v : α} : Pg p (k p) v → Pg p (.program k) v
theorem Pg.bind {p:Program} {α β:Type} {s:Sem α} {a:α} {f:α→Sem β} {b:β} (h:Pg p s a) (k:Pg p (f a) b):Pg p (s >>= f) b:=by
 show Pg p (s.bind f) b
 induction h with
 | pure a => exact k
 | program _ ih => exact .program (ih k)
theorem Pg.plain {p:Program} {α:Type} {s:Sem α} {a:α} (h:Pg p s a):Co.Plain p s:=by
 induction h with
 | pure a => exact .pure a
 | program _ ih => exact .program ih
theorem Pg.run {p:Program} {α:Type} {s:Sem α} {a:α} (h:Pg p s a) (w:World):s.run p w = .ok a w:=by
 induction h with
 | pure a => rfl
 | program _ ih => exact ih
section
variable [Tor.Co.Kc] {P:Program}
theorem me:Pg P program P := .program (.pure P)
theorem sY {T:TypeId} {d:TypeDesc} (h:P.underlying T=some d):Pg P (underlying T) d:=by
 refine Pg.bind me ?_
 rw [h]; exact .pure d
theorem up {T:TypeId} [hL:LayOf P T .one] {c:Array Value} {o:Nat} {x:Value} (h:c[o]? = some x):Pg P (part T c o) x:=by
 obtain ⟨d,hd,hl⟩:=hL.und
 have ha:Pg P (isAgg T) false:=by
  refine Pg.bind (sY hd) ?_
  cases d <;> first | exact .pure _ | (simp [yt,Lay.isAgg] at hl)
 refine Pg.bind ha ?_
 rw [if_neg U,h]; exact .pure x
theorem pN {T:TypeId} {k:IntKind} [h:IntOf P T k] (d:Nat) (a b:Int):Pg P (Op.equalIn (d+1) T (.int k a) (.int k b)) (a == b):=by
 unfold Op.equalIn
 refine Pg.bind (sY h.und) ?_
 dsimp only
 rw [if_pos Z]; exact .pure _
class PairOf (P:Program) (T:TypeId) (k:outParam IntKind):Prop where
 ex : ∃ f0 f1:Field,P.underlying T=some (.struct #[f0,f1])∧(f0.name ≠ "_" ∧ f1.name ≠ "_")∧(f0.offset=0∧f1.offset=1)∧(IntOf P f0.type k∧IntOf P f1.type k)∧(LayOf P f0.type .one∧LayOf P f1.type .one)
 held:P.stoodInHeld T=false
 guard:P.eqGuardType P.depth T=false
theorem PairOf.by_info {T t0 t1:TypeId} {k:IntKind} [i0:IntOf P t0 k] [i1:IntOf P t1 k] [l0:LayOf P t0 .one] [l1:LayOf P t1 .one] (h:qn P T=some [(true,0,t0),(true,1,t1)]) (h1:P.stoodInHeld T=false) (h2:P.eqGuardType P.depth T=false):PairOf P T k where
 ex:=by
  unfold qn at h
  split at h
  ·rename_i fs hu
   obtain ⟨l⟩:=fs
   simp only [Option.some.injEq] at h
   match l,h with
   | [f0, f1], h =>
    simp only [List.map_cons,List.map_nil,List.cons.injEq,Prod.mk.injEq,bne_iff_ne,ne_eq,and_true] at h
    obtain ⟨⟨a1,a2,a3⟩,b1,b2,b3⟩:=h
    subst a3 b3
    exact ⟨f0,f1,hu,⟨a1,b1⟩,⟨a2,b2⟩,⟨i0,i1⟩,l0,l1⟩
   | [], h => simp at h
   | [_], h => simp at h
   | _ :: _ :: _ :: _, h => simp at h
  ·cases h
 held:=h1
 guard:=h2
theorem zS {T:TypeId} {k:IntKind} [hQ:PairOf P T k] (a0 a1 b0 b1:Int):Pg P (Op.equal T (.agg #[.int k a0, .int k a1]) (.agg #[.int k b0, .int k b1])) (a0 == b0 && a1 == b1):=by
 obtain ⟨f0,f1,hU,⟨n0,n1⟩,⟨o0,o1⟩,⟨i0,i1⟩,l0,l1⟩:=hQ.ex
 have hh:=hQ.held
 show Pg P (Op.equalIn (9998+1+1) T _ _) _
 unfold Op.equalIn
 refine Pg.bind (sY hU) ?_
 dsimp only
 refine Pg.bind me ?_
 rw [hh]
 have e0 : ∀ (x y z:Value),Pg P (part f0.type #[x,y] f0.offset) x:=fun x y z=>up (by rw [o0]; rfl)
 have e1 : ∀ (x y z:Value),Pg P (part f1.type #[x,y] f1.offset) y:=fun x y z=>up (by rw [o1]; rfl)
 have c0:Pg P (do Op.equalIn (9998+1) f0.type (← part f0.type #[.int k a0, .int k a1] f0.offset) (← part f0.type #[.int k b0, .int k b1] f0.offset)) (a0 == b0) :=
  (e0 _ _ undef).bind ((e0 _ _ undef).bind (pN 9998 a0 b0))
 have c1:Pg P (do Op.equalIn (9998+1) f1.type (← part f1.type #[.int k a0, .int k a1] f1.offset) (← part f1.type #[.int k b0, .int k b1] f1.offset)) (a1 == b1) :=
  (e1 _ _ undef).bind ((e1 _ _ undef).bind (pN 9998 a1 b1))
 simp [n0,n1]
 refine Pg.bind (e0 _ _ undef) (Pg.bind (e0 _ _ undef) (Pg.bind (pN 9998 a0 b0) ?_))
 cases (a0 == b0) with
 | false => exact .pure false
 | true =>
  refine Pg.bind (a:=ForInStep.yield (none,())) (.pure _) ?_
  dsimp only
  refine Pg.bind (a:=if (a1 == b1)=false then (some false,()) else (none,())) (Pg.bind (e1 _ _ undef) (Pg.bind (e1 _ _ undef) (Pg.bind (pN 9998 a1 b1) ?_))) ?_
  ·cases (a1 == b1) with
   | false => exact .pure _
   | true => exact .pure _
  ·cases (a1 == b1) with
   | false => exact .pure false
   | true => exact .pure true
section
variable {E:Env} {Γ:Ctx} {M:Mem}
theorem ye {dd:Option Tmp} {ty:TypeId} {pos:String} {af:Array Edge} {gd:Option (Nat × Bool)} {T T':TypeId} {k:IntKind} [hQ:PairOf P T k] {x y:Operand} {a0 a1 b0 b1:Int} {ρ:Operand→Value} (hx:ρ x = .agg #[.int k a0, .int k a1]) (hy:ρ y = .agg #[.int k b0, .int k b1]) :
  Pg P (execOp ρ ⟨dd, .binOp .eql T x y T',ty,pos,af,gd⟩) (.value (.bool (a0 == b0 && a1 == b1))):=by
 have hg:=hQ.guard
 have h1:Pg P (eqGuard .eql T x y (.agg #[.int k a0, .int k a1]) (.agg #[.int k b0, .int k b1])) ():=by
  unfold eqGuard
  refine Pg.bind me (Pg.bind me ?_)
  rw [hg]; exact .pure ()
 have h2:Pg P (binOp .eql T (.agg #[.int k a0, .int k a1]) (.agg #[.int k b0, .int k b1])) (.bool (a0 == b0 && a1 == b1)):=Pg.bind (zS a0 a1 b0 b1) (.pure _)
 unfold execOp
 dsimp only
 rw [hx,hy]
 exact Pg.bind (Pg.bind h1 h2) (.pure _)
theorem iD {k:IntKind} {a0 a1:Int} {v:Value} {h:Hp} (H:(bE 2 [(0, .one,one (.int k a0)),(1, .one,one (.int k a1))]).p v h):v = .agg #[.int k a0, .int k a1]:=by
 obtain ⟨c,rfl,hs,_,hc⟩:=H
 obtain ⟨x0,h0,e0⟩:=hc (0, .one,one (.int k a0)) (by simp)
 obtain ⟨x1,h1,e1⟩:=hc (1, .one,one (.int k a1)) (by simp)
 have e0:x0 = .int k a0:=e0
 have e1:x1 = .int k a1:=e1
 subst e0 e1
 have h0:c[0]? = some _:=h0
 have h1:c[1]? = some _:=h1
 congr 1
 apply Array.ext_getElem?
 intro j
 rcases j with _ | _ | j
 ·rw [h0]; rfl
 ·rw [h1]; rfl
 ·rw [Array.getElem?_eq_none X,Array.getElem?_eq_none (by simp)]
theorem Bm {dd:Option Tmp} {ty:TypeId} {pos:String} {af:Array Edge} {gd:Option (Nat × Bool)} {T T':TypeId} {k:IntKind} [hQ:PairOf P T k] {x y:Operand} {a0 a1 b0 b1:Int}
  (hx:aB Γ x=some (bE 2 [(0, .one,one (.int k a0)),(1, .one,one (.int k a1))])) (hy:aB Γ y=some (bE 2 [(0, .one,one (.int k b0)),(1, .one,one (.int k b1))])) :
  aC P E Γ M ⟨dd, .binOp .eql T x y T',ty,pos,af,gd⟩ (one (.bool (a0 == b0 && a1 == b1))) :=
 aC.ofRun (hp:=fun ac w hb hf _=>(ye (iD (hf x _ (by simp [Op.operands]) hx)) (iD (hf y _ (by simp [Op.operands]) hy))).plain) fun ac w hb hf =>
  ⟨_,(ye (iD (hf x _ (by simp [Op.operands]) hx)) (iD (hf y _ (by simp [Op.operands]) hy))).run w,rfl⟩
end
end
end Tor
end
section
namespace Tor
open Go Go.RowKit Go.Proofs
theorem uq {a:Nat × Nat} {φ:VT} (h:VT.le φ (jD a)):VT.le (slT (.agg 2) 1 (fun _=>φ)) (ia [a]):=fL fun q hq=>by
 match q,hq with
 | 0, _ => exact h
theorem yf {l:List (Nat × Nat)} (h:(l.all fun p=>decide (p.1<18446744073709551616) && decide (p.2<18446744073709551616))=true):mV l:=fun p hp=>by
 have:=List.all_eq_true.1 h p hp
 simpa using this
theorem zT {a b:Nat × Nat} {φ ψ:VT} (h:VT.le φ (jD a)) (h':VT.le ψ (jD b)):VT.le (slT (.agg 2) 2 (fun q => [ψ, φ].reverse.getD q bQ)) (ia [a,b]):=fL fun q hq=>by
 match q,hq with
 | 0, _ => exact h
 | 1, _ => exact h'
theorem BN:Lin.Pr 5:=Lin.Pr.of_trial U (w5 (k:=2) U U)
attribute [local irreducible] J PJ aC one slT bL bE bw exT cj eP aT aH slV VT.le Ret bQ dz ed
attribute [local irreducible] aU ei
theorem zU (r c:Nat) (F:Nat→Nat→Int) (h:r≠c):Ok Tryz.prog 40 [cr r c F] (bw [aU 0,one (.int .i64 50)]):=by
 have hH:=pL r c F h
 refine Ok.enterX Tryz.func40 Z Tryz.ntmps40 Z (fun w O => ?_)
 refine JX.seq ⟨.inl Z,by kernel_rfl⟩ ?_
 refine ai ?_
 refine bJ Z Z (ltN Z) (fun b1 => ?_)
 refine aN (T:=28) Z (ltN Z) (fun b2 => ?_)
 refine Cd Z (Cf (sW ?_))
 refine JX.seq ⟨.inl Z,by kernel_rfl⟩ ?_
 refine ai (Cb (bI 1 Z Z) ?_)
 refine Cb (ao (hH) Z ⟨A,Cg⟩) ?_
 refine Cc Z (Cb (aA Z Z) (Cb (aA Z Z) ?_))
 refine aN (T:=28) Z (ltN Z) (fun b4 => ?_)
 refine az 0 Z Z Z Z Z (leN Z) Z (Cd Z (Cf (sW ?_)))
 refine JX.seq ⟨.inl Z,by kernel_rfl⟩ ?_
 refine ae (ai (Cc Z (Cb (sT X (ek Z Z)) (Cf (aa (aM Z (ae (ai (stB Z Z Z ?_)))))))))
 refine BuildK.nil (Cc Z (az 1 Z Z Z Z Z (leN Z) Z (Cd Z (Cf (aa (aG (aJ ?_)))))))
 refine db Tryz.results40 (.cellB 1 Z Z Z (ie)) (.tmp Z A)
structure DetG (n:Nat) (F:Nat→Nat→Int) (B:Nat):Prop where
 n12:n≤12
 m4 : ∀ i j,gS (F i j)
 B1:1≤B
 Bn:B^n<2^598
 len : ∀ i,i<n→eH n (F i)≤B
theorem vL (n:Nat) (F:Nat→Nat→Int) (B:Nat) (h:DetG n F B) (hs:cf (Lin.bY n F)):Ok Tryz.prog 17 [cr n n F] (bw [aU (Lin.bY n F),one (.bool true)]):=by
 have hd:=sX n F B h.n12 h.m4 h.B1 h.Bn h.len
 have hv:=se _ hs
 refine Ok.enter Tryz.func17 Z Tryz.ntmps17 Z (fun w O => ?_)
 refine ae (ai ?_)
 refine bJ Z Z (ltN Z) (fun b1 => ?_)
 refine aN (T:=28) Z (ltN Z) (fun b2 => ?_)
 refine Cd Z (Cf (aa (ae (ai (Cb (bI 1 Z Z) ?_)))))
 refine Cb (ao (hd) Z ⟨A,Cg⟩) ?_
 refine Cc Z (Cb (aA Z Z) (Cb (aA Z Z) ?_))
 refine aN (T:=28) Z (ltN Z) (fun b4 => ?_)
 refine az 0 Z Z Z Z Z (leN Z) Z (Cd Z (Cf (aa (ae ?_))))
 refine yE [⟨2,b2,28,Lay.agg 2⟩] [_] [_,_] bH Y Z ((qe 1 Z).trans (.cons _ (List.Perm.refl _))) Z (And.intro Z (trivial)) ?_
 refine ux (fun B=>am 0 Z Z Z) Z Z ?_
 refine ux (fun B=>ab Z) Z Z ?_
 refine ux (fun B=>sT X (cQ Z Z)) Z Z ?_
 refine ux (fun B=>ab Z) Z Z ?_
 refine ug1 Z Z (fun B=>am 0 Z Z Z) Z Z ?_
 refine ugk Z Z (hv) Z ⟨A,Cg⟩ Z ?_
 refine ux (fun B=>bh Z Z) Z Z ?_
 refine us Z ?_
 refine ux (fun B=>ah Z) Z Z ?_
 refine RunU.nil ⟨And.intro Z (And.intro Z (trivial)),?_⟩
 refine er (M' := [_,_,_]) Z (aa (aG ?_))
 refine db Tryz.results17 (.cellB 0 Z Z Z A) (.tmp Z A)
end Tor
namespace Tor
open Go Go.RowKit Go.Proofs
theorem ur {l:List Int} {B:Nat} (h:(l.all fun x=>decide (x.natAbs≤B))=true) (n:Nat):(l.getD n 0).natAbs≤B:=by
 rw [List.getD_eq_getElem?_getD]
 cases e:l[n]? with
 | none => exact Nat.zero_le _
 | some x => exact of_decide_eq_true (List.all_eq_true.1 h x (List.mem_of_getElem? e))
theorem Bo {p r:Nat} : VT.le (one (.agg #[.int .u64 (p:Nat), .int .u64 (r:Nat)])) (jD (p,r)):=fun v h e=>by
 have e':v = .agg #[.int .u64 (p:Nat), .int .u64 (r:Nat)]:=e
 subst e'
 unfold jD
 refine ⟨_,rfl,rfl,by simp [Value.oneCell'],fun q hq => ?_⟩
 rcases List.mem_cons.1 hq with rfl | hq
 ·exact ⟨_,rfl,rfl⟩
 rcases List.mem_cons.1 hq with rfl | hq
 ·exact ⟨_,rfl,rfl⟩
 cases hq
theorem mf {p r:Nat} : VT.le (bE 2 (kf (kf (dJ #[Value.int .u64 0,Value.int .u64 0] [(0,Lay.one),(1,Lay.one)]) 0 (one (.int .u64 (p:Nat)))) 1 (one (.int .u64 (r:Nat))))) (jD (p,r)):=VT.le_refl _
theorem rB (l:List Int):VT.le (slT .one l.length (fun q=>(l.map fun x=>one (.int .i64 x)).getD q bQ)) (jE .i64 l):=by
 refine fL fun i hi => ?_
 simp only [List.getD,List.getElem?_map,List.getElem?_eq_getElem hi,Option.map_some,Option.getD_some]
 exact VT.le_refl _
instance:PairOf Tryz.prog 50 .u64:=PairOf.by_info (t0:=47) (t1:=47) Y Y Y
attribute [local irreducible] J PJ aC one slT bL bE bw exT cj eP aT aH slV VT.le Ret bQ dz ed
attribute [local irreducible] aU ei cr
set_option maxRecDepth 20000 in
theorem lT:Ok Tryz.prog 10 [] (one (.bool true)):=by
 have b4 : ∀ i j,(fc 2 [1,2,3,4] i j).natAbs≤4:=fun i j=>ur U _
 have b2 : ∀ i j,(fc 2 [1,2] i j).natAbs≤4:=fun i j=>ur U _
 have m4 : ∀ i j,gS (fc 2 [1,2,3,4] i j):=fun i j=>Nat.le_trans (b4 i j) V
 have i1:Ok Tryz.prog 39 [one (.int .i64 (2:Nat)),one (.int .i64 (2:Nat)),jE .i64 [1,2,3,4]] (cr 2 2 (fc 2 [1,2,3,4])):=uo 2 2 [1,2,3,4] U U U
 have i2:Ok Tryz.prog 39 [one (.int .i64 (1:Nat)),one (.int .i64 (2:Nat)),jE .i64 [1,2]] (cr 1 2 (fc 2 [1,2])):=uo 1 2 [1,2] U U U
 have i3:=zR 0 0 U U
 have hl : ∀ i,i<2→eH 2 (fc 2 [1,2,3,4] i)≤25:=by decide +kernel
 have d1:=sX 2 (fc 2 [1,2,3,4]) 25 U m4 U V hl
 rw [show Lin.bY 2 (fc 2 [1,2,3,4]) = -2 by decide +kernel] at d1
 have d2:=sX 0 (fun _ _=>0) 1 U (fun _ _=>Nat.zero_le _) U V (fun i hi=>absurd hi (Nat.not_lt_zero _))
 rw [show Lin.bY 0 (fun _ _=>0)=1 by decide +kernel] at d2
 have d3:=zU 1 2 (fc 2 [1,2]) U
 have r1:=nl 5 2 (fc 2 [1,2,3,4]) V U U (Pr.invP BN) (fun i j=>cM (m4 i j)) U
 rw [show iC 2 (fc 2 [1,2,3,4]) 5=3 by decide +kernel] at r1
 have r1':Ok Tryz.prog 21 [cr 2 2 (fc 2 [1,2,3,4]),one (.int .u64 ((5:Nat):Int))] (bw [bE 2 [(0, .one,one (.int .u64 ((5:Nat):Int))),(1, .one,one (.int .u64 ((3:Nat):Int)))],one (.int .i64 0)]):=r1.le (gl _) (pg Bo A)
 clear r1
 have r2:=rg 4 2 (fc 2 [1,2,3,4]) V U
 have hup:upN (prN 2 (jf 2 2 (fc 2 [1,2,3,4])))=12:=by decide +kernel
 have c1:=lS 2 (fc 2 [1,2,3,4]) 25 12 [(5,3),(7,5)] U m4 U V hl hup (by show (12:Int).natAbs≤2^400;decide +kernel) (yf Z) U V (-2) V 0 V
 have c2:=lS 2 (fc 2 [1,2,3,4]) 25 12 [(5,3)] U m4 U V hl hup (by show (12:Int).natAbs≤2^400;decide +kernel) (yf Z) U V 0 V 200 V
 have c3:=pM 2 (fc 2 [1,2,3,4]) 25 [(5,5)] U m4 U V hl (yf Z) V
 have o1:=fN (-2) U U
 have o2:=fN 1 U U
 refine Ok.enter Tryz.func10 Z Tryz.ntmps10 Z (fun w O => ?_)
 refine ae (ai (Cd Z (Cf (aa (ae (ai (stS Z Z Z Z (PartsK.cons Z (PartsK.cons Z ?_)))))))))
 refine PartsK.cons Z (PartsK.cons Z (PartsK.nil ?_))
 refine Cb (ao (i1) Z ⟨A,A,(rB [1,2,3,4]),Cg⟩) ?_
 refine bZ (T:=35) Z Z Z (fun b1 => ?_)
 refine p9 0 Z Z Z Z (Cf (aa (ae (ai (Cb (am 0 Z Z Z) ?_)))))
 refine Cb (ao (d1) Z ⟨A,Cg⟩) ?_
 refine Cc Z (Cb (aA Z Z) (Cb (aA Z Z) ?_))
 refine aN (T:=28) Z (ltN Z) (fun b2 => ?_)
 refine az 0 Z Z Z Z Z (leN Z) Z (Cd Z (Cf (aa (ae (ai ?_)))))
 refine Cb (ao (i3) Z ⟨A,A,Cg⟩) ?_
 refine Cb (ao (d2) Z ⟨A,Cg⟩) ?_
 refine Cc Z (Cb (aA Z Z) (Cb (aA Z Z) ?_))
 refine aN (T:=28) Z (ltN Z) (fun b4 => ?_)
 refine az 0 Z Z Z Z Z (leN Z) Z (Cd Z (Cf (aa (ae (ai (stS Z Z Z Z (PartsK.cons Z (PartsK.cons Z (PartsK.nil ?_)))))))))
 refine Cb (ao (i2) Z ⟨A,A,(rB [1,2]),Cg⟩) ?_
 refine Cb (ao (d3) Z ⟨A,Cg⟩) ?_
 refine Cc Z (Cb (aA Z Z) (Cb (aA Z Z) ?_))
 refine aN (T:=28) Z (ltN Z) (fun b6 => ?_)
 refine az 0 Z Z Z Z Z (leN Z) Z (Cd Z (Cf (aa (ae (ai (Cb (am 3 Z Z Z) ?_))))))
 refine Cb (ao (r1') Z ⟨A,A,Cg⟩) ?_
 refine Cc Z (Cb (aA Z Z) (Cb (aA Z Z) ?_))
 refine bZ (T:=50) Z Z Z (fun b8 => ?_)
 refine bX 0 Z Z Z Z (Cd Z (Cf (aa (ae (ai (Cb (am 4 Z Z Z) ?_))))))
 refine Cb (ao (r2) Z ⟨A,A,Cg⟩) ?_
 refine Cc Z (Cb (aA Z Z) (Cb (aA Z Z) ?_))
 refine bZ (T:=50) Z Z Z (fun b10 => ?_)
 refine p9 0 Z Z Z Z (Cd Z (Cf (aa (ae (ai (Cb (am 5 Z Z Z) (stB Z Z Z (BuildK.cons Z Z Z (BuildK.cons Z Z Z ?_)))))))))
 refine BuildK.nil (stB Z Z Z (BuildK.cons Z Z Z (BuildK.cons Z Z Z (BuildK.nil (stS Z Z Z Z (PartsK.cons Z (PartsK.cons Z (PartsK.nil ?_))))))))
 refine Cb (ao (c1) Z ⟨A,(zT mf mf),Cg⟩) ?_
 refine Cc Z (Cb (aA Z Z) (Cb (aA Z Z) ?_))
 refine aN (T:=28) Z (ltN Z) (fun b12 => ?_)
 refine az 0 Z Z Z Z Z (leN Z) Z (Cd Z (Cf (aa (ae (ai (Cb (am 6 Z Z Z) (stB Z Z Z (BuildK.cons Z Z Z (BuildK.cons Z Z Z ?_)))))))))
 refine BuildK.nil (my Z Z Z Z ?_)
 refine Cb (ao (c2) Z ⟨A,(uq mf),Cg⟩) ?_
 refine Cc Z (Cb (aA Z Z) (Cb (aA Z Z) ?_))
 refine aN (T:=28) Z (ltN Z) (fun b14 => ?_)
 refine az 0 Z Z Z Z Z (leN Z) Z (Cd Z (Cf (aa (ae (ai (Cb (am 7 Z Z Z) (stB Z Z Z (BuildK.cons Z Z Z (BuildK.cons Z Z Z ?_)))))))))
 refine BuildK.nil (my Z Z Z Z ?_)
 refine Cb (ao (c3) Z ⟨A,(uq mf),Cg⟩) ?_
 refine Cc Z (Cb (aA Z Z) (Cb (aA Z Z) ?_))
 refine aN (T:=28) Z (ltN Z) (fun b16 => ?_)
 refine az 0 Z Z Z Z Z (leN Z) Z (Cd Z (Cf (aa (ae (ai (Cc Z (Cb (sT X (cQ Z Z)) (Cc Z (Ce (ab Z) ?_)))))))))
 refine Ce (sT X (cQ Z Z)) (Cb (bh Z Z) (Cc Z (Ce (ab Z) (Ce (sT X (cQ Z Z)) (Cb (bh Z Z) (Cc Z (Ce (ab Z) (Ce (sT X (cQ Z Z)) (Cb (bh Z Z) ?_)))))))))
 refine Cc Z (Ce (ab Z) (Ce (sT X (cQ Z Z)) (Cb (bh Z Z) (Cc Z (Ce (ab Z) (Ce (sT X (cQ Z Z)) (Cb (bh Z Z) (Cc Z (Ce (ab Z) ?_)))))))))
 refine Ce (sT X (cQ Z Z)) (Cb (bh Z Z) (Cc Z (Ce (ab Z) (Ce (sT X (cQ Z Z)) (Cb (bh Z Z) (Cd Z (Cf (aa (ae ?_)))))))))
 refine bG 21 bH Y U (Cc Z (Cc Z (Ce (am 7 Z Z Z) ?_)))
 refine Ce (ao (o1) Z ⟨A,Cg⟩) ?_
 refine Ce (sT X (ao (kH _ _) Z ⟨A,A,Cg⟩)) ?_
 refine Cb (bh Z Z) (Cc Z (Ce (am 6 Z Z Z) ?_))
 refine Ce (ao (o2) Z ⟨A,Cg⟩) ?_
 refine Ce (sT X (ao (kH _ _) Z ⟨A,A,Cg⟩)) ?_
 refine Cb (bh Z Z) (Cc Z (Ce (bI 4 Z Z) (BK Z Z Z Z Z (BuildK.cons Z Z Z (BuildK.cons Z Z Z (BuildK.nil (Ce (Bm Z Z) (Cb (bh Z Z) (Cc Z ?_)))))))))
 refine Ce (am 2 Z Z Z) ?_
 refine Ce (ao (o1) Z ⟨A,Cg⟩) ?_
 refine Ce (sT X (ao (kH _ _) Z ⟨A,A,Cg⟩)) ?_
 refine Cb (bh Z Z) (Cf (Cd Z (Cf (aa (aG ?_)))))
 refine aV Tryz.results10 (.tmp Z A)
end Tor
end
section
namespace Tor
open Go Go.Conc Go.RowKit
def oy [Co.Kc] (P:Program) (f:FuncId) (φs:List VT) (ψ:VT):Prop := ∀ (w:World) (O:List Nat) (vs:List Value),(∀ b∈O,b<w.heap.size)→fb φs vs (hid O (view w)) →
 ∃ fn c,P.funcs[f]? = some fn∧fn.body=some c∧Co.WpX P none c (Co.bodyX P fn (Ret O ψ w)) { tmps:=vs.toArray ++ Array.replicate (fn.ntmps - vs.toArray.size) undef,defers := [] } w
theorem oy.enter [Co.Kc] {P:Program} {f:FuncId} {fn:Func} {c:Code} {N:Nat} {φs:List VT} {ψ:VT} (hf:P.funcs[f]? = some fn) (hb:fn.body=some c) (hN:fn.ntmps=N) (hle:Nat.ble φs.length N=true)
  (h : ∀ (w:World) (O:List Nat),J P ⟨w,O, [],N,none⟩ [] (fK 0 φs) [] c (cG P fn (Ret O ψ w))) (hpl:cU c=true:=by kernel_rfl):oy P f φs ψ:=fun w O vs hO hv'=>by
 have hl:=gX hv'
 have hle':=Nat.le_of_ble_eq_true hle
 refine ⟨fn,c,hf,hb,h w O _ w ⟨⟨by simp,by simp,by simp,by simp,?_,Fr.refl _ _⟩,?_,rfl,?_⟩ ⟨.inl Z,hpl⟩⟩
 ·intro b hb';exact hO b (by simpa using hb')
 ·simp [hN]; omega
 ·intro t φ e
  obtain ⟨v,_,h2,h3⟩:=eM e hv'
  have h4:hv ⟨w,O, [],N,none⟩ [] w=hid O (view w):=by simp [hv]
  rw [h4]
  rw [Nat.sub_zero] at h2
  have hlt:=(List.getElem?_eq_some_iff.1 h2).1
  rw [Array.getD_eq_getD_getElem?,Array.getElem?_append_left (by simpa using hlt)]
  simpa [h2] using h3
def ut:Obj→Obj
 | .cells c e f => .cells c e f
 | _ => Co.dum
def isC:Obj→Prop
 | .cells .. => True
 | _ => False
theorem rC {P:Program} {ty:TypeId} {T:Co.Piece} (hT:Co.PieceOk P ty T) {f:FuncId} {φs:List VT} {x:Value} (hi:P.inits.idxOf? f=none) (h : @oy (Co.pieceK T) P f φs (one x)) {args:Array Value} {W:World} (hp:fb φs args.toList (view W)) :
  Co.Ends P (solo (G (Frame.enter P f args .normal) []) W) #[] (fun v W'=>v=x∧Below W.heap.size W W'):=by
 classical
 let ĝ : World := { W with heap:=W.heap.map ut }
 have hg : ∀ b:Nat, ĝ.heap[b]? = (W.heap[b]?).map ut:=fun b=>by show (W.heap.map ut)[b]? = _;simp
 let F₀:Nat→Prop:=fun b => ∃ o,W.heap[b]? = some o ∧ ¬ isC o
 have hle:Hp.le (view W) (view ĝ):=fun b y e=>by
  obtain ⟨c,T',f'⟩:=y
  have:=dS e
  exact fR (by rw [hg,this]; rfl)
 have hp':fb φs args.toList (hid [] (view ĝ)):=by
  have e:hid [] (view ĝ)=view ĝ := by funext b;simp [hid]
  rw [e]; exact eI hle hp
 obtain ⟨fn,c,hf,hb,hw⟩:=h ĝ [] args.toList (fun b hb=>by cases hb) hp'
 have ea:args.toList.toArray=args:=by simp
 rw [ea] at hw
 letI:Co.Kc:=Co.pieceK T
 have hgo:=Co.top_at (args:=args) (w := ĝ) (R:=fun v w'=>v=x∧Ext ĝ w') hf hb hi (Co.wpX_mono hw fun e a' w' hq=>by
  have key : ∀ {w':World} {a':Act},(a'.defers = [] ∧ ∀ w₁,Co.Grow w' w₁ → ∃ v,(results fn a'.tmps).run P w₁ = .ok v w₁∧Ret [] (one x) ĝ (.returned v) w₁)→(a'.defers = [] ∧ ∀ w₁,Co.Grow w' w₁ → ∃ v,(results fn a'.tmps).run P w₁ = .ok v w₁∧v=x∧Ext ĝ w₁):=fun ⟨h1,h2⟩=>⟨h1,fun w₁ hw₁=>by
   obtain ⟨v,h3,v',h4,h5,h6⟩:=h2 w₁ hw₁
   cases h4
   exact ⟨v,h3,h5,h6⟩⟩
  cases e with
  | normal => exact key hq
  | ret => exact key hq
  | _ => exact hq)
 have hmsk:Co.Msk F₀ (fun _=>False) ĝ W:=by
  refine ⟨by show (W.heap.map ut).size=_;simp,rfl,rfl,rfl,rfl,fun b hb hF => ?_,fun b _ hV=>hV.elim,fun b hb hF _ => ?_⟩
  ·obtain ⟨o,h1,h2⟩:=hF
   rw [hg,h1]
   cases o with
   | cells => exact absurd trivial h2
   | _ => rfl
  ·obtain ⟨o,ho⟩ : ∃ o,W.heap[b]? = some o:=⟨_,Array.getElem?_eq_getElem hb⟩
   have hc:isC o:=Classical.byContradiction fun hn=>hF ⟨o,ho,hn⟩
   cases o with
   | cells c e f => exact ⟨_, ho, by rw [hg, ho]; rfl, rfl⟩
   | _ => exact hc.elim
 have hB:Co.BI P F₀ W (G (Frame.enter P f args .normal) []) ĝ #[G (Frame.enter P f args .normal) []] W #[] (fun _=>0) (fun _=>False) F₀ ĝ :=
  ⟨rfl,leavers_one P _,past_nil.mono (Nat.zero_le _),Co.Grow.refl _,hmsk,fun b ⟨o,h1,_⟩=>(Array.getElem?_eq_some_iff.1 h1).1,fun l hl=>hl.elim,fun b _=>rfl,fun b hb=>hb,fun b _ hb=>hb,Nat.le_refl _⟩
 obtain ⟨N,last,o,w',t',h1,h2,h3,h4⟩:=Co.law_runs (sl:=none) hT hgo hB
 refine ⟨N,last,o,w',t',h1,h2,h3,h4.mono fun v hv => ?_⟩
 obtain ⟨ĝ',F,⟨hx,hext⟩,hm,hk,hs⟩:=hv
 refine ⟨hx,hm.os.symm.trans hext.os,hm.tape.symm.trans hext.tape,hm.output.symm.trans hext.output,?_,fun b hb => ?_⟩
 ·rw [← hm.size]; have:=hext.size;rwa [show ĝ.heap.size=W.heap.size from hmsk.size] at this
 ·by_cases hF:F b
  ·exact hk b (hs b hb hF)
  ·have hF0 : ¬ F₀ b∨F₀ b:=(Classical.em _).symm
   rcases hF0 with hF0 | hF0
   ·have hb':b<w'.heap.size:=by
     have:=hext.size
     rw [show ĝ.heap.size=W.heap.size from hmsk.size,hm.size] at this
     omega
    obtain ⟨o',k1,k2,_⟩:=hm.sm b hb' hF id
    obtain ⟨o'',k3,k4,_⟩:=hmsk.sm b hb hF0 id
    have k5:=hext.block b (by rw [show ĝ.heap.size=W.heap.size from hmsk.size]; exact hb)
    rw [k2,k4] at k5
    rw [k1,k5,k3]
   ·exact hk b hF0
end Tor
end
