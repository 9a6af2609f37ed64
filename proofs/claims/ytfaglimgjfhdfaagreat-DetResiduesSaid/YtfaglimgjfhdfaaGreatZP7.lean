/-
  Theorems that the proofs of laws of this seat rest on.
  No condition.
-/
import Derived.Test.YtfaglimgjfhdfaaGreatZP6
set_option maxHeartbeats 20000000
set_option linter.unusedVariables false
set_option linter.unusedSimpArgs false
set_option linter.unusedSectionVars false
section
namespace Tor.Lin
theorem lY (x:Rat):0≤x*x:=by
 rcases Rat.le_total (a:=0) (b:=x) with h | h
 ·exact Rat.mul_nonneg h h
 ·have:=Rat.mul_nonneg (a := -x) (b := -x) (by grind) (by grind)
  grind
theorem xP {a b c d:Rat} (h:0≤a) (h1:a≤b) (h2:0≤c) (h3:c≤d):a*c≤b*d:=by
 have e1:=Rat.mul_le_mul_of_nonneg_left (c:=c) h1 h2
 have e2:=Rat.mul_le_mul_of_nonneg_left (c:=b) h3 (Rat.le_trans h h1)
 grind
theorem lZ {n:Nat} {f:Nat→Rat} (h : ∀ i,i<n→0≤f i):0≤sm n f:=by
 induction n with
 | zero => exact Rat.le_refl
 | succ n ih =>
  have h1:=ih (fun i hi=>h i X)
  have h2:=h n X
  rw [sm]; grind
theorem rM {n:Nat} {f:Nat→Rat} (h : ∀ i,i<n→0≤f i) (h0:sm n f=0) : ∀ i,i<n→f i=0:=by
 induction n with
 | zero => intro i hi; omega
 | succ n ih =>
  have h1:=lZ (fun i hi=>h i (show i<n+1 by omega)) (n:=n)
  have h2:=h n X
  rw [sm] at h0
  intro i hi
  by_cases e:i=n
  ·subst e;grind
  ·exact ih (fun i hi=>h i X) (by grind) i X
theorem vS {n m:Nat} {f:Nat→Rat} (h:m≤n) (h0 : ∀ j,m≤j→j<n→f j=0):sm n f=sm m f:=by
  induction n with
  | zero => have : m = 0 := by omega
            rw [this]
  | succ n ih =>
    by_cases e:m=n+1
    · rw [e]
    · rw [sm,ih X (fun j h1 h2=>h0 j h1 X),h0 n X X,Rat.add_zero]
def dot (m:Nat) (u v:Nat→Rat):Rat:=sm m (fun k=>u k*v k)
theorem jm (m:Nat) (u v:Nat→Rat):dot m u v=dot m v u:=cA fun k _=>Rat.mul_comm _ _
theorem rN (m:Nat) (u:Nat→Rat):0≤dot m u u:=lZ fun k _=>lY _
theorem xQ {m:Nat} {u:Nat→Rat} (h:dot m u u=0) : ∀ k,k<m→u k=0:=fun k hk=>by
 have:=rM (fun i _=>lY (u i)) h k hk
 grind
def gsT (m:Nat) (Cy:Nat→Nat→Rat):Nat→Nat→Nat→Rat
 | 0 => fun _ _ => 0
 | i + 1 => fun j => if j = i then (fun k => Cy i k - sm i (fun t => dot m (Cy i) (gsT m Cy i t) / dot m (gsT m Cy i t) (gsT m Cy i t) * gsT m Cy i t k)) else gsT m Cy i j
def gsB (m:Nat) (Cy:Nat→Nat→Rat) (i:Nat):Nat→Rat:=gsT m Cy (i+1) i
def gsM (m:Nat) (Cy:Nat→Nat→Rat) (i t:Nat):Rat:=dot m (Cy i) (gsB m Cy t) / dot m (gsB m Cy t) (gsB m Cy t)
theorem xR {m:Nat} {Cy:Nat→Nat→Rat} : ∀ i j,j<i→gsT m Cy i j=gsB m Cy j
 | 0, j, h => absurd h (Nat.not_lt_zero _)
 | i + 1, j, h => by
  by_cases e:j=i
  ·rw [e]; rfl
  ·show (if j=i then _ else gsT m Cy i j)=_
   rw [if_neg e]; exact xR i j X
theorem qa (m:Nat) (Cy:Nat→Nat→Rat) (i k:Nat):gsB m Cy i k=Cy i k - sm i (fun t=>gsM m Cy i t*gsB m Cy t k):=by
 show (if i=i then (fun k=>Cy i k - sm i (fun t=>dot m (Cy i) (gsT m Cy i t) / dot m (gsT m Cy i t) (gsT m Cy i t)*gsT m Cy i t k)) else gsT m Cy i i) k=_
 rw [if_pos Z]
 show Cy i k - _=_
 congr 1
 exact cA fun t ht=>by rw [xR i t ht]; rfl
theorem nM {m n:Nat} {u v w:Nat→Rat} {f:Nat→Rat} {b:Nat→Nat→Rat} (h : ∀ k,k<m→w k=v k - sm n (fun t=>f t*b t k)):dot m u w=dot m u v - sm n (fun t=>f t*dot m u (b t)):=by
 unfold dot
 rw [cA (g:=fun k=>u k*v k - sm n (fun t=>f t*(u k*b t k))) (fun k hk=>by
  rw [h k hk]
  have:sm n (fun t=>f t*(u k*b t k))=sm n (fun t=>f t*b t k)*u k:=by
   rw [← uK]; exact cA fun t _=>by grind
  rw [this]; grind),Bv,zL]
 congr 1
 exact cA fun t _=>by
  rw [Rat.mul_comm, ← uK]; exact cA fun k _=>by grind
theorem uM (m:Nat) (Cy:Nat→Nat→Rat) (i t:Nat):gsM m Cy i t*dot m (gsB m Cy t) (gsB m Cy t)=dot m (Cy i) (gsB m Cy t):=by
 by_cases h:dot m (gsB m Cy t) (gsB m Cy t)=0
 ·have h0:=xQ h
  have e:dot m (Cy i) (gsB m Cy t)=0:=uL fun k hk=>by rw [h0 k hk]; exact Rat.mul_zero _
  rw [h,e]; exact Rat.mul_zero _
 ·unfold gsM;exact Rat.div_mul_cancel h
theorem uN (m:Nat) (Cy:Nat→Nat→Rat) : ∀ i j,j<i→dot m (gsB m Cy i) (gsB m Cy j)=0:=by
 intro i
 induction i using Nat.strongRecOn with
 | _ i ih =>
  intro j hj
  rw [jm,nM (v:=Cy i) (f:=fun t=>gsM m Cy i t) (b:=gsB m Cy) (n:=i) (fun k _=>qa m Cy i k)]
  rw [jl hj (fun t ht hne=>by
   rcases Nat.lt_trichotomy t j with h | h | h
   ·rw [ih j hj t h]; exact Rat.mul_zero _
   ·exact absurd h hne
   ·rw [jm,ih t ht j h]; exact Rat.mul_zero _),uM,jm]
  grind
theorem Bw (m:Nat) (Cy:Nat→Nat→Rat) (i k:Nat):Cy i k=gsB m Cy i k+sm i (fun t=>gsM m Cy i t*gsB m Cy t k):=by
 rw [qa]; grind
theorem zM (m:Nat) (Cy:Nat→Nat→Rat) (i:Nat):dot m (Cy i) (Cy i)=dot m (gsB m Cy i) (gsB m Cy i)+sm i (fun t=>gsM m Cy i t*gsM m Cy i t*dot m (gsB m Cy t) (gsB m Cy t)):=by
 have e1:=nM (m:=m) (u:=gsB m Cy i) (v:=Cy i) (w:=gsB m Cy i) (n:=i) (f:=fun t=>gsM m Cy i t) (b:=gsB m Cy) (fun k _=>qa m Cy i k)
 rw [uL (n:=i) (fun t ht=>by rw [uN m Cy i t ht]; exact Rat.mul_zero _)] at e1
 have e2:=nM (m:=m) (u:=Cy i) (v:=Cy i) (w:=gsB m Cy i) (n:=i) (f:=fun t=>gsM m Cy i t) (b:=gsB m Cy) (fun k _=>qa m Cy i k)
 have e3:dot m (gsB m Cy i) (Cy i)=dot m (Cy i) (gsB m Cy i):=jm _ _ _
 have e4:sm i (fun t=>gsM m Cy i t*dot m (Cy i) (gsB m Cy t))=sm i (fun t=>gsM m Cy i t*gsM m Cy i t*dot m (gsB m Cy t) (gsB m Cy t)):=cA fun t _=>by rw [← uM]; grind
 rw [e4] at e2
 grind
theorem Ce (m:Nat) (Cy:Nat→Nat→Rat) (i:Nat):dot m (gsB m Cy i) (gsB m Cy i)≤dot m (Cy i) (Cy i):=by
 have h:=zM m Cy i
 have h2:0≤sm i (fun t=>gsM m Cy i t*gsM m Cy i t*dot m (gsB m Cy t) (gsB m Cy t)):=lZ fun t _=>Rat.mul_nonneg (lY _) (rN _ _)
 grind
def pr:Nat→(Nat→Rat)→Rat
 | 0, _ => 1
 | n + 1, f => pr n f * f n
theorem nN {n:Nat} {f g:Nat→Rat} (h : ∀ i,i<n→f i=g i):pr n f=pr n g:=by
 induction n with
 | zero => rfl
 | succ n ih => rw [pr, pr, ih (fun i hi => h i X), h n X]
theorem xS (n:Nat) (f:Nat→Rat):pr (n+1) f=f 0*pr n (fun i=>f (i+1)):=by
 induction n with
 | zero => show 1 * f 0 = f 0 * 1; grind
 | succ n ih => rw [pr, ih, pr]; grind
theorem vT {n:Nat} {f:Nat→Rat} (h : ∀ i,i<n→0≤f i):0≤pr n f:=by
 induction n with
 | zero => show (0 : Rat) ≤ 1; decide
 | succ n ih => exact Rat.mul_nonneg (ih fun i hi => h i X) (h n X)
theorem zN {n:Nat} {f g:Nat→Rat} (h0 : ∀ i,i<n→0≤f i) (h : ∀ i,i<n→f i≤g i):pr n f≤pr n g:=by
 induction n with
 | zero => exact Rat.le_refl
 | succ n ih => exact xP (vT fun i hi => h0 i X) (ih (fun i hi => h0 i X) fun i hi => h i X) (h0 n X) (h n X)
theorem qb : ∀ {n:Nat} {F:Nat→Nat→Rat},(∀ i j,i<j→j<n→F i j=0)→det n F=pr n (fun i=>F i i)
 | 0, _, _ => rfl
 | n + 1, F, h => by
  rw [det,jl (Nat.succ_pos n) (fun j hj hne=>by rw [h 0 j X hj]; grind),qb (n:=n) (fun i j hij hj=>h _ _ (by unfold skip;split <;> omega) (by unfold skip;split <;> omega)),xS]
  have:sgn 0=1:=rfl
  rw [this,Rat.one_mul]
  congr 1
theorem By (n:Nat) (Cy:Nat→Nat→Rat):det n Cy*det n Cy=pr n (fun i=>dot n (gsB n Cy i) (gsB n Cy i)):=by
 have e1:det n Cy=det n (nJ n (fun i t=>if t<i then gsM n Cy i t else if t=i then 1 else 0) (gsB n Cy)):=cD fun i j hi hj=>by
  show Cy i j=sm n (fun t=>(if t<i then gsM n Cy i t else if t=i then 1 else 0)*gsB n Cy t j)
  rw [vS (show i+1≤n by omega) (fun t h1 h2=>by rw [if_neg X,if_neg X]; exact Rat.zero_mul _),sm,if_neg (Nat.lt_irrefl _),if_pos Z,Bw n Cy i j]
  rw [cA (f:=fun t=>(if t<i then gsM n Cy i t else if t=i then 1 else 0)*gsB n Cy t j) (g:=fun t=>gsM n Cy i t*gsB n Cy t j) (fun t ht=>by rw [if_pos ht])]
  grind
 have e2:det n (fun i t=>if t<i then gsM n Cy i t else if t=i then (1:Rat) else 0)=1:=by
  rw [qb (fun i j hij hj=>by rw [if_neg X,if_neg X])]
  rw [nN (g:=fun _=>1) (fun i _=>by rw [if_neg (Nat.lt_irrefl _),if_pos Z])]
  clear e1
  induction n with
  | zero => rfl
  | succ n ih => rw [pr, ih, Rat.one_mul]
 rw [p8,e2,Rat.one_mul] at e1
 rw [e1]
 have e3:det n (gsB n Cy)*det n (gsB n Cy)=det n (nJ n (gsB n Cy) (fun i j=>gsB n Cy j i)):=by
  rw [p8]
  congr 1
  exact (Bs n p9 (gsB n Cy)).symm
 rw [e3,qb (fun i j hij hj=>by
  show sm n (fun k=>gsB n Cy i k*gsB n Cy j k)=0
  have:=uN n Cy j i hij
  rw [jm] at this;exact this)]
 exact nN fun i _=>rfl
theorem xT (n:Nat) (Cy:Nat→Nat→Rat):det n Cy*det n Cy≤pr n (fun i=>dot n (Cy i) (Cy i)):=by
 rw [By]
 exact zN (fun i _=>rN _ _) (fun i _=>Ce _ _ _)
end Tor.Lin
end
section
namespace Tor
open Go Go.RowKit Go.Proofs
variable [Tor.Co.Kc]
def th (v:List Int):VT:=slT (.agg 2) v.length (fun i=>aP (v.getD i 0))
attribute [local irreducible] J PJ aJ one slT bL bG bD exT cn eP aU aN slV VT.le Ret bS
attribute [local irreducible] aP
end Tor
end
section
namespace Tor
open Go Go.RowKit Go.Proofs
variable [Tor.Co.Kc]
def xU (a:List (List Int)):VT:=slT .one a.length (fun i=>th (a.getD i []))
def Bz (r c:Int) (a:List (List Int)):VT:=bG 3 [(0, .one,one (.int .i64 r)),(1, .one,one (.int .i64 c)),(2, .one,xU a)]
attribute [local irreducible] J PJ aJ one slT bL bG bD exT cn eP aU aN slV VT.le Ret bS
attribute [local irreducible] aP th
end Tor
end
section
namespace Tor
open Go Go.RowKit Go.Proofs
variable [Tor.Co.Kc]
def fA (v:List (Bool × List Nat)):VT:=slT (.agg 2) v.length (fun i=>lQ (v.getD i (false, [])).1 (v.getD i (false, [])).2)
def mn (x:Int):Bool × List Nat:=(decide (x<0),aC x.natAbs)
theorem xV (v:List Int):VT.le (th v) (fA (v.map mn)):=by
 unfold th fA
 refine VT.le_trans (fX (ψ:=fun i=>lQ ((v.map mn).getD i (false, [])).1 ((v.map mn).getD i (false, [])).2) (fun i hi => ?_)) (by rw [List.length_map]; exact VT.le_refl _)
 simp only [List.getD,List.getElem?_map,List.getElem?_eq_getElem hi,Option.map_some,Option.getD_some]
 exact xm _
theorem lm : ∀ {l:List Nat},gi l→0<l.length→l.getD (l.length - 1) 0≠0
 | [], _, h => absurd h U
 | [d], h, _ => h
 | _ :: d :: l, h, _ => lm (l := d :: l) h (by simp)
theorem tj (x:Int):ji (mn x).1 (mn x).2=true:=by
 unfold ji mn
 simp only
 split
 ·rename_i h
  have e:=List.eq_nil_of_length_eq_zero h
  have:x.natAbs=0:=by rw [← bN x.natAbs,e]; rfl
  have : ¬ x<0:=by omega
  simp [this]
 ·rename_i h
  have:=lm (kP x.natAbs) X
  simpa using this
theorem uO {α:Type} {p:α→Bool} {v:List α} {d:α} {i:Nat} (h:(v.take i).all p=true) (hi:i<v.length) (he:p (v.getD i d)=true):(v.take (i+1)).all p=true:=by
 rw [List.take_add_one,List.all_append,h,List.getElem?_eq_getElem hi]
 simp only [List.getD,List.getElem?_eq_getElem hi,Option.getD_some] at he
 simp [he]
theorem tk {α:Type} {p:α→Bool} {v:List α} {d:α} {i:Nat} (hi:i<v.length) (he:p (v.getD i d)=false):v.all p=false:=by
 simp only [List.getD,List.getElem?_eq_getElem hi,Option.getD_some] at he
 rw [List.all_eq_false]; exact ⟨_,List.getElem_mem hi,by simp [he]⟩
attribute [local irreducible] J PJ aJ one slT bL bG bD exT cn eP aU aN slV VT.le Ret bS
attribute [local irreducible] aP lQ
end Tor
end
section
namespace Tor
open Go Go.RowKit Go.Proofs
variable [Tor.Co.Kc]
abbrev tn:=List (Bool × List Nat)
def eh (a:List tn):VT:=slT .one a.length (fun i=>fA (a.getD i []))
def ln (r c:Int) (a:List tn):VT:=bG 3 [(0, .one,one (.int .i64 r)),(1, .one,one (.int .i64 c)),(2, .one,eh a)]
def jo (c:Int) (v:tn):Bool:=decide ((v.length:Int)=c) && v.all fun p=>ji p.1 p.2
def iJ (r c:Int) (a:List tn):Bool:=decide (0≤r∧0≤c∧(a.length:Int)=r) && a.all (jo c)
attribute [local irreducible] J PJ aJ one slT bL bG bD exT cn eP aU aN slV VT.le Ret bS
attribute [local irreducible] aP lQ fA
end Tor
end
section
namespace Tor
open Go Go.RowKit Go.Proofs
variable [Tor.Co.Kc]
def tab (r c:Nat) (F:Nat→Nat→Int):List (List Int):=(List.range r).map fun i=>(List.range c).map (F i)
@[simp] theorem tab_length (r c:Nat) (F:Nat→Nat→Int):(tab r c F).length=r:=by simp [tab]
theorem zO {r c i:Nat} (F:Nat→Nat→Int) (hi:i<r):(tab r c F).getD i []=(List.range c).map (F i):=by simp [tab,List.getD,hi]
theorem BA {c j:Nat} (f:Nat→Int) (hj:j<c):((List.range c).map f).getD j 0=f j:=by simp [List.getD,hj]
def fN (c:Nat) (f:Nat→Int):VT:=slT (.agg 2) c (fun j=>aP (f j))
theorem xW (c:Nat) (f:Nat→Int):VT.le (fN c f) (th ((List.range c).map f)):=by
 unfold fN th
 refine VT.le_trans (fX (ψ:=fun j=>aP (((List.range c).map f).getD j 0)) (fun j hj => ?_)) (jP (by simp))
 rw [BA f hj]; exact VT.le_refl _
def cF (r c:Nat) (F:Nat→Nat→Int):VT:=bG 3 [(0, .one,one (.int .i64 r)),(1, .one,one (.int .i64 c)),(2, .one,slT .one r (fun i=>fN c (F i)))]
theorem xX (r c:Nat) (F:Nat→Nat→Int):VT.le (cF r c F) (Bz r c (tab r c F)):=by
 unfold cF Bz xU
 refine gh (fun q hq => ?_)
 rcases List.mem_cons.1 hq with rfl | hq
 ·exact ⟨_,List.mem_cons_self,A⟩
 rcases List.mem_cons.1 hq with rfl | hq
 ·exact ⟨_,List.mem_cons_of_mem _ List.mem_cons_self,A⟩
 rcases List.mem_cons.1 hq with rfl | hq
 ·refine ⟨_,List.mem_cons_of_mem _ (List.mem_cons_of_mem _ List.mem_cons_self),VT.le_trans (fX (ψ:=fun i=>th ((tab r c F).getD i [])) (fun i hi => ?_)) (jP (by simp))⟩
  rw [zO F hi]; exact xW _ _
 ·cases hq
theorem qc {r c:Nat} {F G:Nat→Nat→Int} (h : ∀ i j,i<r→j<c→F i j=G i j):VT.le (cF r c F) (cF r c G):=by
 unfold cF
 refine gh (fun q hq => ?_)
 rcases List.mem_cons.1 hq with rfl | hq
 ·exact ⟨_,List.mem_cons_self,A⟩
 rcases List.mem_cons.1 hq with rfl | hq
 ·exact ⟨_,List.mem_cons_of_mem _ List.mem_cons_self,A⟩
 rcases List.mem_cons.1 hq with rfl | hq
 ·refine ⟨_,List.mem_cons_of_mem _ (List.mem_cons_of_mem _ List.mem_cons_self),fX fun i hi=>fX fun j hj=>jP (by rw [h i j hi hj])⟩
 ·cases hq
theorem rO:VT.le (one (.agg #[.bool false, .slice none 0 0])) (aP 0):=by
 intro v h e
 have e:v = .agg #[.bool false, .slice none 0 0]:=e
 subst e
 refine ⟨_,rfl,rfl,by simp [Value.oneCell'],fun q hq => ?_⟩
 rcases List.mem_cons.1 hq with rfl | hq
 ·exact ⟨.bool false,rfl,rfl⟩
 ·rcases List.mem_cons.1 hq with rfl | hq
  ·exact ⟨.slice none 0 0,rfl,⟨none,0,rfl,Nat.le_refl _,by decide,fun i hi=>absurd hi (Nat.not_lt_zero _)⟩⟩
  ·cases hq
theorem l5 {sv:Option Nat} {T:TypeId} {L:Lay} {cap n:Nat} {φ:Nat→VT} {g:RH} {h:Hp} (hp:(aN sv T L cap n φ).p g h) (he:sv=none):n=0:=by
 obtain ⟨h1,h2,h3,_⟩:=hp;have:=h3 he;omega
theorem zP {bs:List Nat} {i:Nat} (h:i<bs.length):bs[i]? = some (bs.getD i 0):=by simp [List.getD,h]
def mu (sv:Option Nat) (cap r c:Nat) (bs:List Nat):Own:=aN sv 39 .one cap r (fun q=>one (slV (some (bs.getD q 0)) c c))
def iK (c:Nat) (bs:List Nat) (F:Nat→Nat→Int):Own:=dT 28 (.agg 2) c bs (fun q k=>aP (F q k))
theorem iL {c:Nat} {bs:List Nat} {F G:Nat→Nat→Int} (h : ∀ i j,i<bs.length→j<c→F i j=G i j):Own.le (iK c bs F) (iK c bs G):=m6 fun i j hi hj=>by rw [h i j hi hj]
abbrev Cf (r:Nat) := {s:List Nat × Option Nat × Nat // s.1.length=r∧(s.2.1=none→r=0)}
def qd (r c:Nat) (s:Cf r):VT:=bG 3 [(0, .one,one (.int .i64 r)),(1, .one,one (.int .i64 c)),(2, .one,one (slV s.1.2.1 r s.1.2.2))]
theorem l6 {r c:Nat} {sv:Option Nat} {cap:Nat} {bs:List Nat} {F:Nat→Nat→Int} {cs:bX} (hb:bs.length=r) (hc:(0,Lay.one,one (.int .i64 r))∈cs∧(1,Lay.one,one (.int .i64 c))∈cs∧(2,Lay.one,one (slV sv r cap))∈cs) :
  pA [mu sv cap r c bs,iK c bs F] cs [(0, .one,one (.int .i64 r)),(1, .one,one (.int .i64 c)),(2, .one,slT .one r (fun i=>fN c (F i)))]:=by
 refine .cons hc.1 (Ent.refl _) (.cons hc.2.1 (Ent.refl _) (.cons hc.2.2 ?_ .nil))
 refine Ent.slE List.mem_cons_self fun q hq => ?_
 exact Ent.row (List.mem_cons_of_mem _ List.mem_cons_self) (zP X)
attribute [local irreducible] J PJ aJ one slT bL bG bD exT cn eP aU aN slV VT.le Ret bS
attribute [local irreducible] dT
theorem mL (r c:Nat) (hr:r≤1048576) (hc:c≤1048576):OkM Tryz.prog 35 [one (.int .i64 r),one (.int .i64 c)] (qd r c) (fun s => [mu s.1.2.1 s.1.2.2 r c s.1.1,iK c s.1.1 (fun _ _=>0)]):=by
 refine OkM.enter Tryz.func35 Z Tryz.ntmps35 Z (fun w O => ?_)
 refine ae (ai ?_)
 refine cv (T:=35) Z Z Z (fun b => ?_)
 refine CJ (aa (ae (ai (mo (n:=0) Z Z Z Z Z ?_))))
 refine PartsK.nil (fun b => ?_)
 refine CH Z (CJ (aa (ae (ae (ai (CH Z (CJ (aa (av ?_)))))))))
 rename_i bc
 refine jc (ConvM.rows0 (T:=28) (L := .agg 2) (c:=c) (φ:=fun _ _=>aP 0) _) ?_
 refine c8 (σ:=List Nat × Option Nat × Nat) (fun s => [(0,one (.int .i64 r)),(1,one (.int .i64 c)),(4,one (.pointer (some ⟨bc,0,none⟩))),(5,one (slV s.2.1 s.1.length s.2.2)),(6,one (.int .i64 s.1.length))])
  (fun s => [aN s.2.1 39 .one s.2.2 s.1.length (fun q=>one (slV (some (s.1.getD q 0)) c c)),aU bc 35 3 (dS #[Value.int IntKind.i64 0,Value.int IntKind.i64 0,Value.slice none 0 0] [(0,Lay.one),(1,Lay.one),(2,Lay.one)]),iK c s.1 (fun _ _=>0)])
  (fun s=>s.1.length≤r) (fun s=>r - s.1.length) ([],some b,0) (Nat.zero_le _) CB (.keep (bW (fun q hq=>by omega)) (SubM.refl _)) (fun s hk => ?_)
 obtain ⟨bs,sv0,cap0⟩:=s
 simp only at hk ⊢
 refine ae (ae (ai (CG Z (CG Z (CF (bq Z Z) (CJ (aa ?_)))))))
 refine bw Z (fun hc => ?_) (fun hc => ?_) <;> simp at hc
 ·refine aw (aa (ae (av (ai (CG Z (CG Z ?_))))))
  refine co c c Z Z Z Z (Nat.le_refl _) Z Z X Z Z (fun bz => ?_)
  refine jW Z Z Z Z ?_
  (refine cX 1 Z Z Z (leN Z) ?_ ?_ Z (ltN Z) (fun sv cap => ?_);omega;omega)
  refine CH Z (CJ (aL (aa (ai (CG Z ?_)))))
  (refine CF (cG Z Z (aO ?_ ?_)) ?_;omega;omega)
  refine CH Z (CJ (fP (ConvM.row (k:=2) Z) (cI (s:=(bs,sv0,cap0)) (bs ++ [bz],sv,cap) (by simp;omega) (by simp;omega) (.cons Z A (.cons Z A (.cons Z A (.cons Z (mH (by simp)) (.cons Z (ao (by simp)) .nil))))) ?_)))
  refine .keep (jh (by simp) (fun q hq => ?_)) (.keep CE (.keep (qJ fun i j hi hj => ?_) .nil))
  ·by_cases h:q<bs.length
   ·rw [if_pos h]; simp [List.getElem?_append_left h]
   ·have:q=bs.length:=by omega
    subst this;rw [if_neg h]; simp
  ·simp only
   split
   ·exact VT.le_refl _
   ·exact rO
 ·have hlen:bs.length=r:=by omega
  subst hlen
  refine tZ (i:=0) (F:=sv0=none→bs.length=0) Z (fun g h hp he=>l5 hp he) (fun hF => ?_)
  refine a6 (ax (ax (aM (aa (ae (ai (CG Z (CG Z (CG Z ?_)))))))))
  refine stB Z Z Z (BuildK.cons Z Z Z (BuildK.cons Z Z Z (BuildK.cons Z Z Z (BuildK.nil (bU 1 Z Z Z Z (CJ (aa (aG ?_))))))))
  refine qI ⟨(bs,sv0,cap0),rfl,hF⟩ Tryz.results35 (.cellW 1 Z Z A) ?_
  exact .keep CE (.drop (SubM.refl _))
end Tor
end
section
namespace Tor
open Go Go.RowKit Go.Proofs
variable [Tor.Co.Kc]
def iM (k:IntKind) (l:List Int):VT:=slT .one l.length (fun i=>one (.int k (l.getD i 0)))
theorem lp {sv:Option Nat} {r:Nat} (h:sv=none→r=0) (hr:0<r) : ∃ b,sv=some b:=by
 cases sv with
 | none => have := h Z; omega
 | some b => exact ⟨b, rfl⟩
theorem oh (i c j:Nat):((i:Int)*c+j).toNat=i*c+j:=by
 have:((i:Int)*c+j)=((i*c+j:Nat):Int):=by simp
 rw [this,Int.toNat_natCast]
def f7 (f:Nat→Int) (c i j:Nat):Nat→Nat→Int:=fun q k=>if q<i∨(q=i∧k<j) then f (q*c+k) else 0
theorem xY {l:List Int} {i:Nat} {p:Int→Prop} (h : ∀ x∈l,p x) (h0:p 0):p (l.getD i 0):=by
 rcases Nat.lt_or_ge i l.length with hi | hi
 ·simp only [List.getD,List.getElem?_eq_getElem hi,Option.getD_some]; exact h _ (List.getElem_mem hi)
 ·simp only [List.getD,List.getElem?_eq_none hi,Option.getD_none]; exact h0
theorem rP {T:TypeId} {c:Nat} {bs:List Nat} {f:Nat→Int} {i j:Nat} (x:Int) (hx:x=f (i*c+j)) :
  Own.le (dT T (.agg 2) c bs (m7 (fun q k=>aP (f7 f c i j q k)) i j (aP x))) (dT T (.agg 2) c bs (fun q k=>aP (f7 f c i (j+1) q k))):=by
 subst hx
 refine m6 fun q k hq hk => ?_
 unfold m7 f7
 by_cases h:q=i∧k=j
 ·obtain ⟨rfl,rfl⟩:=h;simp
 ·rw [if_neg h]
  have e:(q<i∨q=i∧k<j+1)↔(q<i∨q=i∧k<j):=by omega
  simp only [e]
attribute [local irreducible] J PJ aJ one slT bL bG bD exT cn eP aU aN slV VT.le Ret bS
attribute [local irreducible] aP dT
theorem xZ (r c:Nat) (l:List Int) (hr0:r≤1048576) (hc0:c≤1048576) (hl : ∀ x∈l, -9223372036854775808≤x∧x≤9223372036854775807):Ok Tryz.prog 39 [one (.int .i64 r),one (.int .i64 c),iM .i64 l] (cF r c (fun i j=>l.getD (i*c+j) 0)):=by
 unfold iM
 refine Ok.enter Tryz.func39 Z Tryz.ntmps39 Z (fun w O => ?_)
 refine ae (ai ?_)
 refine cv (T:=35) Z Z Z (fun b => ?_)
 refine CJ (aa (ae (ai (CG Z (CG Z ?_)))))
 refine kH (mL r c hr0 hc0) Z ⟨A,A,CK⟩ Z Z (fun s => ?_)
 obtain ⟨⟨bs,sv1,cap1⟩,hlen,hsv⟩:=s
 simp only at hlen hsv
 unfold qd
 refine cv (T:=35) Z Z Z (fun b => ?_)
 refine bU 0 Z Z Z Z (CJ (aa (ae (ae (ai (CH Z (CJ (aa (av ?_)))))))))
 rename_i b2
 refine c8 (σ:=Nat) (fun i => [(0,one (.int .i64 r)),(1,one (.int .i64 c)),(2,slT .one l.length (fun i=>one (.int .i64 (l.getD i 0)))),(6,one (.pointer (some ⟨b2,0,none⟩))),(7,one (.pointer (some ⟨b,0,none⟩))),(8,one (.int .i64 (i:Nat)))])
  (fun i => [aU b 35 3 [(0, .one,one (.int .i64 r)),(1, .one,one (.int .i64 c)),(2, .one,one (slV sv1 r cap1))],mu sv1 cap1 r c bs,iK c bs (f7 (fun n=>l.getD n 0) c i 0),
   aU b2 35 3 (dS #[Value.int IntKind.i64 0,Value.int IntKind.i64 0,Value.slice none 0 0] [(0,Lay.one),(1,Lay.one),(2,Lay.one)])])
  (fun i=>i≤r) (fun i=>r - i) 0 (Nat.zero_le _) CB (.keep CE (.keep CE (.keep (iL fun i j hi hj=>by simp [f7]) (SubM.refl _)))) (fun i hi => ?_)
 refine ae (ae (ai (CG Z (CG Z (CF (bq Z Z) (CJ (aa ?_)))))))
 refine bw Z (fun hc => ?_) (fun hc => ?_) <;> simp at hc
 ·have hir:i<r:=by omega
  obtain ⟨bo,rfl⟩:=lp hsv X
  refine aw (aa (ae (av (ae (ai (CH Z (CJ (aa (av ?_)))))))))
  refine c8 (σ:=Nat) (fun j => [(0,one (.int .i64 r)),(1,one (.int .i64 c)),(2,slT .one l.length (fun i=>one (.int .i64 (l.getD i 0)))),(6,one (.pointer (some ⟨b2,0,none⟩))),(7,one (.pointer (some ⟨b,0,none⟩))),(8,one (.int .i64 (i:Nat))),(9,one (.int .i64 (j:Nat)))])
   (fun j => [aU b 35 3 [(0, .one,one (.int .i64 r)),(1, .one,one (.int .i64 c)),(2, .one,one (slV (some bo) r cap1))],mu (some bo) cap1 r c bs,iK c bs (f7 (fun n=>l.getD n 0) c i j),
   aU b2 35 3 (dS #[Value.int IntKind.i64 0,Value.int IntKind.i64 0,Value.slice none 0 0] [(0,Lay.one),(1,Lay.one),(2,Lay.one)])])
   (fun j=>j≤c) (fun j=>c - j) 0 (Nat.zero_le _) CB (SubM.refl _) (fun j hj => ?_)
  have hm:i*c≤1048576*1048576:=Nat.mul_le_mul X hc0
  have hm2:(i:Int)*c≤1099511627776:=by omega
  have hm3:0≤(i:Int)*c:=by have:=Nat.zero_le (i*c);omega
  refine ae (ae ?_)
  refine fb (σ:=Unit) (fun _ => [(0,one (.int .i64 r)),(1,one (.int .i64 c)),(2,slT .one l.length (fun i=>one (.int .i64 (l.getD i 0)))),(6,one (.pointer (some ⟨b2,0,none⟩))),(7,one (.pointer (some ⟨b,0,none⟩))),(8,one (.int .i64 (i:Nat))),(9,one (.int .i64 (j:Nat))),(30,one (.bool (decide (j<c∧i*c+j<l.length))))])
   (fun _ => [aU b 35 3 [(0, .one,one (.int .i64 r)),(1, .one,one (.int .i64 c)),(2, .one,one (slV (some bo) r cap1))],mu (some bo) cap1 r c bs,iK c bs (f7 (fun n=>l.getD n 0) c i j),
   aU b2 35 3 (dS #[Value.int IntKind.i64 0,Value.int IntKind.i64 0,Value.slice none 0 0] [(0,Lay.one),(1,Lay.one),(2,Lay.one)])]) (fun _=>True) ?_ (fun _ _ => ?_)
  ·refine ai (CG Z (CG Z (CF (bq Z Z) (CG Z ?_))))
   refine mY (t:=21) Z (fun b h1 => ?_)
   rw [h1]
   cases b
   ·simp at h1
    refine sg0 Z Z Z Z (sg0 Z Z Z Z (sg0 Z Z Z Z (sg0 Z Z Z Z (sg0 Z Z Z Z (sg0 Z Z Z Z (sg0 Z Z Z Z (sg0 Z Z Z Z (CF (bK Z Z) (CJ ?_)))))))))
    refine cJ () trivial (.cons Z A (.cons Z A (.cons Z A (.cons Z A (.cons Z A (.cons Z A (.cons Z A (.cons Z (ao ?_) .nil)))))))) (SubM.refl _)
    congr 1;symm;rw [decide_eq_false_iff_not]; omega
   ·simp at h1
    refine CI (ab Z) (CI (ab Z) ?_)
    (refine CI (mf Z Z (aO ?_ ?_)) ?_;omega;omega)
    refine CI (ab Z) ?_
    (refine CI (cG Z Z (aO ?_ ?_)) ?_;omega;omega)
    refine CI (ab Z) (CI (aW Z) (CI (bq Z Z) (CF (bp Z Z) (CJ ?_))))
    refine cJ () trivial (.cons Z A (.cons Z A (.cons Z A (.cons Z A (.cons Z A (.cons Z A (.cons Z A (.cons Z (ao ?_) .nil)))))))) (SubM.refl _)
    congr 1;rw [decide_eq_decide]
    have:((i*c:Nat):Int)=(i:Int)*c:=by simp
    omega
  ·refine aa ?_
   refine bw Z (fun hc2 => ?_) (fun hc2 => ?_) <;> simp only [decide_eq_true_eq,decide_eq_false_iff_not] at hc2
   ·have hm4:((i*c:Nat):Int)=(i:Int)*c:=by simp
    refine aw (aa (ae (av (bh 16 a8 Y U (CF (aj Z) (CF (ak 0 Z Z Z) (CG Z ?_)))))))
    (refine CF (ay Z Z ?_) ?_;omega)
    (refine CF (cf 1 Z Z ?_) ?_;omega)
    refine CG Z (CG Z (CG Z (CG Z ?_)))
    (refine CF (mf Z Z (aO ?_ ?_)) ?_;omega;omega)
    refine CG Z ?_
    (refine CF (cG Z Z (aO ?_ ?_)) ?_;omega;omega)
    (refine CF (aE Z Z ?_) ?_;omega)
    refine CF (aV Z) ?_
    have hv:=xY (i:=((i:Int)*c+j).toNat) hl U
    refine CF (am (fo _ hv.1 hv.2) Z ⟨A,CK⟩) ?_
    (refine CF (ay Z Z ?_) ?_;omega)
    refine CJ ?_
    (refine m8 2 Z Z Z (zP ?_) ?_ Z ?_;omega;omega)
    refine CJ (aL (aa (ai (CG Z ?_))))
    (refine CF (cG Z Z (aO ?_ ?_)) ?_;omega;omega)
    refine CH Z (CJ ?_)
    refine cI (s:=j) (j+1) (show _ from by omega) X CB (.keep CE (.keep CE (.keep (rP _ (by rw [oh])) (SubM.refl _))))
   ·refine a6 (ax (ax (aM (aL (aa (ai (CG Z ?_)))))))
    (refine CF (cG Z Z (aO ?_ ?_)) ?_;omega;omega)
    refine CH Z (CJ ?_)
    refine cI (s:=i) (i+1) (show _ from by omega) X CB (.keep CE (.keep CE (.keep (iL fun q k hq hk => ?_) (SubM.refl _))))
    unfold f7
    by_cases h:q<i∨(q=i∧k<j)
    ·rw [if_pos h,if_pos X]
    ·rw [if_neg h]
     by_cases h2:q=i
     ·subst h2;rw [if_pos X]
      have:l.length≤q*c+k:=by omega
      simp [List.getD,List.getElem?_eq_none this]
     ·rw [if_neg X]
 ·have hin:i=r:=by omega
  subst hin
  refine a6 (ax (ax (aM (aa (ae (ai (CF (bB 0 Z Z) (bU 3 Z Z Z Z (CJ ?_)))))))))
  refine aa (aG ?_)
  have hperm : ∀ (x y z u:Own), [x,y,z,u].Perm ([y,z] ++ [x,u]):=fun x y z u=>(List.Perm.swap y x _).trans (List.Perm.cons y (List.Perm.swap z x _))
  refine gU [mu sv1 cap1 i c bs,iK c bs (f7 (fun n=>l.getD n 0) c i 0)] (hperm _ _ _ _) (.keep (vf.refl _) (.keep (vf.box (l6 hlen ⟨by simp,by simp,by simp⟩)) .nil)) (vg.refl _) ?_
  refine aQ Tryz.results39 (.cellW 1 Z Z ?_)
  exact qc fun a b ha hb=>by simp [f7,ha]
end Tor
end
section
namespace Tor
open Go Go.RowKit Go.Proofs
variable [Tor.Co.Kc]
theorem BB (x:Int) : -10<x.tmod 10∧x.tmod 10<10:=⟨by
 have:=Int.tmod_lt_of_pos (-x) (show (0:Int)<10 by decide)
 rw [Int.neg_tmod] at this;omega,Int.tmod_lt_of_pos x U⟩
def dig (l:List Int) (n:Nat):Int:=(l.getD n 0).tmod 10
attribute [local irreducible] J PJ aJ one slT bL bG bD exT cn eP aU aN slV VT.le Ret bS
attribute [local irreducible] aP dT
theorem rQ (r c:Nat) (l:List Int) (hr0:r≤16) (hc0:c≤16):OkM Tryz.prog 33 [one (.int .i64 r),one (.int .i64 c),iM .i8 l] (qd r c) (fun s => [mu s.1.2.1 s.1.2.2 r c s.1.1,iK c s.1.1 (fun i j=>dig l (i*c+j))]):=by
 unfold iM
 refine OkM.enter Tryz.func33 Z Tryz.ntmps33 Z (fun w O => ?_)
 refine ae (ai ?_)
 refine cv (T:=35) Z Z Z (fun b => ?_)
 refine CJ (aa (ae (ai (CG Z (CF (wJ Z Z) (CF (wK Z Z) (CG Z (CF (wJ Z Z) (CF (wK Z Z) ?_)))))))))
 refine kH (mL r c X X) Z ⟨ao (by congr 1;omega),ao (by congr 1;omega),CK⟩ Z Z (fun s => ?_)
 obtain ⟨⟨bs,sv1,cap1⟩,hlen,hsv⟩:=s
 simp only at hlen hsv
 unfold qd
 refine cv (T:=35) Z Z Z (fun b => ?_)
 refine bU 0 Z Z Z Z (CJ (aa (ae (ae (ai (CH Z (CJ (aa (av ?_)))))))))
 rename_i b2
 refine c8 (σ:=Nat) (fun i => [(2,slT .one l.length (fun i=>one (.int .i8 (l.getD i 0)))),(6,one (.pointer (some ⟨b2,0,none⟩))),(7,one (.pointer (some ⟨b,0,none⟩))),(8,one (.int .i64 (i:Nat)))])
  (fun i => [aU b 35 3 [(0, .one,one (.int .i64 r)),(1, .one,one (.int .i64 c)),(2, .one,one (slV sv1 r cap1))],mu sv1 cap1 r c bs,iK c bs (f7 (dig l) c i 0),
   aU b2 35 3 (dS #[Value.int IntKind.i64 0,Value.int IntKind.i64 0,Value.slice none 0 0] [(0,Lay.one),(1,Lay.one),(2,Lay.one)])])
  (fun i=>i≤r) (fun i=>r - i) 0 (Nat.zero_le _) CB (.keep CE (.keep CE (.keep (iL fun i j hi hj=>by simp [f7]) (SubM.refl _)))) (fun i hi => ?_)
 refine ae (ae (ai (CG Z (CF (aj Z) (CF (ak 0 Z Z Z) (CF (bq Z Z) (CJ (aa ?_))))))))
 refine bw Z (fun hc => ?_) (fun hc => ?_) <;> simp at hc
 ·have hir:i<r:=by omega
  obtain ⟨bo,rfl⟩:=lp hsv X
  refine aw (aa (ae (av (ae (ai (CH Z (CJ (aa (av ?_)))))))))
  refine c8 (σ:=Nat) (fun j => [(2,slT .one l.length (fun i=>one (.int .i8 (l.getD i 0)))),(6,one (.pointer (some ⟨b2,0,none⟩))),(7,one (.pointer (some ⟨b,0,none⟩))),(8,one (.int .i64 (i:Nat))),(9,one (.int .i64 (j:Nat)))])
   (fun j => [aU b 35 3 [(0, .one,one (.int .i64 r)),(1, .one,one (.int .i64 c)),(2, .one,one (slV (some bo) r cap1))],mu (some bo) cap1 r c bs,iK c bs (f7 (dig l) c i j),
   aU b2 35 3 (dS #[Value.int IntKind.i64 0,Value.int IntKind.i64 0,Value.slice none 0 0] [(0,Lay.one),(1,Lay.one),(2,Lay.one)])])
   (fun j=>j≤c) (fun j=>c - j) 0 (Nat.zero_le _) CB (SubM.refl _) (fun j hj => ?_)
  have hm:i*c≤16*16:=Nat.mul_le_mul X hc0
  have hm2:(i:Int)*c≤256:=by omega
  have hm3:0≤(i:Int)*c:=by have:=Nat.zero_le (i*c);omega
  refine ae (ae ?_)
  refine fb (σ:=Unit) (fun _ => [(2,slT .one l.length (fun i=>one (.int .i8 (l.getD i 0)))),(6,one (.pointer (some ⟨b2,0,none⟩))),(7,one (.pointer (some ⟨b,0,none⟩))),(8,one (.int .i64 (i:Nat))),(9,one (.int .i64 (j:Nat))),(37,one (.bool (decide (j<c∧i*c+j<l.length))))])
   (fun _ => [aU b 35 3 [(0, .one,one (.int .i64 r)),(1, .one,one (.int .i64 c)),(2, .one,one (slV (some bo) r cap1))],mu (some bo) cap1 r c bs,iK c bs (f7 (dig l) c i j),
   aU b2 35 3 (dS #[Value.int IntKind.i64 0,Value.int IntKind.i64 0,Value.slice none 0 0] [(0,Lay.one),(1,Lay.one),(2,Lay.one)])]) (fun _=>True) ?_ (fun _ _ => ?_)
  ·refine ai (CG Z (CF (aj Z) (CF (ak 0 Z Z Z) (CF (bq Z Z) (CG Z ?_)))))
   refine mY (t:=27) Z (fun b h1 => ?_)
   rw [h1]
   cases b
   ·simp at h1
    refine sg0 Z Z Z Z (sg0 Z Z Z Z (sg0 Z Z Z Z (sg0 Z Z Z Z (sg0 Z Z Z Z (sg0 Z Z Z Z (sg0 Z Z Z Z (sg0 Z Z Z Z (sg0 Z Z Z Z (CF (bK Z Z) ?_)))))))))
    refine CJ ?_
    refine cJ () trivial (.cons Z A (.cons Z A (.cons Z A (.cons Z A (.cons Z A (.cons Z (ao ?_) .nil)))))) (SubM.refl _)
    congr 1;symm;rw [decide_eq_false_iff_not]; omega
   ·simp at h1
    refine CI (ab Z) (CI (aj Z) (CI (ak 0 Z Z Z) ?_))
    (refine CI (mf Z Z (aO ?_ ?_)) ?_;omega;omega)
    refine CI (ab Z) ?_
    (refine CI (cG Z Z (aO ?_ ?_)) ?_;omega;omega)
    refine CI (ab Z) (CI (aW Z) (CI (bq Z Z) (CF (bp Z Z) (CJ ?_))))
    refine cJ () trivial (.cons Z A (.cons Z A (.cons Z A (.cons Z A (.cons Z A (.cons Z (ao ?_) .nil)))))) (SubM.refl _)
    congr 1;rw [decide_eq_decide]
    have:((i*c:Nat):Int)=(i:Int)*c:=by simp
    omega
  ·refine aa ?_
   refine bw Z (fun hc2 => ?_) (fun hc2 => ?_) <;> simp only [decide_eq_true_eq,decide_eq_false_iff_not] at hc2
   ·have hm4:((i*c:Nat):Int)=(i:Int)*c:=by simp
    refine aw (aa (ae (av (bh 19 a8 Y U (CF (aj Z) (CF (ak 0 Z Z Z) (CG Z ?_)))))))
    (refine CF (ay Z Z ?_) ?_;omega)
    (refine CF (cf 1 Z Z ?_) ?_;omega)
    refine CG Z (CG Z (CG Z (CF (aj Z) (CF (ak 0 Z Z Z) ?_))))
    (refine CF (mf Z Z (aO ?_ ?_)) ?_;omega;omega)
    refine CG Z ?_
    (refine CF (cG Z Z (aO ?_ ?_)) ?_;omega;omega)
    (refine CF (aE Z Z ?_) ?_;omega)
    refine CF (aV Z) (CF (Az Z Z U Z) ?_)
    have hv:=BB (l.getD (i*c+j) 0)
    refine CF (db Z ?_ ?_) ?_; · omega
    ·omega
    refine CF (am (fo _ X X) Z ⟨A,CK⟩) ?_
    (refine CF (ay Z Z ?_) ?_;omega)
    refine CJ ?_
    (refine m8 2 Z Z Z (zP ?_) ?_ Z ?_;omega;omega)
    refine CJ (aL (aa (ai (CG Z ?_))))
    (refine CF (cG Z Z (aO ?_ ?_)) ?_;omega;omega)
    refine CH Z (CJ ?_)
    refine cI (s:=j) (j+1) (show _ from by omega) X CB (.keep CE (.keep CE (.keep (rP _ Z) (SubM.refl _))))
   ·refine a6 (ax (ax (aM (aL (aa (ai (CG Z ?_)))))))
    (refine CF (cG Z Z (aO ?_ ?_)) ?_;omega;omega)
    refine CH Z (CJ ?_)
    refine cI (s:=i) (i+1) (show _ from by omega) X CB (.keep CE (.keep CE (.keep (iL fun q k hq hk => ?_) (SubM.refl _))))
    unfold f7
    by_cases h:q<i∨(q=i∧k<j)
    ·rw [if_pos h,if_pos X]
    ·rw [if_neg h]
     by_cases h2:q=i
     ·subst h2;rw [if_pos X]
      have:l.length≤q*c+k:=by omega
      simp [dig,List.getD,List.getElem?_eq_none this]
     ·rw [if_neg X]
 ·have hin:i=r:=by omega
  subst hin
  refine a6 (ax (ax (aM (aa (ae (ai (CF (bB 0 Z Z) (bU 3 Z Z Z Z (CJ ?_)))))))))
  refine aa (aG ?_)
  refine qI ⟨(bs,sv1,cap1),hlen,hsv⟩ Tryz.results33 (.cellW 3 Z Z ?_) ?_
  ·show VT.le _ (qd i c _)
   unfold qd
   exact VT.le_refl _
  ·refine .drop (.keep CE (.keep (iL fun a b ha hb => ?_) (.drop .nil)))
   have:a<i:=by have:a<bs.length:=ha;omega
   simp [f7,this]
theorem rR {r c:Nat} (F:Nat→Nat→Int) (s:Cf r):Ent [mu s.1.2.1 s.1.2.2 r c s.1.1,iK c s.1.1 F] (qd r c s) (cF r c F):=by
 unfold qd cF
 exact Ent.agg (l6 s.2.1 ⟨by simp,by simp,by simp⟩)
theorem tp (r c:Nat) (l:List Int) (hr0:r≤16) (hc0:c≤16):Ok Tryz.prog 33 [one (.int .i64 r),one (.int .i64 c),iM .i8 l] (cF r c (fun i j=>dig l (i*c+j))) :=
 (rQ r c l hr0 hc0).ok fun s=>rR _ s
end Tor
end
section
namespace Tor
open Go Go.RowKit Go.Proofs
variable [Tor.Co.Kc]
instance {neg:Bool} {l:List Nat} : Flat (lQ neg l) (.agg 2):=by unfold lQ;infer_instance
theorem tq {neg:Bool} {l:List Nat} {v:Value} {h:Hp} (H:(lQ neg l).p v h):l.length≤281474976710656:=by
 obtain ⟨c,_,_,_,h4⟩:=H
 obtain ⟨x,_,hp⟩:=h4 _ (List.mem_cons_of_mem _ List.mem_cons_self)
 exact ei hp
theorem oi {r c:Int} {a:List tn} {v:Value} {h:Hp} (H:(ln r c a).p v h):a.length≤2^48:=by
 obtain ⟨c,_,_,_,h4⟩:=H
 obtain ⟨x,_,hp⟩:=h4 _ (List.mem_cons_of_mem _ (List.mem_cons_of_mem _ List.mem_cons_self))
 exact ei hp
def nO (r c:Nat) (F:Nat→Nat→Int):List tn:=(tab r c F).map (·.map mn)
theorem x3 (r c:Nat) (F:Nat→Nat→Int):VT.le (cF r c F) (ln r c (nO r c F)):=by
 refine VT.le_trans (xX r c F) ?_
 unfold Bz ln
 refine gh (fun q hq => ?_)
 rcases List.mem_cons.1 hq with rfl | hq
 ·exact ⟨_,List.mem_cons_self,A⟩
 rcases List.mem_cons.1 hq with rfl | hq
 ·exact ⟨_,List.mem_cons_of_mem _ List.mem_cons_self,A⟩
 rcases List.mem_cons.1 hq with rfl | hq
 ·refine ⟨_,List.mem_cons_of_mem _ (List.mem_cons_of_mem _ List.mem_cons_self),?_⟩
  unfold xU eh nO
  refine VT.le_trans (fX (ψ:=fun i=>fA (((tab r c F).map (·.map mn)).getD i [])) (fun i hi => ?_)) (jP (by simp))
  refine VT.le_trans (xV _) (jP ?_)
  simp [List.getD,List.getElem?_eq_getElem hi]
 ·cases hq
theorem tr (r c:Nat) (F:Nat→Nat→Int):iJ r c (nO r c F)=true:=by
 unfold iJ nO
 simp only [List.length_map,tab_length,Bool.and_eq_true,decide_eq_true_eq,List.all_map]
 refine ⟨⟨by omega,by omega,CK⟩,?_⟩
 rw [List.all_eq_true]
 intro x hx
 simp only [tab,List.mem_map,List.mem_range] at hx
 obtain ⟨i,hi,rfl⟩:=hx
 simp only [jo,Function.comp,List.length_map,List.length_range,List.all_map,Bool.and_eq_true,decide_eq_true_eq]
 refine ⟨trivial,?_⟩
 rw [List.all_eq_true]
 intro y hy
 exact tj _
attribute [local irreducible] J PJ aJ one slT bL bG bD exT cn eP aU aN slV VT.le Ret bS
theorem x4 (neg:Bool) (l:List Nat):Ok Tryz.prog 120 [lQ neg l] (one (.bool (ji neg l))):=by
 refine Ok.enter Tryz.func120 Z Tryz.ntmps120 Z (fun w O => ?_)
 refine gY (t:=0) Z (fun _ _=>tq) (fun hl => ?_)
 unfold lQ
 by_cases h0:l.length=0
 ·refine ae (ai ?_)
  refine bm Z Z (ltN Z) (fun b => ?_)
  refine CH Z (CJ (aa (ae (ae (ai (CF (aj Z) (CF (ak 0 Z Z Z) (CF (aW Z) (CH Z ?_)))))))))
  refine CJ (aa (ae (ai (CG Z (CF (dh Z Z) (CJ (aa ?_)))))))
  refine bw Z (fun hc => ?_) (fun hc => ?_) <;> simp only [decide_eq_true_eq,decide_eq_false_iff_not,ne_eq,Decidable.not_not] at hc
  ·omega
  ·refine aw (aa (ae (ai (CF (aj Z) (CF (ak 0 Z Z Z) (CF (cZ Z) (CH Z (CJ (aa ?_)))))))))
   refine aG ?_
   exact aQ Tryz.results120 (.tmp Z (ao (by unfold ji;rw [if_pos h0])))
 ·refine ae (ai ?_)
  refine bm Z Z (ltN Z) (fun b => ?_)
  refine CH Z (CJ (aa (ae (ae (ai (CF (aj Z) (CF (ak 0 Z Z Z) (CF (aW Z) (CH Z ?_)))))))))
  refine CJ (aa (ae (ai (CG Z (CF (dh Z Z) (CJ (aa ?_)))))))
  refine bw Z (fun hc => ?_) (fun hc => ?_) <;> simp only [decide_eq_true_eq,decide_eq_false_iff_not,ne_eq,Decidable.not_not] at hc
  ·refine ae (ai (CF (aj Z) (CF (ak 0 Z Z Z) (CG Z ?_))))
   (refine CF (dx Z Z (aO ?_ ?_)) ?_;omega;omega)
   (refine CF (ek Z Z ?_ ?_) ?_;omega;omega)
   refine CF (aV Z) (CF (eI Z Z) (CH Z (CJ (aa (aG (aK ?_))))))
   refine aQ Tryz.results120 (.tmp Z (ao ?_))
   have e:(↑l.length - 1:Int).toNat=l.length - 1:=by omega
   unfold ji;rw [if_neg h0,e]; congr 1;rw [decide_eq_decide]; omega
  ·omega
attribute [local irreducible] aP lQ
attribute [local irreducible] fA
theorem rS (r c:Int) (a:List tn):Ok Tryz.prog 80 [ln r c a] (one (.bool (iJ r c a))):=by
 refine Ok.enter Tryz.func80 Z Tryz.ntmps80 Z (fun w O => ?_)
 refine gY (t:=0) Z (fun _ _=>oi) (fun ha => ?_)
 unfold ln
 unfold eh
 refine ae (ai ?_)
 refine bm Z Z (ltN Z) (fun b => ?_)
 refine CH Z (CJ (aa (ae (ae (ai (CF (aj Z) (CF (ak 0 Z Z Z) (CF (bq Z Z) (CG Z ?_)))))))))
 refine mY (t:=10) Z (fun bo hb => ?_)
 rw [hb]
 cases bo
 ·have e1:0≤r:=by simpa using hb
  refine CI (aj Z) (CI (ak 0 Z Z Z) (CI (bq Z Z) (CF (bK Z Z) (CG Z ?_))))
  refine mY (t:=15) Z (fun bo hb2 => ?_)
  rw [hb2]
  cases bo
  ·have e2:0≤c:=by simpa using hb2
   refine CI (aj Z) (CI (ak 0 Z Z Z) (CI (aW Z) (CI (aj Z) (CI (ak 0 Z Z Z) (CI (eI Z Z) (CF (bK Z Z) (CJ (aa ?_))))))))
   refine bw Z (fun hc => ?_) (fun hc => ?_) <;> simp only [decide_eq_true_eq,decide_eq_false_iff_not,ne_eq,Decidable.not_not] at hc
   ·refine ae (ai (CH Z (CJ (aa (aG (aK ?_))))))
    refine aQ Tryz.results80 (.tmp Z (ao ?_))
    simp [iJ,hc]
   ·have e3:(a.length:Int)=r:=hc
    refine aw (aa (ae (ae (ai (CF (aj Z) (CF (ak 0 Z Z Z) (CF (aW Z) (CG Z (CJ ?_)))))))))
    refine aa (av ?_)
    refine c8 (σ:=Nat) (fun i => [(1,one (.pointer (some ⟨b,0,none⟩))),(24,eh a),(25,one (.int .i64 a.length)),(26,one (.int .i64 (i:Nat)))])
     (fun _ => [aU b 35 3 [(0, .one,one (.int .i64 r)),(1, .one,one (.int .i64 c)),(2, .one,eh a)]])
     (fun i=>i≤a.length∧(a.take i).all (jo c)=true) (fun i=>a.length - i) 0 ⟨Nat.zero_le _,rfl⟩ CB (SubM.refl _) (fun i ⟨hi,ht⟩ => ?_)
    unfold eh
    refine ae (ai (CF (bq Z Z) (CJ (aa (ae ?_)))))
    refine bw Z (fun hc => ?_) (fun hc => ?_) <;> simp at hc
    ·refine aw (aa (ae (av (ae (ai ?_)))))
     (refine CF (aE Z Z ?_) ?_;omega)
     refine CF (aV Z) (CH Z (CJ (aa (ae (ae (ai (CG Z ?_)))))))
     unfold fA
     refine CF (aW Z) (CF (aj Z) (CF (ak 0 Z Z Z) (CF (eI Z Z) (CJ (aa ?_)))))
     refine bw Z (fun hc2 => ?_) (fun hc2 => ?_) <;> simp only [decide_eq_true_eq,decide_eq_false_iff_not,ne_eq,Decidable.not_not] at hc2
     ·refine ae (ai (CH Z (CJ (aa (aG (aK (a9 (aK (aK ?_)))))))))
      refine a9 (aK ?_)
      refine aQ Tryz.results80 (.tmp Z (ao ?_))
      have:=tk (p:=jo c) (d := []) hc (by simp only [jo,Bool.and_eq_false_iff]; left;simpa using hc2)
      simp [iJ,this]
     ·refine gY (t:=29) Z (fun _ _=>ei) (fun hlb => ?_)
      refine aw (aa (ae (ai (CG Z (CF (aW Z) (CG Z (CJ (aa (av ?_)))))))))
      refine c8 (σ:=Nat) (fun j => [(1,one (.pointer (some ⟨b,0,none⟩))),(24,eh a),(25,one (.int .i64 a.length)),(26,one (.int .i64 (i:Nat))),(35,fA (a.getD i [])),(36,one (.int .i64 (a.getD i []).length)),(37,one (.int .i64 (j:Nat)))])
       (fun _ => [aU b 35 3 [(0, .one,one (.int .i64 r)),(1, .one,one (.int .i64 c)),(2, .one,eh a)]])
       (fun j=>j≤(a.getD i []).length∧((a.getD i []).take j).all (fun p=>ji p.1 p.2)=true) (fun j=>(a.getD i []).length - j) 0 ⟨Nat.zero_le _,rfl⟩ (by unfold eh fA;repeat (first | exact dR.nil | refine dR.cons Z A ?_ | (refine dR.cons Z (ao ?_) ?_;(congr 1;first | omega | (simp;omega) | simp)))) (by unfold eh fA;exact SubM.refl _) (fun j ⟨hj,hu⟩ => ?_)
      unfold eh fA
      refine ae (ai (CF (bq Z Z) (CJ (aa (ae ?_)))))
      refine bw Z (fun hc3 => ?_) (fun hc3 => ?_) <;> simp only [decide_eq_true_eq,decide_eq_false_iff_not,Int.ofNat_lt] at hc3
      ·refine aw (aa (ae (av (ae (ai ?_)))))
       (refine CF (aE Z Z ?_) ?_;omega)
       refine CF (aV Z) ?_
       refine aD (T:=28) Z (ltN Z) (fun b => ?_)
       refine au 0 Z Z Z Z Z (leN Z) Z (CJ (aa (ae (ai (CF (ak 0 Z Z Z) ?_)))))
       refine CF (am (x4 ((a.getD i []).getD j (false, [])).1 ((a.getD i []).getD j (false, [])).2) Z ⟨A,CK⟩) ?_
       refine CF (cZ Z) (CJ (aa ?_))
       refine bw Z (fun hc4 => ?_) (fun hc4 => ?_)
       ·refine ae (ai (CH Z (CJ (aa (aG (a9 (aK (aK (a9 ?_)))))))))
        refine a9 (aK (aK (a9 (aK ?_))))
        refine aQ Tryz.results80 (.tmp Z (ao ?_))
        have h1:=tk (p:=fun p:Bool × List Nat=>ji p.1 p.2) (d:=(false, [])) (v:=a.getD i []) hc3 (by simpa using hc4)
        have h2:=tk (p:=jo c) (d := []) hc (by simp only [jo,Bool.and_eq_false_iff]; right;exact h1)
        simp [iJ,h2]
       ·refine aw (aL (aa (ai ?_)))
        (refine CF (cG Z Z (aO ?_ ?_)) ?_;omega;omega)
        refine CG Z (CJ ?_)
        exact cI (s:=j) (j+1) ⟨by omega,uO (d:=(false, [])) hu hc3 (by simpa using hc4)⟩ (by show (a.getD i []).length - (j+1)<(a.getD i []).length - j;omega) CB (.drop (SubM.refl _))
      ·refine a6 (ax (ax (aM (aL (aa (ai ?_))))))
       (refine CF (cG Z Z (aO ?_ ?_)) ?_;omega;omega)
       refine CG Z (CJ ?_)
       rw [List.take_of_length_le X] at hu
       exact cI (s:=i) (i+1) ⟨by omega,uO (d := []) ht hc (by simp only [jo,Bool.and_eq_true]; exact ⟨by simpa using hc2,hu⟩)⟩ (by show a.length - (i+1)<a.length - i;omega) CB (SubM.refl _)
    ·refine a6 (ax (ax (aM (aa (ae (ai (CH Z (CJ (aa ?_)))))))))
     refine aG ?_
     refine aQ Tryz.results80 (.tmp Z (ao ?_))
     rw [List.take_of_length_le X] at ht
     simp [iJ,ht,e1,e2,e3]
  ·have e2 : ¬ (0≤r∧0≤c):=by simp at hb2;omega
   refine sg0 Z Z Z Z (sg0 Z Z Z Z (sg0 Z Z Z Z (sg0 Z Z Z Z (sg0 Z Z Z Z (sg0 Z Z Z Z (CF (bp Z Z) (CJ (aa ?_))))))))
   refine bw Z (fun hc => ?_) (fun hc => ?_)
   ·refine ae (ai (CH Z (CJ (aa (aG (aK ?_))))))
    refine aQ Tryz.results80 (.tmp Z (ao ?_))
    simp only [iJ]; rw [decide_eq_false X]; rfl
   ·cases hc
 ·have e1 : ¬ 0≤r:=by simpa using hb
  refine sg0 Z Z Z Z (sg0 Z Z Z Z (sg0 Z Z Z Z (CF (bp Z Z) (CG Z (sg0 Z Z Z Z (sg0 Z Z Z Z (sg0 Z Z Z Z (sg0 Z Z Z Z (sg0 Z Z Z Z ?_)))))))))
  refine sg0 Z Z Z Z (CF (bp Z Z) (CJ (aa ?_)))
  refine bw Z (fun hc => ?_) (fun hc => ?_)
  ·refine ae (ai (CH Z (CJ (aa (aG (aK ?_))))))
   refine aQ Tryz.results80 (.tmp Z (ao ?_))
   simp [iJ,e1]
  ·cases hc
end Tor
end
section
namespace Tor
open Go Go.RowKit Go.Proofs
variable [Tor.Co.Kc]
instance {r c:Nat} {F:Nat→Nat→Int} : Flat (cF r c F) (.agg 3):=by unfold cF;infer_instance
attribute [local irreducible] J PJ aJ one slT bL bG bD exT cn eP aU aN slV VT.le Ret bS
attribute [local irreducible] aP cF
theorem lz (r c:Nat) (F:Nat→Nat→Int):Ok Tryz.prog 80 [cF r c F] (one (.bool true)):=by
 have h:=rS r c (nO r c F)
 rw [tr] at h
 exact h.le ⟨x3 r c F,CK⟩ A
end Tor
end
section
namespace Tor
open Go Go.RowKit Go.Proofs
variable [Tor.Co.Kc]
attribute [local irreducible] J PJ aJ one slT bL bG bD exT cn eP aU aN slV VT.le Ret bS
theorem x5 (n:Nat) (φ ψ χ:Nat→VT) [hF : ∀ i,Flat (χ i) (.agg 2)] (cl:VT) (hn:n≤1048576) (hC : ∀ i,i<n→fS Tryz.prog cl [φ i, ψ i] (χ i)):Ok Tryz.prog 146 [slT (.agg 2) n φ,slT (.agg 2) n ψ,cl] (slT (.agg 2) n χ):=by
 refine Ok.enter Tryz.func146 Z Tryz.ntmps146 Z (fun w O => ?_)
 refine ae (ai (CH Z (CJ (aa (ae (ai (CG Z (CF (aW Z) ?_))))))))
 refine co n n Z Z Z Z (Nat.le_refl _) Z Z X Z Z (fun bz => ?_)
 refine CH Z (CJ (aa (ae (ae (ai (CG Z (CF (iZ Z) (CG Z (CJ ?_)))))))))
 refine aa (av ?_)
 refine c8 (σ:=Nat) (fun i => [(0,slT (.agg 2) n φ),(1,slT (.agg 2) n ψ),(2,cl),(7,one (slV (some bz) n n)),(13,one (.int .i64 n)),(14,one (.int .i64 (i:Nat)))])
  (fun i => [aN (some bz) 28 (.agg 2) n n (fun q=>if q<i then χ q else bS)]) (fun i=>i≤n) (fun i=>n - i) 0 (Nat.zero_le _) CB (.keep (kG fun q hq=>by rw [if_neg X]; exact pQ _) .nil) (fun i hi => ?_)
 refine ae (ai (CF (bq Z Z) (CJ (aa (ae ?_)))))
 refine bw Z (fun hc => ?_) (fun hc => ?_) <;> simp only [decide_eq_true_eq,decide_eq_false_iff_not,ne_eq,Decidable.not_not] at hc
 ·refine aw (aa (ae (av (ae (ai (CG Z (CH Z (CJ (aa ?_)))))))))
  refine bh 13 a8 Y U (CG Z (CG Z (CG Z (CG Z (CG Z ?_)))))
  (refine CF (aE Z Z ?_) ?_;omega)
  refine CF (aV Z) (CG Z (CG Z ?_))
  (refine CF (aE Z Z ?_) ?_;omega)
  refine CF (aV Z) ?_
  refine CF (mD (hC i X) Z Z ⟨A,A,CK⟩) ?_
  (refine CF (ay Z Z ?_) ?_;omega)
  refine CJ ?_
  (refine aA 0 Z Z Z ?_ Z ?_;omega)
  refine CJ (aL (aa (ai ?_)))
  (refine CF (cG Z Z (aO ?_ ?_)) ?_;omega;omega)
  refine CG Z (CJ ?_)
  refine cI (s:=i) (i+1) (show _ from by omega) (by show n - (i+1)<n - i;omega) CB (.keep (bW fun q hq => ?_) .nil)
  unfold upd
  by_cases h:q=i
  ·subst h;rw [if_pos Z,if_pos X]
  ·rw [if_neg h]
   have e:q<i+1↔q<i:=by omega
   simp only [e]
 ·have hk:i=n:=by omega
  subst hk
  refine a6 (ax (ax (aM (aa (ae (ai (CG Z (CH Z (CJ ?_)))))))))
  refine aa (aG (c4 (t:=6) (i:=0) Z Z ?_))
  refine aQ Tryz.results146 (.tmp Z (fX fun q hq => ?_))
  rw [if_pos hq]; exact VT.le_refl _
end Tor
end
section
namespace Tor
open Go Go.RowKit Go.Proofs
variable [Tor.Co.Kc]
def gu:Nat→(Nat→Int)→Int
 | 0, _ => 0
 | n + 1, f => gu n f + f n
theorem tt {n B:Nat} {f:Nat→Int} (h : ∀ i,(f i).natAbs≤B):(gu n f).natAbs≤n*B:=by
 induction n with
 | zero => simp [gu]
 | succ n ih =>
  rw [gu,Nat.succ_mul]
  have:=h n
  omega
theorem x6 {n k:Nat} {f:Nat→Int} (hn:n≤1048576) (h : ∀ i,(aC (f i).natAbs).length≤k):(aC (gu n f).natAbs).length≤k+1:=cz (by
 have h1:=tt (n:=n) fun i=>Nat.le_of_lt (A7 (h i))
 rw [Nat.pow_succ,Nat.mul_comm]
 exact Nat.lt_of_le_of_lt h1 (Nat.mul_lt_mul_of_pos_right X (Nat.pow_pos U)))
theorem tu {n:Nat} {f:Nat→Int} (hn:n≤1048576) (h : ∀ i,(aC (f i).natAbs).length≤549755813888):bO (gu n f):=Nat.le_trans (x6 hn h) U
attribute [local irreducible] J PJ aJ one slT bL bG bD exT cn eP aU aN slV VT.le Ret bS
attribute [local irreducible] aP
end Tor
end
section
namespace Tor
open Go Go.RowKit Go.Proofs
variable [Tor.Co.Kc]
def x7 (ok:Bool) (e:Int) (r c:Nat) (F:Nat→Nat→Int):VT:=bD [cF (if ok then r else 0) (if ok then c else 0) F,one (.int .i64 (if ok then 0 else e))]
theorem rT (F:Nat→Nat→Int):VT.le (bG 3 (dS #[Value.int IntKind.i64 0,Value.int IntKind.i64 0,Value.slice none 0 0] [(0,Lay.one),(1,Lay.one),(2,Lay.one)])) (cF 0 0 F):=by
 unfold cF
 refine gh (fun q hq => ?_)
 rcases List.mem_cons.1 hq with rfl | hq
 ·exact ⟨_,List.mem_cons_self,A⟩
 rcases List.mem_cons.1 hq with rfl | hq
 ·exact ⟨_,List.mem_cons_of_mem _ List.mem_cons_self,A⟩
 rcases List.mem_cons.1 hq with rfl | hq
 ·exact ⟨_,List.mem_cons_of_mem _ (List.mem_cons_of_mem _ List.mem_cons_self),gT⟩
 ·cases hq
theorem ir:VT.le (bG 2 (dS #[Value.bool false,Value.slice none 0 0] [(0,Lay.one),(1,Lay.one)])) (aP 0):=by
 unfold aP
 refine gh (fun q hq => ?_)
 rcases List.mem_cons.1 hq with rfl | hq
 ·exact ⟨_,List.mem_cons_self,A⟩
 rcases List.mem_cons.1 hq with rfl | hq
 ·exact ⟨_,List.mem_cons_of_mem _ List.mem_cons_self,gT⟩
 ·cases hq
attribute [local irreducible] J PJ aJ one slT bL bG bD exT cn eP aU aN slV VT.le Ret bS
attribute [local irreducible] aP
theorem zQ (n m:Nat) (f g:Nat→Int) (hn:n≤1048576) (hm:m≤1048576) (hf : ∀ i,rj (f i)) (hg : ∀ i,rj (g i)) :
  Ok Tryz.prog 122 [fN n f,fN m g] (bD [aP (if n=m then gu n (fun k=>f k*g k) else 0),one (.int .i64 (if n=m then 0 else 50))]):=by
 unfold fN
 refine Ok.enter Tryz.func122 Z Tryz.ntmps122 Z (fun w O => ?_)
 refine ae (ai ?_)
 refine aD (T:=28) Z (ltN Z) (fun b => ?_)
 refine CH Z (CJ (aa (ae (ae (ai (CG Z (CF (aW Z) (CG Z (CF (aW Z) ?_)))))))))
 refine CF (eI Z Z) (CJ (aa ?_))
 refine bw Z (fun hc => ?_) (fun hc => ?_) <;> simp only [decide_eq_true_eq,decide_eq_false_iff_not,ne_eq,Decidable.not_not] at hc
 ·have hne : ¬ n=m:=by omega
  refine ae (ai (stB Z Z Z (BuildK.nil (au 0 Z Z Z Z Z (leN Z) Z (CH Z (CJ (aa (aG (aK ?_)))))))))
  refine cW Tryz.results122 (.cellB 0 Z Z Z ?_) (.tmp Z (ao ?_))
  ·rw [if_neg hne]; exact ir
  ·rw [if_neg hne]
 ·have he:n=m:=by omega
  subst he
  refine aw (aa (ae (ai ?_)))
  refine aD (T:=28) Z (ltN Z) (fun b => ?_)
  refine CJ (aa (ae (ae (ai (CG Z (CG Z ?_))))))
  rename_i b4
  refine CF (am (x5 n (fun j=>aP (f j)) (fun j=>aP (g j)) (fun j=>aP (f j*g j)) (one (.func (.func 87) #[] #[])) hn (fun i hi=>fS.fn (gm _ _ (nt (hf i)) (nt (hg i))))) Z ⟨A,A,A,CK⟩) ?_
  refine CF (aW Z) (CG Z (CJ (aa (av ?_))))
  refine c8 (σ:=Nat) (fun i => [(4,one (.pointer (some ⟨b4,0,none⟩))),(6,one (.pointer (some ⟨b,0,none⟩))),(17,slT (.agg 2) n (fun j=>aP (f j*g j))),(18,one (.int .i64 n)),(19,one (.int .i64 (i:Nat)))])
   (fun i => [aU b 28 2 [(0, .agg 2,aP (gu i (fun k=>f k*g k)))],aU b4 28 2 [(0, .agg 2,one (.agg #[.bool false, .slice none 0 0]))]])
   (fun i=>i≤n) (fun i=>n - i) 0 (Nat.zero_le _) CB (.keep (t5 fun q hq=>by rcases List.mem_cons.1 hq with rfl | hq;exact ⟨_,List.mem_cons_self,rO⟩;cases hq) (SubM.refl _)) (fun i hi => ?_)
  refine ae (ai (CF (bq Z Z) (CJ (aa (ae ?_)))))
  refine bw Z (fun hc => ?_) (fun hc => ?_) <;> simp only [decide_eq_true_eq,decide_eq_false_iff_not,Int.ofNat_lt] at hc
  ·refine aw (aa (ae (av (ae (ai ?_)))))
   (refine CF (aE Z Z ?_) ?_;omega)
   refine CF (aV Z) ?_
   refine aD (T:=28) Z (ltN Z) (fun b => ?_)
   refine au 0 Z Z Z Z Z (leN Z) Z (CJ (aa (ai (CF (ak 1 Z Z Z) (CF (ak 0 Z Z Z) ?_)))))
   refine CF (am (gl (gu i (fun k=>f k*g k)) (f i*g i) (tu X (fun k=>rm (hf k) (hg k))) (vr (hf i) (hg i))) Z ⟨A,A,CK⟩) ?_
   refine au 1 Z Z Z Z Z (leN Z) Z (CJ (aL (aa (ai ?_))))
   (refine CF (cG Z Z (aO ?_ ?_)) ?_;omega;omega)
   refine CG Z (CJ ?_)
   exact cI (s:=i) (i+1) (show _ from by omega) (by show n - (i+1)<n - i;omega) CB (.drop (.keep CE (SubM.refl _)))
  ·have hin:i=n:=by omega
   subst hin
   refine a6 (ax (ax (aM (aa (ae (ai (CF (ak 0 Z Z Z) (au 1 Z Z Z Z Z (leN Z) Z (CH Z ?_)))))))))
   refine CJ (aa (aG ?_))
   refine cW Tryz.results122 (.cellB 1 Z Z Z ?_) (.tmp Z (ao ?_))
   ·rw [if_pos Z]; exact VT.le_refl _
   ·rw [if_pos Z]
theorem BC (n m:Nat) (f g:Nat→Int) (hn:n≤1048576) (hm:m≤1048576) (hf : ∀ i,fZ (f i)) (hg : ∀ i,fZ (g i)) :
  Ok Tryz.prog 122 [fN n f,fN m g] (bD [aP (if n=m then gu n (fun k=>f k*g k) else 0),one (.int .i64 (if n=m then 0 else 50))]) :=
 zQ n m f g hn hm (fun i=>(hf i).L) (fun i=>(hg i).L)
end Tor
end
section
namespace Tor
open Go Go.RowKit Go.Proofs
variable [Tor.Co.Kc]
def outs (n:Nat) (l:List Int):Bool:=l.any fun x=>decide (x<0∨(n:Int)≤x)
theorem uP {n:Nat} {l:List Int} (h:outs n l=false) {i:Nat} (hi:i<l.length):0≤l.getD i 0∧l.getD i 0<n:=by
 have:=List.any_eq_false.1 h (l.getD i 0) (by simp only [List.getD,List.getElem?_eq_getElem hi,Option.getD_some]; exact List.getElem_mem hi)
 simp only [decide_eq_true_eq] at this;omega
def rU (l m:List Int) (F:Nat→Nat→Int):Nat→Nat→Int:=fun i j=>F (l.getD i 0).toNat (m.getD j 0).toNat
def jp (F:Nat→Nat→Int) (i j:Nat):Nat→Nat→Int:=fun q k=>if q<i∨(q=i∧k<j) then F q k else 0
theorem vU {T:TypeId} {c:Nat} {bs:List Nat} {F:Nat→Nat→Int} {i j:Nat} (x:Int) (hx:x=F i j) :
  Own.le (dT T (.agg 2) c bs (m7 (fun q k=>aP (jp F i j q k)) i j (aP x))) (dT T (.agg 2) c bs (fun q k=>aP (jp F i (j+1) q k))):=by
 subst hx
 refine m6 fun q k hq hk => ?_
 unfold m7 jp
 by_cases h:q=i∧k=j
 ·obtain ⟨rfl,rfl⟩:=h;simp
 ·rw [if_neg h]
  have e:(q<i∨q=i∧k<j+1)↔(q<i∨q=i∧k<j):=by omega
  simp only [e]
theorem tv {c:Nat} {bs:List Nat} {F:Nat→Nat→Int} {i:Nat} : Own.le (iK c bs (jp F i c)) (iK c bs (jp F (i+1) 0)):=by
 refine iL fun q k hq hk => ?_
 unfold jp
 have e:(q<i∨q=i∧k<c)↔(q<i+1∨q=i+1∧k<0):=by omega
 simp only [e]
attribute [local irreducible] J PJ aJ one slT bL bG bD exT cn eP aU aN slV VT.le Ret bS
attribute [local irreducible] aP dT
end Tor
end
section
namespace Tor
open Go Go.RowKit Go.Proofs
variable [Tor.Co.Kc]
theorem zR {sv:Option Nat} {T:TypeId} {L:Lay} {cap n m:Nat} {φ ψ χ:Nat→VT} (hm:m=n+1) (h1 : ∀ q,q<n→φ q=χ q) (h2:ψ 0=χ n) :
  Own.le (aN sv T L cap (n+1) (fun q=>if q<n then φ q else ψ (q - n))) (aN sv T L cap m χ):=by
 subst hm
 refine bW fun q hq => ?_
 by_cases h:q<n
 ·rw [if_pos h]; exact h1 q h
 ·have:q=n:=by omega
  subst this
  rw [if_neg h,Nat.sub_self]; exact h2
theorem x8 {sv:Option Nat} {T:TypeId} {L:Lay} {cap n m:Nat} {φ χ:Nat→VT} {ψ:VT} (hm:m=n+1) (h1 : ∀ q,q<n→φ q=χ q) (h2:ψ=χ n) :
  Own.le (aN sv T L cap (n+1) (fun q=>if q<n then φ q else ψ)) (aN sv T L cap m χ):=zR (ψ:=fun _=>ψ) hm h1 h2
theorem BD {n:Nat} {l:List Int} (h : ∀ i,i<l.length→0≤l.getD i 0∧l.getD i 0<n):outs n l=false:=by
 rw [outs,List.any_eq_false]
 intro x hx
 obtain ⟨i,hi,rfl⟩:=List.getElem_of_mem hx
 have:=h i hi
 have e:l.getD i 0=l[i]:=by simp [List.getD,hi]
 rw [e] at this
 simp;omega
theorem AG {n:Nat} {l:List Int} {i:Nat} (hi:i<l.length) (h:l.getD i 0<0∨(n:Int)≤l.getD i 0):outs n l=true:=by
 rw [outs,List.any_eq_true]
 have e:l.getD i 0=l[i]:=by simp [List.getD,hi]
 rw [e] at h
 exact ⟨l[i],List.getElem_mem hi,decide_eq_true h⟩
attribute [local irreducible] J PJ aJ one slT bL bG bD exT cn eP aU aN slV VT.le Ret bS
attribute [local irreducible] aP dT
theorem nP (l:List Int) (n:Nat) (hl:l.length≤1048576):Ok Tryz.prog 141 [iM .i64 l,one (.int .i64 n)] (one (.bool (!outs n l))):=by
 unfold iM
 refine Ok.enter Tryz.func141 Z Tryz.ntmps141 Z (fun w O => ?_)
 refine ae (ai (CH Z (CJ (aa (ae (ae (ai (CH Z (CJ ?_)))))))))
 refine aa (av (ch (Γ' := [(0,_),(1,_),(4,_),(5,_)]) Cz (SubM.refl _) ?_))
 refine bE (σ:=Nat) (Γk := [(0,_),(1,_)]) Cz (fun i => [(5,one (.int .i64 (i:Nat)))]) (fun i M0=>M0) (fun i=>i≤l.length ∧ ∀ j,j<i→0≤l.getD j 0∧l.getD j 0<n) (fun i=>l.length - i) (0) (⟨Nat.zero_le _,fun j hj=>absurd hj (Nat.not_lt_zero _)⟩) CA (.nil) (fun i hi => ?_)
 refine bR (Γ' := [(5,_),(0,_),(1,_)]) (M' := []) Z Z (ae (ae (ai (CG Z (CG Z (CF (aW Z) (CF (bq Z Z) (CJ (aa ?_)))))))))
 refine mq Z (fun hc => ?_) (fun hc => ?_)
 ·by_cases h1:l.getD i 0<0
  ·refine aw (aa (ae (av (ae (ai (CG Z (CG Z ?_)))))))
   (refine CF (aE Z Z ?_) ?_;omega)
   refine CF (aV Z) (CF (sT (by assumption) (bq Z Z)) (CG Z (sg0 Z Z Z Z (sg0 Z Z Z Z (sg0 Z Z Z Z (sg0 Z Z Z Z (sg0 Z Z Z Z (sg0 Z Z Z Z (CF (bp Z Z) ?_)))))))))
   refine CJ (aa (aI Z (ae (ai (CH Z (CJ (aa (aG (a9 ?_)))))))))
   refine aK (aK (a9 (aK ?_)))
   refine aQ Tryz.results141 (.tmp Z (ao (by rw [AG (show i<l.length by omega) (.inl h1)]; rfl)))
  ·by_cases h2:(n:Int)≤l.getD i 0
   ·refine aw (aa (ae (av (ae (ai (CG Z (CG Z ?_)))))))
    (refine CF (aE Z Z ?_) ?_;omega)
    refine CF (aV Z) (CF (sF (by assumption) (bq Z Z)) (CG Z (CI (ab Z) (CI (ab Z) ?_))))
    (refine CI (aE Z Z ?_) ?_;omega)
    refine CI (aV Z) (CI (ab Z) (CI (sT (by assumption) (dF Z Z)) (CF (bK Z Z) (CJ (aa (aI Z (ae (ai (CH Z ?_)))))))))
    refine CJ (aa (aG (a9 (aK (aK (a9 (aK ?_)))))))
    refine aQ Tryz.results141 (.tmp Z (ao (by rw [AG (show i<l.length by omega) (.inr h2)]; rfl)))
   ·refine aw (aa (ae (av (ae (ai (CG Z (CG Z ?_)))))))
    (refine CF (aE Z Z ?_) ?_;omega)
    refine CF (aV Z) (CF (sF (by assumption) (bq Z Z)) (CG Z (CI (ab Z) (CI (ab Z) ?_))))
    (refine CI (aE Z Z ?_) ?_;omega)
    refine CI (aV Z) (CI (ab Z) (CI (sF (by assumption) (dF Z Z)) (CF (bK Z Z) (CJ (aa (aB Z (aw (aL (aa ?_)))))))))
    refine ai (CG Z ?_)
    (refine CF (cG Z Z (aO ?_ ?_)) ?_;omega;omega)
    refine CH Z (CJ ?_)
    refine aR (i+1) (⟨by omega,fun j hj=>(Nat.lt_succ_iff_lt_or_eq.1 hj).elim (hi.2 j) (fun e=>by subst e;omega)⟩) X CA (.nil)
 ·refine a6 (ax (ax (aM (aa (ae (ai (CH Z (CJ (aa ?_)))))))))
  refine aG ?_
  refine aQ Tryz.results141 (.tmp Z (ao (by rw [BD (fun j hj=>hi.2 j X)]; rfl)))
theorem vV (n:Nat) (hn:n≤1048576):Ok Tryz.prog 111 [one (.int .i64 n)] (slT .one n (fun i=>one (.int .i64 (i:Nat)))):=by
 refine Ok.enter Tryz.func111 Z Tryz.ntmps111 Z (fun w O => ?_)
 refine ae (ai (CH Z (CJ (aa (ae (ai (mo (n:=0) Z Z Z Z Z ?_)))))))
 refine PartsK.nil (fun bl => ?_)
 refine CH Z (CJ (aa (ae (ae (ai (CH Z (CJ (aa (av ?_)))))))))
 refine ch (Γ' := [(0,_),(2,_),(3,_),(4,_)]) Cz (SubM.refl _) ?_
 refine bE (σ:=Nat × Option Nat × Nat) (Γk := [(0,_),(2,_)]) Cz (fun s => [(4,one (.int .i64 (s.1:Nat))),(3,one (slV s.2.1 s.1 s.2.2))]) (fun s M0=>(M0.set 0 (aN s.2.1 3 .one s.2.2 s.1 (fun q=>one (.int .i64 (q:Nat)))))) (fun s=>s.1≤n) (fun s=>n - s.1) ((0,some bl,0)) (Nat.zero_le _) CA (.keep (bW (fun q hq=>by omega)) (.nil)) (fun s hs => ?_)
 refine bR (Γ' := [(4,_),(3,_),(0,_),(2,_)]) (M' := [_]) Z Z ?_
 obtain ⟨i,sv,cap⟩:=s
 dsimp only at hs ⊢
 refine ae (ae (ai (CG Z (CG Z (CF (bq Z Z) (CJ (aa ?_)))))))
 refine mq Z (fun hc => ?_) (fun hc => ?_)
 ·refine aw (aa (ae (av (ai (CG Z (CG Z (jW Z Z Z Z ?_)))))))
  (refine cX 0 Z Z Z (leN Z) ?_ ?_ Z (ltN Z) (fun sv14 cap14 => ?_);omega;omega)
  refine CH Z (CJ (aL (aa (ai (CG Z ?_)))))
  (refine CF (cG Z Z (aO ?_ ?_)) ?_;omega;omega)
  refine CH Z (CJ ?_)
  refine aR ((i+1,sv14,cap14)) X X CA (.keep (x8 Z (fun _ _=>rfl) Z) (.nil))
 ·have e:i=n:=by omega
  subst e
  refine a6 (ax (ax (aM (aa (ae (ai (CG Z (CH Z (CJ ?_)))))))))
  refine aa (aG (c4 (t:=2) (i:=0) Z Z ?_))
  refine aQ Tryz.results111 (.tmp Z A)
end Tor
end
section
namespace Tor
open Go Go.RowKit Go.Proofs
variable [Tor.Co.Kc]
def l7 (r c:Nat) (l:List Int):VT:=bG 3 [(0, .one,one (.int .u8 r)),(1, .one,one (.int .u8 c)),(2, .one,iM .i8 l)]
theorem Cg (n:Nat):(n:Int).tmod 5=((n % 5:Nat):Int):=by
 rw [Int.tmod_eq_emod_of_nonneg X]; omega
attribute [local irreducible] J PJ aJ one slT bL bG bD exT cn eP aU aN slV VT.le Ret bS
attribute [local irreducible] aP dT
end Tor
end
section
namespace Tor
open Go Go.RowKit Go.Proofs
variable [Tor.Co.Kc]
theorem vW {sv:Option Nat} {T:TypeId} {cap i:Nat} {h:Nat→Int} {x:Int} (hx:x=h i):Own.le (aN sv T (.agg 2) cap (i+1) (fun q=>if q<i then aP (h q) else aP x)) (aN sv T (.agg 2) cap (i+1) (fun q=>aP (h q))):=bW fun q hq=>by
 by_cases c:q<i
 ·rw [if_pos c]
 ·rw [if_neg c,hx,show q=i by omega]
attribute [local irreducible] J PJ aJ one slT bL bG bD exT cn eP aU aN slV VT.le Ret bS
attribute [local irreducible] aP dT
end Tor
end
section
namespace Tor
def jq (j:Nat) (g:Nat→Int):Nat→Int:=fun q=>if q=j then g (j+1) else if q=j+1 then g j else g q
def vX:Nat→(Nat→Int)→Nat→Int
 | 0, g => g
 | j + 1, g => if g j < g (j + 1) then vX j (jq j g) else g
def ey:Nat→(Nat→Int)→Nat→Int
 | 0, g => g
 | i + 1, g => vX i (ey i g)
def lst (n:Nat) (g:Nat→Int):List Int:=(List.range n).map g
theorem gP (n:Nat) (g:Nat→Int):lst (n+1) g=lst n g ++ [g n]:=by unfold lst;rw [List.range_succ,List.map_append]; rfl
theorem vY {n:Nat} {g h:Nat→Int} (e : ∀ i,i<n→g i=h i):lst n g=lst n h:=List.map_congr_left fun i hi=>e i (List.mem_range.1 hi)
theorem o4 {j:Nat} (g:Nat→Int) : ∀ {n:Nat},j+1<n→(lst n (jq j g)).Perm (lst n g)
 | 0, h => absurd h (Nat.not_lt_zero _)
 | n + 1, h => by
  by_cases e:n=j+1
  ·subst e
   rw [gP,gP,gP,gP,vY (g:=jq j g) (h:=g) (fun i hi=>by unfold jq;rw [if_neg X,if_neg X])]
   have e1:jq j g j=g (j+1):=by unfold jq;rw [if_pos Z]
   have e2:jq j g (j+1)=g j:=by unfold jq;rw [if_neg X,if_pos Z]
   rw [e1,e2,List.append_assoc,List.append_assoc]
   exact List.Perm.append_left _ (List.Perm.swap _ _ _)
  ·rw [gP,gP]
   have e1:jq j g n=g n:=by unfold jq;rw [if_neg X,if_neg X]
   rw [e1]
   exact (o4 g X).append_right _
theorem o5 {n:Nat} : ∀ {j:Nat} {g:Nat→Int},j<n→(lst n (vX j g)).Perm (lst n g)
 | 0, g, _ => List.Perm.refl _
 | j + 1, g, h => by
  show (lst n (if g j<g (j+1) then vX j (jq j g) else g)).Perm _
  split
  ·exact (o5 X).trans (o4 g h)
  ·exact List.Perm.refl _
theorem iN {n:Nat} (g:Nat→Int) : ∀ {i:Nat},i≤n→(lst n (ey i g)).Perm (lst n g)
 | 0, _ => List.Perm.refl _
 | i + 1, h => (o5 X).trans (iN g X)
def prZ:Nat→(Nat→Int)→Int
 | 0, _ => 1
 | n + 1, g => prZ n g * g n
def prL (l:List Int):Int:=l.foldr (fun x y=>x*y) 1
theorem zS (l:List Int) (x:Int):prL (l ++ [x])=prL l*x:=by
 induction l with
 | nil => show x * 1 = 1 * x; rw [Int.mul_one, Int.one_mul]
 | cons y l ih => show y * prL (l ++ [x]) = y * prL l * x; rw [ih, Int.mul_assoc]
theorem uQ (n:Nat) (g:Nat→Int):prZ n g=prL (lst n g):=by
 induction n with
 | zero => rfl
 | succ n ih => rw [gP, zS, ← ih]; rfl
theorem x9 {l m:List Int} (h:l.Perm m):prL l=prL m:=by
 induction h with
 | nil => rfl
 | cons x h ih => show x * prL _ = x * prL _; rw [ih]
 | swap x y l => show y * (x * prL l) = x * (y * prL l); rw [← Int.mul_assoc, ← Int.mul_assoc, Int.mul_comm y x]
 | trans h1 h2 ih1 ih2 => exact ih1.trans ih2
theorem ya (n:Nat) (g:Nat→Int):prZ n (ey n g)=prZ n g:=by
 rw [uQ,uQ]; exact x9 (iN g (Nat.le_refl n))
end Tor
end
section
namespace Tor
open Go Go.RowKit Go.Proofs
variable [Tor.Co.Kc]
theorem zT {x k:Nat} (hk:k<64) (h1:2^k≤x) (h2:x<2^(k+1)):fw x=k+1:=by
 have h3:=gV (n:=k+1) (x:=x) h2 X
 have h4:=mI (x:=x) (by
  have:2^(k+1)≤2^64:=Nat.pow_le_pow_right (n:=2) (i:=k+1) (j:=64) U X
  omega)
 rcases Nat.lt_or_ge (fw x) (k+1) with h | h
 ·have:=Nat.pow_le_pow_right (n:=2) (i:=fw x) (j:=k) U X
  omega
 ·omega
theorem vZ {b:Nat} {T:TypeId} : Own.le (aU b T 2 [(0, .agg 2,bG 2 (dS #[Value.bool false,Value.slice none 0 0] [(0, .one),(1, .one)]))]) (aU b T 2 [(0, .agg 2,aP 0)]):=t5 (fun q hq=>by
 rw [List.mem_singleton.1 hq]
 exact ⟨_,List.mem_cons_self,ij⟩)
theorem o6 (n:Nat) (hn:n≤1000000):VT.le (slT .one (n / 32+1) (upd (fun _=>one (.int .u32 0)) (n / 32) (one (.int .u32 ((2^(n % 32):Nat):Int))))) (np (2^n)) :=
 VT.le_trans (ci (m:=((List.replicate (n / 32+1) 0).set (n / 32) (2^(n % 32))).length) (ψ:=fx ((List.replicate (n / 32+1) 0).set (n / 32) (2^(n % 32)))) (by simp) (fun q hq=>by
  unfold upd fx
  by_cases h:q=n / 32
  ·subst h;rw [if_pos Z]; simp [List.getD]
  ·rw [if_neg h]
   simp only [List.getD,List.getElem?_set,if_neg (Ne.symm h),List.getElem?_replicate,if_pos hq]; rfl)) (gk (jG n).1 (jG n).2 (by simp;omega))
attribute [local irreducible] J PJ aJ one slT bL bG bD exT cn eP aU aN slV VT.le Ret bS
theorem wa (x:Int) (a:Nat) (hx:x.natAbs=a) (h0:a≠0) (ha:(aC a).length≤1099511627776):Ok Tryz.prog 119 [aP x] (one (.int .i64 (im a:Nat))):=by
 have hl0:(aC a).length≠0:=fun k=>h0 (er k)
 have htop:=rG h0
 have hlt:=aY (aX a) ((aC a).length - 1)
 unfold im
 rw [if_neg h0]
 unfold aP
 rw [hx]
 refine Ok.enter Tryz.func119 Z Tryz.ntmps119 Z (fun w O => ?_)
 refine ae (ai ?_)
 refine bm Z Z (ltN Z) (fun b1 => ?_)
 refine CH Z (CJ (aa (ae (ai (CF (aj Z) (CF (ak 0 Z Z Z) (CF (aW Z) (CF (ni 32 _ Z Z X) (CH Z ?_)))))))))
 refine CJ (aa (ae (ae (ai (CF (aj Z) (CF (ak 0 Z Z Z) (CF (aW Z) (CF (bT _ 1 Z Z X X) (CH Z ?_)))))))))
 refine CJ (aa (av (ch (Γ' := [(1,_),(2,_),(3,_),(4,_)]) Cz (SubM.refl _) ?_)))
 refine bE (σ:=Unit) (Γk := [(1,_)]) Cz (fun u => [(4,one (.int .i64 (((aC a).length - 1:Nat):Int))),(3,one (.int .i64 ((32*(aC a).length:Nat):Int)))]) (fun u M0=>M0) (fun u=>True) (fun u=>0) (()) (trivial) CA (.keep CE (.nil)) (fun u hu => ?_)
 refine bR (Γ' := [(4,_),(3,_),(1,_)]) (M' := [_]) Z Z (ae (ae (ai (CG Z (CF (sT X (dF Z Z)) (CJ (aa (aI Z (aw ?_)))))))))
 refine aa (ae (av (ae (ai (CH Z (CJ (aa (av (ch (Γ' := [(1,_),(3,_),(4,_),(5,_)]) Cz (SubM.refl _) ?_)))))))))
 refine bE (σ:=Nat) (Γk := [(1,_),(4,_)]) Cz (fun c => [(5,one (.int .i64 ((c:Nat) - 1:Int))),(3,one (.int .i64 ((32*(aC a).length - (32 - c):Nat):Int)))]) (fun c M0=>M0) (fun c=>c≤32∧(aC a).getD ((aC a).length - 1) 0<2^c) (fun c=>c) (32) (⟨Nat.le_refl _,hlt⟩) CA (.keep CE (.nil)) (fun c hc => ?_)
 refine bR (Γ' := [(5,_),(3,_),(1,_),(4,_)]) (M' := [_]) Z Z ?_
 obtain ⟨c1,c2⟩:=hc
 cases c with
 | zero => omega
 | succ c =>
  have hd:(aC a).getD ((aC a).length - 1) 0 / 2^c<2:=Nat.div_lt_of_lt_mul (by rw [← Nat.pow_succ]; exact c2)
  have en:((c+1:Nat):Int) - 1=(c:Nat):=by omega
  rw [en]
  by_cases hb:2^c≤(aC a).getD ((aC a).length - 1) 0
  ·have hq:(aC a).getD ((aC a).length - 1) 0 / 2^c=1:=by
    have:=Nat.div_pos hb (Nat.two_pow_pos c)
    omega
   rw [zT X hb c2]
   refine ae (ae (ai (CG Z (CF (sT X (dF Z Z)) (CJ (aa (aI Z (aw (aa ?_)))))))))
   refine ae (av (ae (ae (ai (CF (aj Z) (CF (ak 0 Z Z Z) (CG Z (CF (aE Z Z X) (CF (aV Z) ?_)))))))))
   refine CG Z (CF (iB Z Z (by assumption)) (gM (t:=28) (ψ:=one (.int .u32 1)) Z (ao (by rw [hq]; rfl)) (CF (tV (a:=1) (b:=1) (r:=1) Z Z U) (CF (sT X (cq Z Z)) (CJ (aa (aI Z (ae (ai ?_)))))))))
   refine CG Z (CF (ni 32 _ Z Z X) (CG Z (CF (bQ _ _ Z Z X) (CF (bQ _ 1 Z Z X) (CH Z (CJ (aa (aG (aK ?_)))))))))
   refine a9 (aK (aK (a9 (a9 (aK (aK (a9 (aK ?_))))))))
   refine aQ Tryz.results119 (.tmp Z A)
  ·have hq:(aC a).getD ((aC a).length - 1) 0 / 2^c=0:=Nat.div_eq_of_lt X
   refine ae (ae (ai (CG Z (CF (sT X (dF Z Z)) (CJ (aa (aI Z (aw (aa ?_)))))))))
   refine ae (av (ae (ae (ai (CF (aj Z) (CF (ak 0 Z Z Z) (CG Z (CF (aE Z Z X) (CF (aV Z) ?_)))))))))
   refine CG Z (CF (iB Z Z (by assumption)) (gM (t:=28) (ψ:=one (.int .u32 0)) Z (ao (by rw [hq]; rfl)) (CF (tV (a:=0) (b:=1) (r:=0) Z Z U) (CF (sF X (cq Z Z)) (CJ (aa (aB Z (aw (aa ?_)))))))))
   refine ai (CG Z (CF (bT _ 1 Z Z X X) (CH Z (CJ (aL (aa (ai (CG Z (CF (dx Z Z (aO X X)) ?_)))))))))
   refine CH Z (CJ ?_)
   refine aR (c) (⟨by omega,by omega⟩) X CA (.keep CE (.nil))
theorem yb (a:Nat) (h0:a≠0) (ha:(aC a).length≤1099511627776):Ok Tryz.prog 119 [aP (a:Int)] (one (.int .i64 (im a:Nat))):=wa (a:Int) a (Int.natAbs_natCast a) h0 ha
theorem yc (a s:Nat) (ha:a<2^800) (h1:s*s≤a) (h2:a<(s+1)*(s+1)) (hb : ∃ bn,Ok Tryz.prog 119 [aP (a:Int)] (one (.int .i64 (bn:Nat)))∧a<2^bn∧bn≤832):Ok Tryz.prog 79 [aP (a:Int)] (bD [aP (s:Int),one (.int .i64 0)]):=by
 obtain ⟨bn,hbi,hbl,hb8⟩:=hb
 have hsi:=dY (a:Int)
 have hsg : ¬ fm (a:Int)<0:=by unfold fm;split <;> (try split) <;> omega
 obtain ⟨e3,he3⟩ : ∃ e,e=419:=⟨_,rfl⟩
 have hs3:s<2^e3:=by
  rcases Nat.lt_or_ge s (2^e3) with h | h
  ·exact h
  ·have h5:=Nat.mul_le_mul h h
   rw [← Nat.pow_add] at h5
   have h6:=eE 800 (e3+e3) X
   omega
 have sma:bO (a:Int):=cP (Nat.lt_of_lt_of_le ha (eE 800 2048 U))
 have hst:a<(0+2^((bn+1) / 2+1))*(0+2^((bn+1) / 2+1)):=by
  rw [Nat.zero_add, ← Nat.pow_add]
  exact Nat.lt_of_lt_of_le hbl (eE _ _ X)
 refine Ok.enter Tryz.func79 Z Tryz.ntmps79 Z (fun w O => ?_)
 refine ae (ai ?_)
 refine bm Z Z (ltN Z) (fun b1 => ?_)
 refine aD (T:=28) Z (ltN Z) (fun b2 => ?_)
 refine CH Z (CJ (aa (ae (ae (ai (CF (bB 1 Z Z) ?_))))))
 refine CF (am (hsi) Z ⟨A,CK⟩) ?_
 refine CF (sF (by assumption) (bq Z Z)) (CJ (aa (aB Z (aw (aa (ae (ai (stB Z Z Z (BuildK.nil ?_)))))))))
 refine aD (T:=28) Z (ltN Z) (fun b4 => ?_)
 refine au 0 Z Z Z Z Z (leN Z) Z (CJ (aa (ae (ae (ai (CF (bB 2 Z Z) ?_))))))
 refine CF (am (hbi) Z ⟨A,CK⟩) ?_
 refine CF (bQ _ 1 Z Z X) (CF (lL 2 Z Z Z U X) (CH Z (CJ (aa (av (ch (Γ' := [(1,_),(2,_),(3,_),(4,_),(5,_)]) Cz (SubM.refl _) ?_))))))
 refine bE (σ:=Nat × Nat) (Γk := [(1,_),(2,_),(3,_),(4,_)]) Cz (fun p => [(5,one (.int .i64 ((p.1:Nat) - 1:Int)))]) (fun p M0=>(M0.set 0 (aU b4 28 (Lay.agg 2).sz [(0,Lay.agg 2,aP (p.2:Int))]))) (fun p=>p.1≤418∧p.2*p.2≤a∧a<(p.2+2^p.1)*(p.2+2^p.1)) (fun p=>p.1) (((bn+1) / 2+1,0)) (⟨by dsimp only;omega,Nat.zero_le _,hst⟩) CA (.keep (vZ) (.keep CE (.keep CE (.nil)))) (fun p hp => ?_)
 refine bR (Γ' := [(5,_),(1,_),(2,_),(3,_),(4,_)]) (M' := [_,_,_]) Z Z ?_
 obtain ⟨c,out⟩:=p
 dsimp only at hp ⊢
 obtain ⟨p1,p2,p3⟩:=hp
 have hos:out≤s:=by
  rcases Nat.lt_or_ge s out with h | h
  ·have h5:(s+1)*(s+1)≤out*out:=Nat.mul_le_mul h h
   exact absurd (Nat.lt_of_lt_of_le h2 (Nat.le_trans h5 p2)) (Nat.lt_irrefl _)
  ·exact h
 cases c with
 | zero =>
  rw [Nat.pow_zero] at p3
  have he:out=s:=by
   rcases Nat.lt_or_ge out s with h | h
   ·have h5:(out+1)*(out+1)≤s*s:=Nat.mul_le_mul h h
    exact absurd (Nat.lt_of_lt_of_le p3 (Nat.le_trans h5 h1)) (Nat.lt_irrefl _)
   ·exact Nat.le_antisymm hos h
  refine ae (ae (ai (CG Z (CF (sF X (dF Z Z)) (CJ (aa (aB Z (a6 (ax ?_)))))))))
  refine ax (aM (aa (ae (ai (CF (ak 0 Z Z Z) (au 1 Z Z Z Z Z (leN Z) Z (CH Z (CJ (aa ?_)))))))))
  refine aG ?_
  refine cW Tryz.results79 (.cellB 1 Z Z Z (bV (by rw [he]))) (.tmp Z A)
 | succ n =>
  have en:((n+1:Nat):Int) - 1=(n:Nat):=by omega
  rw [en]
  have hn3:2^n≤2^e3:=eE _ _ X
  have hmd:=cY false (2^n)
  rw [if_neg U] at hmd
  have ho3:out+2^n<2^(e3+1):=by rw [xz e3 (e3+1) Z]; exact Nat.add_lt_add_of_lt_of_le (Nat.lt_of_le_of_lt hos hs3) hn3
  have s1:bO (out:Int):=cP (Nat.lt_of_lt_of_le (show (out:Int).natAbs<2^e3 by omega) (eE e3 2048 X))
  have s2:bO ((2^n:Nat):Int):=cP (Nat.lt_of_le_of_lt (show ((2^n:Nat):Int).natAbs≤2^e3 by rw [Int.natAbs_natCast]; exact hn3) (Nat.pow_lt_pow_right (a:=2) (m:=e3) (n:=2048) U X))
  have s3:bO ((out+2^n:Nat):Int):=cP (Nat.lt_of_lt_of_le (show ((out+2^n:Nat):Int).natAbs<2^(e3+1) by rw [Int.natAbs_natCast]; exact ho3) (eE (e3+1) 2048 X))
  have hpp:=Nat.mul_lt_mul'' ho3 ho3
  rw [← Nat.pow_add] at hpp
  have s4:bO (((out+2^n)*(out+2^n):Nat):Int):=cP (Nat.lt_of_lt_of_le (show (((out+2^n)*(out+2^n):Nat):Int).natAbs<2^(e3+1+(e3+1)) by rw [Int.natAbs_natCast]; exact hpp) (eE (e3+1+(e3+1)) 2048 X))
  have had:=fp (out:Int) ((2^n:Nat):Int) s1 s2
  rw [← Int.natCast_add] at had
  have hmu:=fv ((out+2^n:Nat):Int) ((out+2^n:Nat):Int) s3 s3
  rw [← Int.natCast_mul] at hmu
  have hcm:=nu (((out+2^n)*(out+2^n):Nat):Int) (a:Int) s4 sma
  rw [Nat.pow_succ,show out+2^n*2=(out+2^n)+2^n by omega] at p3
  refine ae (ae (ai (CG Z (CF (sT X (dF Z Z)) (CJ (aa (aI Z (aw (aa ?_)))))))))
  refine ae (av (ae (ai (CG Z (CF (lL 32 Z Z Z U X) (CF (bQ _ 1 Z Z X) ?_))))))
  refine co (n / 32+1) (n / 32+1) Z Z Z Z (Nat.le_refl _) Z Z X Z Z (fun bz => ?_)
  refine CH Z (CJ (aa (ae (ai (CG Z (CG Z (CF (lL 32 Z Z Z U X) (CG Z (CF (ef 32 Z Z Z U) ?_)))))))))
  refine CF (xy (s:=n % 32) Z Z X) (CF (ay Z Z X) ?_)
  (refine aA 0 Z Z Z ?_ Z ?_;omega)
  refine CJ (aa (ae (mW (t:=6) (i:=0) Z Z ?_)))
  by_cases hle:(out+2^n)*(out+2^n)≤a
  ·have hc0:cK (((out+2^n)*(out+2^n):Nat):Int) (a:Int)≤0:=by unfold cK;split <;> (try split) <;> omega
   refine eA a8 Y Y ?_
   refine ux (fun B=>ak 0 Z Z Z) Z Z ?_
   refine ux (fun B=>ab Z) Z Z ?_
   refine uxk (hmd) Z ⟨(o6 n X),A,CK⟩ Z ?_
   refine uxk (had) Z ⟨A,A,CK⟩ Z ?_
   refine ua Z (us Z ?_)
   refine RunU.nil (fun γ => ?_)
   refine cT (M' := [_,_,_,_]) Z (aa (ae (bh 6 a8 Y U (CF (ak 0 Z Z Z) (CF (ak 0 Z Z Z) ?_)))))
   refine CF (am (hmu) Z ⟨A,A,CK⟩) ?_
   refine CF (bB 3 Z Z) ?_
   refine CF (am (hcm) Z ⟨A,A,CK⟩) ?_
   refine CF (sT (by assumption) (po Z Z)) (CJ (CJ (aa (aI Z (ai (CF (ak 0 Z Z Z) (au 1 Z Z Z Z Z (leN Z) Z (CJ (aL ?_)))))))))
   refine aa (ai (CG Z (CF (dx Z Z (aO X X)) (CH Z (CJ ?_)))))
   refine aR ((n,out+2^n)) (⟨by dsimp only;omega,hle,p3⟩) X CA (.drop (.keep CE (.keep CE (.keep CE (.nil)))))
  ·have hc0 : ¬ cK (((out+2^n)*(out+2^n):Nat):Int) (a:Int)≤0:=by unfold cK;rw [if_neg X,if_pos X]; decide
   refine eA a8 Y Y ?_
   refine ux (fun B=>ak 0 Z Z Z) Z Z ?_
   refine ux (fun B=>ab Z) Z Z ?_
   refine uxk (hmd) Z ⟨(o6 n X),A,CK⟩ Z ?_
   refine uxk (had) Z ⟨A,A,CK⟩ Z ?_
   refine ua Z (us Z ?_)
   refine RunU.nil (fun γ => ?_)
   refine cT (M' := [_,_,_,_]) Z (aa (ae (bh 6 a8 Y U (CF (ak 0 Z Z Z) (CF (ak 0 Z Z Z) ?_)))))
   refine CF (am (hmu) Z ⟨A,A,CK⟩) ?_
   refine CF (bB 3 Z Z) ?_
   refine CF (am (hcm) Z ⟨A,A,CK⟩) ?_
   refine CF (sF (by assumption) (po Z Z)) (CJ (CJ (aa (aB Z (aw (aL (aa (ai (CG Z ?_)))))))))
   refine CF (dx Z Z (aO X X)) (CH Z (CJ ?_))
   refine aR ((n,out)) (⟨by dsimp only;omega,p2,Nat.lt_of_not_le hle⟩) X CA (.drop (.keep CE (.keep CE (.keep CE (.nil)))))
theorem wb:Ok Tryz.prog 119 [aP 0] (one (.int .i64 0)):=by
 unfold aP
 have hl:(aC (Int.natAbs 0)).length=0:=rfl
 generalize aC (Int.natAbs 0)=l at hl ⊢
 refine Ok.enter Tryz.func119 Z Tryz.ntmps119 Z (fun w O => ?_)
 refine ae (ai ?_)
 refine bm Z Z (ltN Z) (fun b1 => ?_)
 refine CH Z (CJ (aa (ae (ai (CF (aj Z) (CF (ak 0 Z Z Z) (CF (aW Z) (CF (ni 32 _ Z Z X) (CH Z ?_)))))))))
 refine CJ (aa (ae (ae (ai (CF (aj Z) (CF (ak 0 Z Z Z) (CF (aW Z) (CF (dx Z Z (aO X X)) (CH Z ?_)))))))))
 refine CJ (aa (av (ch (Γ' := [(1,_),(2,_),(3,_),(4,_)]) Cz (SubM.refl _) ?_)))
 refine bE (σ:=Unit) (Γk := [(1,_)]) Cz (fun u => [(4,one (.int .i64 (-1))),(3,one (.int .i64 0))]) (fun u M0=>M0) (fun u=>True) (fun u=>0) (()) (trivial) CA (.keep CE (.nil)) (fun u hu => ?_)
 refine bR (Γ' := [(4,_),(3,_),(1,_)]) (M' := [_]) Z Z (ae (ae (ai (CG Z (CF (sF X (dF Z Z)) (CJ (aa (aB Z (a6 ?_)))))))))
 refine ax (ax (aM (aa (ae (ai (CG Z (CH Z (CJ (aa ?_)))))))))
 refine aG ?_
 refine aQ Tryz.results119 (.tmp Z A)
theorem wc (a s:Nat) (ha:a<2^800) (h1:s*s≤a) (h2:a<(s+1)*(s+1)):Ok Tryz.prog 79 [aP (a:Int)] (bD [aP (s:Int),one (.int .i64 0)]):=by
 refine yc a s ha h1 h2 ?_
 by_cases h:a=0
 ·subst h;exact ⟨0,wb,by decide,by decide⟩
 ·have hl:(aC a).length≤25:=cz (Nat.lt_of_lt_of_le ha (Nat.le_trans (eE 800 (32*25) U) (Nat.le_of_eq (Nat.pow_mul (a:=2) (m:=32) (n:=25)))))
  refine ⟨im a,yb a h X,uC a,?_⟩
  unfold im
  rw [if_neg h]
  have:=gV (n:=32) (x:=(aC a).getD ((aC a).length - 1) 0) (aY (aX a) ((aC a).length - 1)) X
  omega
end Tor
end
section
namespace Tor
open Go Go.RowKit Go.Proofs
variable [Tor.Co.Kc]
def dn (c:Nat) (f:Nat→Int):Nat:=(gu c (fun k=>f k*f k)).natAbs
theorem kn (x:Int):0≤x*x:=by
 rw [← Int.natAbs_mul_self (a:=x)]; exact Int.natCast_nonneg _
theorem lA (c:Nat) (f:Nat→Int):0≤gu c (fun k=>f k*f k):=by
 induction c with
 | zero => exact Int.le_refl _
 | succ c ih =>
  show 0≤gu c (fun k=>f k*f k)+f c*f c
  have:=kn (f c)
  omega
theorem mM (c:Nat) (f:Nat→Int):((dn c f:Nat):Int)=gu c (fun k=>f k*f k):=Int.natAbs_of_nonneg (lA c f)
theorem tx {f:Nat→Int} {i c:Nat} (h:i≤c):gu i (fun k=>f k*f k)≤gu c (fun k=>f k*f k):=by
  induction c with
  | zero => have : i = 0 := by omega
            subst this;exact Int.le_refl _
  | succ c ih =>
    by_cases e:i=c+1
    · rw [e]; exact Int.le_refl _
    · have h1:=ih X
      have:=kn (f c)
      show _≤gu c (fun k=>f k*f k)+f c*f c
      omega
def isq:Nat→Nat
 | 0 => 0
 | a + 1 => if (isq a + 1) * (isq a + 1) ≤ a + 1 then isq a + 1 else isq a
theorem it : ∀ a,isq a*isq a≤a∧a<(isq a+1)*(isq a+1)
 | 0 => ⟨by decide, by decide⟩
 | a + 1 => by
  obtain ⟨h1,h2⟩:=it a
  show (if (isq a+1)*(isq a+1)≤a+1 then isq a+1 else isq a)*(if (isq a+1)*(isq a+1)≤a+1 then isq a+1 else isq a)≤a+1∧a+1<((if (isq a+1)*(isq a+1)≤a+1 then isq a+1 else isq a)+1)*((if (isq a+1)*(isq a+1)≤a+1 then isq a+1 else isq a)+1)
  split
  ·rename_i h
   have:(isq a+1)*(isq a+1)<(isq a+1+1)*(isq a+1+1):=Nat.mul_lt_mul'' X X
   exact ⟨h,by omega⟩
  ·exact ⟨by omega,by omega⟩
def upN (a:Nat):Nat:=if isq a*isq a<a then isq a+1 else isq a
theorem tz (a:Nat):a≤upN a*upN a:=by
 have:=it a
 unfold upN;split <;> omega
theorem yd {a:Nat} (h:0<upN a):(upN a - 1)*(upN a - 1)<a:=by
 have h1:=it a
 unfold upN at *
 split
 ·rename_i h2;rw [Nat.add_sub_cancel]; exact h2
 ·rename_i h2
  rw [if_neg h2] at h
  have:(isq a - 1)*(isq a - 1)<isq a*isq a:=Nat.mul_lt_mul'' X X
  omega
theorem tA {a s:Nat} (h1:a≤s*s) (h2 : ∀ t,t<s→t*t<a):upN a=s:=by
 have h3:=tz a
 rcases Nat.lt_trichotomy (upN a) s with h | h | h
 ·have:=h2 _ h;omega
 ·exact h
 ·have h4:=yd (a:=a) X
  have h5:s*s≤(upN a - 1)*(upN a - 1):=Nat.mul_le_mul X X
  omega
theorem BE {a b:Nat} (h:a≤b):upN a≤upN b:=by
 rcases Nat.lt_or_ge (upN b) (upN a) with h1 | h1
 ·have h2:=yd (a:=a) X
  have h3:=tz b
  have h5:upN b*upN b≤(upN a - 1)*(upN a - 1):=Nat.mul_le_mul X X
  omega
 ·exact h1
theorem ye (a:Nat):isq a≤a:=by
 have h:=(it a).1
 rcases Nat.eq_zero_or_pos (isq a) with h0 | h0
 ·omega
 ·exact Nat.le_trans (Nat.le_mul_of_pos_right _ h0) h
theorem jR {x:Int} (h:x.natAbs≤2^810):bO x:=fT h (Nat.pow_lt_pow_right (a:=2) (m:=810) (n:=2048) U U)
theorem lB {a:Nat} (h:a<2^800):a≤2^810:=Nat.le_of_lt (Nat.lt_of_lt_of_le h (Nat.pow_le_pow_right (n:=2) (i:=800) (j:=810) U U))
def prN:Nat→(Nat→Nat)→Nat
 | 0, _ => 1
 | n + 1, g => prN n g * g n
theorem nQ (n:Nat) (g:Nat→Nat):((prN n g:Nat):Int)=prZ n (fun i=>(g i:Int)):=by
 induction n with
 | zero => rfl
 | succ n ih => rw [prN, prZ, Int.natCast_mul, ih]
theorem nR {B n:Nat} {g:Nat→Nat} (h : ∀ i,i<n→g i≤B) : ∀ k,k≤n→prN k g≤B^k
 | 0, _ => Nat.le_refl _
 | k + 1, hk => by rw [prN, Nat.pow_succ]; exact Nat.mul_le_mul (nR h k X) (h k X)
theorem qe {B n:Nat} {g:Nat→Nat} (hB:1≤B) (hn:B^n<2^800) (h : ∀ i,i<n→g i≤B) {k:Nat} (hk:k≤n):prN k g<2^800 :=
 Nat.lt_of_le_of_lt (Nat.le_trans (nR h k hk) (Nat.pow_le_pow_right hB hk)) hn
theorem Ch {B n:Nat} (hB:1≤B) (hn:B^n<2^800) (h:0<n):B<2^800:=by
 have:=Nat.pow_le_pow_right hB (show 1≤n from h)
 rw [Nat.pow_one] at this
 exact Nat.lt_of_le_of_lt this hn
theorem jL {x:Int} {n:Nat} (h:x=(n:Int)):VT.le (aP x) (aP (n:Int)):=h▸VT.le_refl _
attribute [local irreducible] J PJ aJ one slT bL bG bD exT cn eP aU aN slV VT.le Ret bS dI ej
attribute [local irreducible] aP
theorem rV (c:Nat) (f:Nat→Int) (hc:c≤1048576) (hf : ∀ i,fZ (f i)) (hl:dn c f<2^800):Ok Tryz.prog 55 [fN c f] (aP (dn c f:Int)):=by
 have h0:=fo 0 U U
 unfold fN
 refine Ok.enter Tryz.func55 Z Tryz.ntmps55 Z (fun w O => ?_)
 refine ae (ai ?_)
 refine aD (T:=28) Z (ltN Z) (fun b2 => ?_)
 refine CJ (aa (ae (ai ?_)))
 refine CF (am (h0) Z ⟨A,CK⟩) ?_
 refine aD (T:=28) Z (ltN Z) (fun b3 => ?_)
 refine au 0 Z Z Z Z Z (leN Z) Z (CJ (aa (ae (ae (ai (CH Z (CJ (aa (av ?_)))))))))
 refine ch (Γ' := [(0,_),(2,_),(3,_),(4,_)]) Cz (SubM.refl _) ?_
 refine bE (σ:=Nat) (Γk := [(0,_),(2,_),(3,_)]) Cz (fun i => [(4,one (.int .i64 (i:Nat)))]) (fun i M0=>(M0.set 0 (aU b3 28 2 [(0, .agg 2,aP (gu i (fun k=>f k*f k)))]))) (fun i=>i≤c) (fun i=>c - i) (0) (Nat.zero_le _) CA (.keep CE (.keep CE (.nil))) (fun i hi => ?_)
 refine bR (Γ' := [(4,_),(0,_),(2,_),(3,_)]) (M' := [_,_]) Z Z ?_
 by_cases hi:i<c
 ·have h1:=fv (f i) (f i) (cE (hf i)) (cE (hf i))
  have hb:(gu i (fun k=>f k*f k)).natAbs≤dn c f:=by
   have h2:=tx (f:=f) (show i≤c by omega)
   have h3:=lA i f
   have h4:=mM c f
   omega
  have h2:=fp (gu i (fun k=>f k*f k)) (f i*f i) (jR (Nat.le_trans hb (lB hl))) (jR (Nat.le_trans (ri (hf i) (hf i)) (Nat.pow_le_pow_right (n:=2) (i:=800) (j:=810) U U)))
  refine ae (ae (ai (CG Z (CG Z (CF (aW Z) (CF (sT X (bq Z Z)) (CJ (aa (aI Z ?_)))))))))
  refine aw (aa (ae (av (bh 11 a8 Y U (CF (ak 0 Z Z Z) (CG Z (CG Z (CF (aE Z Z X) (CF (aV Z) ?_)))))))))
  refine CG Z (CG Z (CF (aE Z Z X) (CF (aV Z) ?_)))
  refine CF (am (h1) Z ⟨A,A,CK⟩) ?_
  refine CF (am (h2) Z ⟨A,A,CK⟩) ?_
  refine CJ (au 0 Z Z Z Z Z (leN Z) Z (CJ (aL (aa (ai (CG Z (CF (bQ _ 1 Z Z X) (CH Z (CJ ?_)))))))))
  refine aR (i+1) (hi) X CA (.keep CE (.keep CE (.nil)))
 ·have he:i=c:=by omega
  subst he
  refine ae (ae (ai (CG Z (CG Z (CF (aW Z) (CF (sF X (bq Z Z)) (CJ (aa (aB Z ?_)))))))))
  refine a6 (ax (ax (aM (aa (ae (ai (CF (ak 0 Z Z Z) (au 1 Z Z Z Z Z (leN Z) Z (CJ ?_)))))))))
  refine aa (aG ?_)
  refine aQ Tryz.results55 (.cellB 1 Z Z Z (jL (mM i f).symm))
theorem zU (a:Nat) (ha:a<2^800):Ok Tryz.prog 56 [aP (a:Int)] (aP (upN a:Int)):=by
 have h1:=it a
 have hs:=ye a
 have hr:=wc a (isq a) ha h1.1 h1.2
 have hsm:bO (isq a:Int):=jR (Nat.le_trans hs (lB ha))
 have hm:=fv (isq a:Int) (isq a:Int) hsm hsm
 have hq:(isq a:Int)*(isq a:Int)=((isq a*isq a:Nat):Int):=(Int.natCast_mul _ _).symm
 have hc:=nu ((isq a:Int)*(isq a:Int)) (a:Int) (jR (by rw [hq]; exact Nat.le_trans h1.1 (lB ha))) (jR (lB ha))
 have ho:=fo 1 U U
 have had:=fp (isq a:Int) 1 hsm oL
 refine Ok.enter Tryz.func56 Z Tryz.ntmps56 Z (fun w O => ?_)
 unfold upN
 by_cases hlt:isq a*isq a<a
 ·have hcc:cK ((isq a:Int)*(isq a:Int)) (a:Int)<0:=by rw [hq]; unfold cK;rw [if_pos X]; decide
  rw [if_pos hlt]
  generalize cK ((isq a:Int)*(isq a:Int)) (a:Int)=cc at *
  refine ae (ai ?_)
  refine iR Z Z (ltN Z) (fun b1 => ?_)
  refine aD (T:=28) Z (ltN Z) (fun b2 => ?_)
  refine CJ (aa (ae (ai (CF (ak 1 Z Z Z) ?_))))
  refine CF (am (hr) Z ⟨A,CK⟩) ?_
  refine CG Z (CF (az Z Z) (CF (az Z Z) ?_))
  refine aD (T:=28) Z (ltN Z) (fun b3 => ?_)
  refine au 0 Z Z Z Z Z (leN Z) Z (CH Z (CJ (aa (ae (ae (bh 6 a8 Y U (CF (ak 0 Z Z Z) (CF (ak 0 Z Z Z) ?_))))))))
  refine CF (am (hm) Z ⟨A,A,CK⟩) ?_
  refine CF (ak 2 Z Z Z) ?_
  refine CF (am (hc) Z ⟨A,A,CK⟩) ?_
  refine CF (sT (by assumption) (bq Z Z)) (CJ (CJ (aa (aI Z (ae (bh 2 a8 Y U (CF (ak 0 Z Z Z) ?_)))))))
  refine CF (am (ho) Z ⟨A,CK⟩) ?_
  refine CJ ?_
  refine CF (am (had) Z ⟨A,A,CK⟩) ?_
  refine au 1 Z Z Z Z Z (leN Z) Z (CJ (aa (aG (aK ?_))))
  refine aQ Tryz.results56 (.cellB 1 Z Z Z (jL X))
 ·have hcc : ¬ cK ((isq a:Int)*(isq a:Int)) (a:Int)<0:=by
   rw [hq]; unfold cK;rw [if_neg X]; split <;> decide
  rw [if_neg hlt]
  generalize cK ((isq a:Int)*(isq a:Int)) (a:Int)=cc at *
  refine ae (ai ?_)
  refine iR Z Z (ltN Z) (fun b1 => ?_)
  refine aD (T:=28) Z (ltN Z) (fun b2 => ?_)
  refine CJ (aa (ae (ai (CF (ak 1 Z Z Z) ?_))))
  refine CF (am (hr) Z ⟨A,CK⟩) ?_
  refine CG Z (CF (az Z Z) (CF (az Z Z) ?_))
  refine aD (T:=28) Z (ltN Z) (fun b3 => ?_)
  refine au 0 Z Z Z Z Z (leN Z) Z (CH Z (CJ (aa (ae (ae (bh 6 a8 Y U (CF (ak 0 Z Z Z) (CF (ak 0 Z Z Z) ?_))))))))
  refine CF (am (hm) Z ⟨A,A,CK⟩) ?_
  refine CF (ak 2 Z Z Z) ?_
  refine CF (am (hc) Z ⟨A,A,CK⟩) ?_
  refine CF (sF (by assumption) (bq Z Z)) (CJ (CJ (aa (aB Z (aw (aa (ae (ai (CF (ak 0 Z Z Z) ?_)))))))))
  refine au 1 Z Z Z Z Z (leN Z) Z (CJ (aa (aG ?_)))
  refine aQ Tryz.results56 (.cellB 1 Z Z Z A)
theorem ol (r:Nat) (F:Nat→Nat→Int) (B:Nat) (hr:r≤1048576) (hF : ∀ i j,fZ (F i j)) (hB:1≤B) (hn:B^r<2^800) (hl : ∀ i,i<r→dn r (F i)≤B):Ok Tryz.prog 24 [cF r r F] (bD [aP (upN (prN r (fun i=>dn r (F i))):Int),one (.int .i64 0)]):=by
 have h1:=fo 1 U U
 have hup:=zU (prN r (fun i=>dn r (F i))) (qe hB hn hl (Nat.le_refl r))
 unfold cF
 refine Ok.enter Tryz.func24 Z Tryz.ntmps24 Z (fun w O => ?_)
 refine ae (ai ?_)
 refine bm Z Z (ltN Z) (fun b1 => ?_)
 refine aD (T:=28) Z (ltN Z) (fun b2 => ?_)
 refine CH Z (CJ (aa (ae (ae (ai (CF (aj Z) (CF (ak 1 Z Z Z) (CF (aj Z) (CF (ak 1 Z Z Z) ?_)))))))))
 refine CF (sF X (eI Z Z)) (CJ (aa (aB Z (aw (aa (ae (ai ?_)))))))
 refine CF (am (h1) Z ⟨A,CK⟩) ?_
 refine aD (T:=28) Z (ltN Z) (fun b4 => ?_)
 refine au 0 Z Z Z Z Z (leN Z) Z (CJ (aa (ae (ae (ai (CH Z (CJ (aa (av ?_)))))))))
 refine ch (Γ' := [(1,_),(2,_),(3,_),(4,_),(5,_)]) Cz (SubM.refl _) ?_
 refine bE (σ:=Nat) (Γk := [(1,_),(2,_),(3,_),(4,_)]) Cz (fun i => [(5,one (.int .i64 (i:Nat)))]) (fun i M0=>(M0.set 0 (aU b4 28 2 [(0, .agg 2,aP (prN i (fun i=>dn r (F i)):Int))]))) (fun i=>i≤r) (fun i=>r - i) (0) (Nat.zero_le _) CA (.keep CE (.keep CE (.keep CE (.nil)))) (fun i hi => ?_)
 refine bR (Γ' := [(5,_),(1,_),(2,_),(3,_),(4,_)]) (M' := [_,_,_]) Z Z ?_
 by_cases hi:i<r
 ·have hB8:=Ch hB hn X
  have hli:=Nat.lt_of_le_of_lt (hl i hi) hB8
  have hlen:=rV r (F i) hr (hF i) hli
  have hm:=fv (prN i (fun i=>dn r (F i)):Int) (dn r (F i):Int) (jR (lB (qe hB hn hl (Nat.le_of_lt hi)))) (jR (lB hli))
  have hs:((prN (i+1) (fun i=>dn r (F i)):Nat):Int)=(prN i (fun i=>dn r (F i)):Int)*(dn r (F i):Int):=by rw [prN,Int.natCast_mul]
  unfold fN at *
  refine ae (ae (ai (CG Z (CF (aj Z) (CF (ak 2 Z Z Z) (CF (sT X (bq Z Z)) (CJ (aa (aI Z ?_)))))))))
  refine aw (aa (ae (av (bh 8 a8 Y U (CF (ak 0 Z Z Z) (CF (aj Z) (CF (ak 2 Z Z Z) (CG Z (CF (aE Z Z X) ?_)))))))))
  refine CF (aV Z) ?_
  refine CF (am (hlen) Z ⟨A,CK⟩) ?_
  refine CF (am (hm) Z ⟨A,A,CK⟩) ?_
  refine CJ (au 0 Z Z Z Z Z (leN Z) Z (CJ (aL (aa (ai (CG Z (CF (bQ _ 1 Z Z X) (CH Z (CJ ?_)))))))))
  refine aR (i+1) (hi) X CA (.keep CE (.keep CE (.keep CE (.nil))))
 ·have he:i=r:=by omega
  subst he
  refine ae (ae (ai (CG Z (CF (aj Z) (CF (ak 2 Z Z Z) (CF (sF X (bq Z Z)) (CJ (aa (aB Z ?_)))))))))
  refine a6 (ax (ax (aM (aa (ae (ai (CF (ak 0 Z Z Z) ?_)))))))
  refine CF (am (hup) Z ⟨A,CK⟩) ?_
  refine au 1 Z Z Z Z Z (leN Z) Z (CH Z (CJ (aa (aG ?_))))
  refine cW Tryz.results24 (.cellB 1 Z Z Z A) (.tmp Z A)
end Tor
end
section
namespace Tor
open Go Go.RowKit Go.Proofs
variable [Tor.Co.Kc]
def iW (r c:Nat) (F:Nat→Nat→Int) (t:Nat):Nat:=(ey r (fun i=>(dn c (F i):Int)) t).toNat
theorem rW {r c:Nat} {F:Nat→Nat→Int} {t:Nat} (ht:t<r) : ∃ i,i<r∧ey r (fun i=>(dn c (F i):Int)) t=(dn c (F i):Int):=by
 have h1:ey r (fun i=>(dn c (F i):Int)) t∈lst r (ey r (fun i=>(dn c (F i):Int))):=by
  unfold lst;exact List.mem_map.2 ⟨t,List.mem_range.2 ht,rfl⟩
 have h2:=(iN (fun i=>(dn c (F i):Int)) (Nat.le_refl r)).mem_iff.1 h1
 unfold lst at h2
 obtain ⟨i,hi,e⟩:=List.mem_map.1 h2
 exact ⟨i,List.mem_range.1 hi,e.symm⟩
theorem o7 {r c:Nat} {F:Nat→Nat→Int} {t:Nat} (ht:t<r):((iW r c F t:Nat):Int)=ey r (fun i=>(dn c (F i):Int)) t:=by
 obtain ⟨i,hi,e⟩:=rW (c:=c) (F:=F) ht
 unfold iW;rw [e]; exact Int.toNat_of_nonneg (Int.natCast_nonneg _)
theorem zV {r c B:Nat} {F:Nat→Nat→Int} (hl : ∀ i,i<r→dn c (F i)≤B) {t:Nat} (ht:t<r):iW r c F t≤B:=by
 obtain ⟨i,hi,e⟩:=rW (c:=c) (F:=F) ht
 have:=hl i hi
 unfold iW;rw [e]; omega
attribute [local irreducible] J PJ aJ one slT bL bG bD exT cn eP aU aN slV VT.le Ret bS dI ej
attribute [local irreducible] aP
end Tor
end
section
namespace Tor
variable [Tor.Co.Kc]
theorem tB (n:Nat) (f:Nat→Int):((gu n f:Int):Rat)=Lin.sm n (fun i=>(f i:Rat)):=by
 induction n with
 | zero => rfl
 | succ n ih => rw [gu, Lin.sm, Rat.intCast_add, ih]
theorem yf (n:Nat) (f:Nat→Int):Lin.dot n (fun k=>(f k:Rat)) (fun k=>(f k:Rat))=((dn n f:Int):Rat):=by
 rw [mM,tB]
 exact Lin.cA fun k _=>(Rat.intCast_mul _ _).symm
theorem zW (n:Nat) (f:Nat→Int):((prZ n f:Int):Rat)=Lin.pr n (fun i=>(f i:Rat)):=by
 induction n with
 | zero => rfl
 | succ n ih => rw [prZ, Lin.pr, Rat.intCast_mul, ih]
theorem zX (n:Nat) (F:Nat→Nat→Int):Lin.ct n F*Lin.ct n F≤((prN n (fun i=>dn n (F i)):Nat):Int):=by
 have h:=Lin.xT n (fun i j=>(F i j:Rat))
 rw [← Lin.eV, ← Rat.intCast_mul,Lin.nN (g:=fun i=>(((dn n (F i):Nat):Int):Rat)) (fun i _=>yf n (F i)), ← zW, ← nQ] at h
 exact Rat.intCast_le_intCast.1 h
theorem BF {d P:Nat} (h:d*d≤P):d≤upN P:=by
 have h1:=tz P
 rcases Nat.lt_or_ge (upN P) d with h2 | h2
 ·have:=Nat.mul_lt_mul_of_lt_of_le h2 (Nat.le_of_lt h2) X
  omega
 ·exact h2
theorem BG {x:Int} {P:Nat} (h:x*x≤(P:Int)):x.natAbs*x.natAbs≤P:=by
 rw [← Int.natAbs_mul]
 have:=kn x
 omega
theorem qf (n:Nat) (F:Nat→Nat→Int):(Lin.ct n F).natAbs≤upN (prN n (fun i=>dn n (F i))):=BF (BG (zX n F))
theorem nS (r c:Nat) (F:Nat→Nat→Int):prN r (iW r c F)=prN r (fun i=>dn c (F i)):=by
 apply Int.ofNat.inj
 show ((prN r (iW r c F):Nat):Int)=((prN r (fun i=>dn c (F i)):Nat):Int)
 rw [nQ,nQ, ← ya r (fun i=>(dn c (F i):Int))]
 have : ∀ k,k≤r→prZ k (fun i=>(iW r c F i:Int))=prZ k (ey r (fun i=>(dn c (F i):Int))):=fun k=>by
  induction k with
  | zero => exact fun _ => rfl
  | succ k ih => intro h; rw [prZ, prZ, ih X, o7 X]
 exact this r (Nat.le_refl r)
theorem yh {B c:Nat} {f:Nat→Int} (h : ∀ k,(f k).natAbs≤B):dn c f≤c*(B*B):=by
 unfold dn
 induction c with
 | zero => simp [gu]
 | succ c ih =>
  rw [gu,Nat.succ_mul]
  refine Nat.le_trans (Int.natAbs_add_le _ _) (Nat.add_le_add ih ?_)
  rw [Int.natAbs_mul]; exact Nat.mul_le_mul (h c) (h c)
end Tor
end
section
namespace Tor
open Go Go.RowKit
variable [Tor.Co.Kc]
theorem o8 {α:Type} {n i:Nat} {S:Nat→Bool} (B:Nat→α) (hi:i<n) (hS:S i=false) :
  (((List.range n).filter fun q => !S q).map B).Perm (B i :: ((List.range n).filter fun q => !(if q=i then true else S q)).map B):=by
 have h1:i∈(List.range n).filter fun q => !S q:=List.mem_filter.2 ⟨List.mem_range.2 hi,by simp [hS]⟩
 refine ((List.perm_cons_erase h1).map B).trans ?_
 rw [List.map_cons]
 refine List.Perm.cons _ ?_
 have hnd:((List.range n).filter fun q => !S q).Nodup:=List.Pairwise.filter _ List.nodup_range
 rw [hnd.erase_eq_filter,List.filter_filter]
 refine List.Perm.of_eq (congrArg _ (List.filter_congr fun q _ => ?_))
 by_cases e:q=i <;> simp [e]
def rwO (T:TypeId) (L:Lay) (c n:Nat) (B C:Nat→Nat) (φ:Nat→Nat→VT) (S:Nat→Bool):Own where
 bl:=((List.range n).filter fun q => !S q).map B
 p g h := ∀ i,i<n→S i=false→(aN (some (B i)) T L (C i) c (φ i)).p g h
 loc:=fun he H hp i hi hS=>(aN (some (B i)) T L (C i) c (φ i)).loc (fun b' hb'=>he b' (by
  have:b'=B i:=by simpa [aN] using hb'
  rw [this]; exact List.mem_map.2 ⟨i,List.mem_filter.2 ⟨List.mem_range.2 hi,by simp [hS]⟩,rfl⟩)) H (hp i hi hS)
theorem ko {T:TypeId} {L:Lay} {c n:Nat} {B C B' C':Nat→Nat} {φ ψ:Nat→Nat→VT} {S S':Nat→Bool} (hS : ∀ i,i<n→S i=S' i) (hB : ∀ i,i<n→S i=false→B i=B' i∧C i=C' i) (H : ∀ i j,i<n→S i=false→j<c→VT.le (φ i j) (ψ i j)):Own.le (rwO T L c n B C φ S) (rwO T L c n B' C' ψ S'):=by
 refine ⟨?_,fun g h hp i hi hs => ?_⟩
 ·show ((List.range n).filter fun q => !S q).map B=((List.range n).filter fun q => !S' q).map B'
  rw [List.filter_congr (q:=fun q => !S' q) (fun q hq=>by rw [hS q (List.mem_range.1 hq)])]
  refine List.map_congr_left fun q hq => ?_
  obtain ⟨h1,h2⟩:=List.mem_filter.1 hq
  have h1:=List.mem_range.1 h1
  exact (hB q h1 (by rw [hS q h1]; simpa using h2)).1
 ·have hs':S i=false:=by rw [hS i hi]; exact hs
  obtain ⟨e1,e2⟩:=hB i hi hs'
  rw [← e1, ← e2]
  exact (kG (fun q hq=>H i q hi hs' hq)).2 g h (hp i hi hs')
theorem yi {T:TypeId} {L:Lay} {c n:Nat} {B C:Nat→Nat} {φ:Nat→Nat→VT} {S:Nat→Bool} {M:Mem} (hS : ∀ i,i<n→S i=true):ConvM M (rwO T L c n B C φ S :: M):=by
 have e:((List.range n).filter fun q => !S q) = []:=List.filter_eq_nil_iff.2 fun q hq=>by simp [hS q (List.mem_range.1 hq)]
 refine ⟨?_,fun g h H o ho => ?_⟩
 ·show (aZ M).Perm ((((List.range n).filter fun q => !S q).map B) ++ aZ M)
  rw [e]; exact List.Perm.refl _
 ·rcases List.mem_cons.1 ho with rfl | ho
  ·intro i hi hs;rw [hS i hi] at hs;cases hs
  ·exact H o ho
theorem lC {T:TypeId} {L:Lay} {c n i:Nat} {B C:Nat→Nat} {φ:Nat→Nat→VT} {S:Nat→Bool} {M:Mem} (hi:i<n) (hS:S i=false) :
  ConvM (rwO T L c n B C φ S :: M) (aN (some (B i)) T L (C i) c (φ i) :: rwO T L c n B C φ (fun q=>if q=i then true else S q) :: M):=by
 refine ⟨?_,fun g h H o ho => ?_⟩
 ·show ((((List.range n).filter fun q => !S q).map B) ++ aZ M).Perm (B i :: ((((List.range n).filter fun q => !(if q=i then true else S q)).map B) ++ aZ M))
  exact (o8 B hi hS).append_right _
 ·have h0:=H _ List.mem_cons_self
  rcases List.mem_cons.1 ho with rfl | ho
  ·exact h0 i hi hS
  ·rcases List.mem_cons.1 ho with rfl | ho
   ·intro q hq hs
    dsimp only at hs
    by_cases e:q=i
    ·rw [if_pos e] at hs;cases hs
    ·rw [if_neg e] at hs;exact h0 q hq hs
   ·exact H o (List.mem_cons_of_mem _ ho)
theorem lD {T:TypeId} {L:Lay} {c n i b cap:Nat} {B C:Nat→Nat} {φ:Nat→Nat→VT} {ψ:Nat→VT} {S:Nat→Bool} {M:Mem} (hi:i<n) (hS:S i=true) :
  ConvM (aN (some b) T L cap c ψ :: rwO T L c n B C φ S :: M) (rwO T L c n (fun q=>if q=i then b else B q) (fun q=>if q=i then cap else C q) (fun q=>if q=i then ψ else φ q) (fun q=>if q=i then false else S q) :: M):=by
 refine ⟨?_,fun g h H o ho => ?_⟩
 ·show (b :: ((((List.range n).filter fun q => !S q).map B) ++ aZ M)).Perm ((((List.range n).filter fun q => !(if q=i then false else S q)).map (fun q=>if q=i then b else B q)) ++ aZ M)
  have hp:=o8 (S:=fun q=>if q=i then false else S q) (fun q=>if q=i then b else B q) hi (if_pos Z)
  have e:(((List.range n).filter fun q => !(if q=i then true else (if q=i then false else S q))).map (fun q=>if q=i then b else B q))=(((List.range n).filter fun q => !S q).map B):=by
   rw [List.filter_congr (q:=fun q => !S q) (fun q hq=>by by_cases e:q=i <;> simp [e,hS])]
   refine List.map_congr_left fun q hq => ?_
   have h2:=(List.mem_filter.1 hq).2
   by_cases e:q=i
   ·rw [e,hS] at h2;cases h2
   ·rw [if_neg e]
  rw [e,if_pos Z] at hp
  exact (hp.append_right _).symm
 ·have h0:=H _ List.mem_cons_self
  have h1:=H _ (List.mem_cons_of_mem _ List.mem_cons_self)
  rcases List.mem_cons.1 ho with rfl | ho
  ·intro q hq hs
   by_cases e:q=i
   ·subst e
    show (aN (some (if q=q then b else B q)) T L (if q=q then cap else C q) c (if q=q then ψ else φ q)).p g h
    rw [if_pos Z,if_pos Z,if_pos Z]; exact h0
   ·dsimp only at hs
    rw [if_neg e] at hs
    show (aN (some (if q=i then b else B q)) T L (if q=i then cap else C q) c (if q=i then ψ else φ q)).p g h
    rw [if_neg e,if_neg e,if_neg e]; exact h1 q hq hs
  ·exact H o (List.mem_cons_of_mem _ (List.mem_cons_of_mem _ ho))
theorem ConvM.cons {a:Own} {Cy B:Mem} (h:ConvM Cy B):ConvM (a :: Cy) (a :: B):=⟨h.pm.append_left _,fun g k H o ho=>by
 rcases List.mem_cons.1 ho with rfl | ho
 ·exact H _ List.mem_cons_self
 ·exact h.mem g k (fun o ho=>H o (List.mem_cons_of_mem _ ho)) o ho⟩
theorem ConvM.le {a b:Own} {M:Mem} (h:Own.le a b):ConvM (a :: M) (b :: M):=⟨by show (a.bl ++ aZ M).Perm (b.bl ++ aZ M);rw [h.1],fun g k H o ho=>by
 rcases List.mem_cons.1 ho with rfl | ho
 ·exact h.2 _ _ (H _ List.mem_cons_self)
 ·exact H o (List.mem_cons_of_mem _ ho)⟩
theorem yj {T:TypeId} {L:Lay} {c n i k:Nat} {B C:Nat→Nat} {φ:Nat→Nat→VT} {M:Mem} (hi:i<n) (hk:k<n):ConvM (rwO T L c n B C φ (fun _=>false) :: M) (rwO T L c n (swp i k B) (swp i k C) (swp i k φ) (fun _=>false) :: M):=by
 by_cases e:i=k
 ·subst e;rw [nL,nL,nL]; exact .ofPerm (List.Perm.refl _)
 ·refine (lC hi Z).trans (.trans (ConvM.cons (lC hk (if_neg (Ne.symm e)))) (.trans (ConvM.cons (lD (i:=i) hi (by rw [if_neg e,if_pos Z]))) (.trans (lD (i:=k) hk (by rw [if_neg (Ne.symm e),if_pos Z])) (ConvM.le (ko (fun q _ => ?_) (fun q _ _=>⟨?_,?_⟩) (fun q j _ _ _ => ?_))))))
  ·by_cases h1:q=k
   ·simp [h1]
   ·by_cases h2:q=i
    ·simp [h1,h2]
    ·simp [h1,h2]
  ·unfold swp;by_cases h1:q=k
   ·subst h1;rw [if_pos Z,if_neg (Ne.symm e),if_pos Z]
   ·by_cases h2:q=i
    ·rw [if_neg h1,if_pos h2,if_pos h2]
    ·rw [if_neg h1,if_neg h2,if_neg h2,if_neg h1]
  ·unfold swp;by_cases h1:q=k
   ·subst h1;rw [if_pos Z,if_neg (Ne.symm e),if_pos Z]
   ·by_cases h2:q=i
    ·rw [if_neg h1,if_pos h2,if_pos h2]
    ·rw [if_neg h1,if_neg h2,if_neg h2,if_neg h1]
  ·unfold swp;by_cases h1:q=k
   ·subst h1;rw [if_pos Z,if_neg (Ne.symm e),if_pos Z]; exact VT.le_refl _
   ·by_cases h2:q=i
    ·rw [if_neg h1,if_pos h2,if_pos h2]; exact VT.le_refl _
    ·rw [if_neg h1,if_neg h2,if_neg h2,if_neg h1]; exact VT.le_refl _
section
variable {P:Program} {E:Env} {D:List Deferred} {Γ:Ctx} {M:Mem} {Q:Exit→Act→World→Prop}
variable {i:Nat} {ty:TypeId} {pos:String} {af:Array Edge} {d:Option Tmp} {gd:Option (Nat × Bool)}
theorem yk {e:Exit} {i:Nat} {o:Own} {F:Prop} (hM:M[i]? = some o) (hF : ∀ g h,o.p g h→F) (h:F→PJ E D Γ M e Q):PJ E D Γ M e Q :=
 fun a w hS=>h (hF _ _ (hS.base.mem o (List.mem_of_getElem? hM))) a w hS
theorem jr {T T':TypeId} {L:Lay} [LayOf P T L] {x:Operand} {i' j c n:Nat} {B C:Nat→Nat} {φ:Nat→Nat→VT} {S:Nat→Bool} (k:Nat) (hx:aH Γ x=some (eP (B i') j L.sz)) (hM:M[k]? = some (rwO T' L c n B C φ S)) (hi:i'<n) (hS:S i'=false) (hj:j<c) :
  aJ P E Γ M ⟨d, .load T x,ty,pos,af,gd⟩ (φ i' j) :=
 aJ.ofRun fun a w hb hf=>by
  have h1:a.eval x = .pointer (some ⟨B i',j*L.sz,none⟩):=hf x _ (by simp [Op.operands]) hx
  obtain ⟨_,_,_,h4⟩:=dH hb hM i' hi hS
  obtain ⟨c,hc,_,he⟩:=h4 (B i') Z
  obtain ⟨v,hx',hp⟩:=he j hj
  refine ⟨v,?_,hp⟩
  simp only [execOp,h1,Instr.loadAt,Instr.sureAddr,Sem.run_bind,Sem.run_pure,Result.andThen_ok,dw hc hx']
end
end Tor
end
section
namespace Tor
open Go Go.RowKit Go.Proofs
variable [Tor.Co.Kc]
attribute [local irreducible] J PJ aJ one slT bL bG bD exT cn eP aU aN slV VT.le Ret bS dI ej
attribute [local irreducible] aP
theorem zY (p a b:Nat) (hp0:0<p) (hp:p<4294967296) (ha:a<4294967296) (hb:b<4294967296):Ok Tryz.prog 116 [one (.int .u64 p),one (.int .u64 a),one (.int .u64 b)] (one (.int .u64 (((a+b) % p:Nat):Int))):=by
 have hr:=nB (a+b) p X hp0 X
 refine Ok.enter Tryz.func116 Z Tryz.ntmps116 Z (fun w O => ?_)
 refine ae (ai (CH Z (CJ (aa (ae (ai (CG Z (CG Z (CF (di Z Z X) ?_)))))))))
 refine CG Z ?_
 refine CF (am (hr) Z ⟨A,A,CK⟩) ?_
 refine CH Z (CJ (aa (aG ?_)))
 refine aQ Tryz.results116 (.tmp Z A)
theorem rX (p:Nat) (a:Int) (hp0:0<p) (hp:p<2147483648) (ha:kg a):Ok Tryz.prog 22 [one (.int .u64 p),aP a] (one (.int .u64 (((a % (p:Int)).toNat:Nat):Int))):=by
 have ho:=fo (p:Int) X X
 have hd:=te a (p:Int) X ha (oS (Nat.lt_of_lt_of_le (show (p:Int).natAbs<2147483648 from hp) V))
 have n1:=Int.emod_nonneg a (show (p:Int)≠0 by omega)
 have n2:=Int.emod_lt_of_pos a (show 0<(p:Int) by omega)
 obtain ⟨t,ht⟩ : ∃ t:Nat,t=(a % (p:Int)).toNat:=⟨_,rfl⟩
 have ht':a % (p:Int)=(t:Int):=by omega
 rw [ht'] at hd
 rw [← ht]
 refine Ok.enter Tryz.func22 Z Tryz.ntmps22 Z (fun w O => ?_)
 refine ae (ai ?_)
 refine iR Z Z (ltN Z) (fun b3 => ?_)
 refine CH Z (CJ (aa (ae ?_)))
 refine eA a8 Y Y ?_
 refine ux (fun B=>ak 0 Z Z Z) Z Z ?_
 refine ux (fun B=>ab Z) Z Z ?_
 refine ux (fun B=>db Z X X) Z Z ?_
 refine uxk (ho) Z ⟨A,CK⟩ Z ?_
 refine uxk (hd) Z ⟨A,A,CK⟩ Z ?_
 refine ux (fun B=>ab Z) Z Z ?_
 refine ux (fun B=>az Z Z) Z Z ?_
 refine ux (fun B=>az Z Z) Z Z ?_
 refine ux (fun B=>az Z Z) Z Z ?_
 refine ua Z (ua Z (us Z (us Z ?_)))
 refine ux (fun B=>ah Z) Z Z ?_
 refine RunU.nil (fun γ => ?_)
 refine cT (M' := [_,_,_]) Z (aa (ae (ai (CF (ak 0 Z Z Z) ?_))))
 refine CF (am (vI _ X) Z ⟨A,CK⟩) ?_
 refine CG Z (CF (az Z Z) (CF (az Z Z) (CH Z (CH Z (CJ (aa (ae (ai (CG Z ?_)))))))))
 refine CF (bH Z X) (CH Z (CJ (aa (aG ?_))))
 refine aQ Tryz.results22 (.tmp Z A)
end Tor
end
