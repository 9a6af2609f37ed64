/-
  Theorems that the proofs of laws of this seat rest on.
  No condition.
-/
import Derived.Test.YtfaglimgjfhdfaaGreatZM6
set_option maxHeartbeats 20000000
set_option linter.unusedVariables false
set_option linter.unusedSimpArgs false
set_option linter.unusedSectionVars false
section
namespace Tor.Lin
theorem lR (x:Rat):0≤x*x:=by
 rcases Rat.le_total (a:=0) (b:=x) with h | h
 ·exact Rat.mul_nonneg h h
 ·have:=Rat.mul_nonneg (a := -x) (b := -x) (by grind) (by grind)
  grind
theorem xD {a b c d:Rat} (h:0≤a) (h1:a≤b) (h2:0≤c) (h3:c≤d):a*c≤b*d:=by
 have e1:=Rat.mul_le_mul_of_nonneg_left (c:=c) h1 h2
 have e2:=Rat.mul_le_mul_of_nonneg_left (c:=b) h3 (Rat.le_trans h h1)
 grind
theorem lS {n:Nat} {f:Nat→Rat} (h : ∀ i,i<n→0≤f i):0≤sm n f:=by
 induction n with
 | zero => exact Rat.le_refl
 | succ n ih =>
  have h1:=ih (fun i hi=>h i X)
  have h2:=h n X
  rw [sm]; grind
theorem rm {n:Nat} {f:Nat→Rat} (h : ∀ i,i<n→0≤f i) (h0:sm n f=0) : ∀ i,i<n→f i=0:=by
 induction n with
 | zero => intro i hi; omega
 | succ n ih =>
  have h1:=lS (fun i hi=>h i (show i<n+1 by omega)) (n:=n)
  have h2:=h n X
  rw [sm] at h0
  intro i hi
  by_cases e:i=n
  ·subst e;grind
  ·exact ih (fun i hi=>h i X) (by grind) i X
theorem vv {n m:Nat} {f:Nat→Rat} (h:m≤n) (h0 : ∀ j,m≤j→j<n→f j=0):sm n f=sm m f:=by
  induction n with
  | zero => have : m = 0 := by omega
            rw [this]
  | succ n ih =>
    by_cases e:m=n+1
    · rw [e]
    · rw [sm,ih X (fun j h1 h2=>h0 j h1 X),h0 n X X,Rat.add_zero]
def dot (m:Nat) (u v:Nat→Rat):Rat:=sm m (fun k=>u k*v k)
theorem jl (m:Nat) (u v:Nat→Rat):dot m u v=dot m v u:=cv fun k _=>Rat.mul_comm _ _
theorem rn (m:Nat) (u:Nat→Rat):0≤dot m u u:=lS fun k _=>lR _
theorem xE {m:Nat} {u:Nat→Rat} (h:dot m u u=0) : ∀ k,k<m→u k=0:=fun k hk=>by
 have:=rm (fun i _=>lR (u i)) h k hk
 grind
def gsT (m:Nat) (Cf:Nat→Nat→Rat):Nat→Nat→Nat→Rat
 | 0 => fun _ _ => 0
 | i + 1 => fun j => if j = i then (fun k => Cf i k - sm i (fun t => dot m (Cf i) (gsT m Cf i t) / dot m (gsT m Cf i t) (gsT m Cf i t) * gsT m Cf i t k)) else gsT m Cf i j
def gsB (m:Nat) (Cf:Nat→Nat→Rat) (i:Nat):Nat→Rat:=gsT m Cf (i+1) i
def gsM (m:Nat) (Cf:Nat→Nat→Rat) (i t:Nat):Rat:=dot m (Cf i) (gsB m Cf t) / dot m (gsB m Cf t) (gsB m Cf t)
theorem xF {m:Nat} {Cf:Nat→Nat→Rat} : ∀ i j,j<i→gsT m Cf i j=gsB m Cf j
 | 0, j, h => absurd h (Nat.not_lt_zero _)
 | i + 1, j, h => by
  by_cases e:j=i
  ·rw [e]; rfl
  ·show (if j=i then _ else gsT m Cf i j)=_
   rw [if_neg e]; exact xF i j X
theorem pS (m:Nat) (Cf:Nat→Nat→Rat) (i k:Nat):gsB m Cf i k=Cf i k - sm i (fun t=>gsM m Cf i t*gsB m Cf t k):=by
 show (if i=i then (fun k=>Cf i k - sm i (fun t=>dot m (Cf i) (gsT m Cf i t) / dot m (gsT m Cf i t) (gsT m Cf i t)*gsT m Cf i t k)) else gsT m Cf i i) k=_
 rw [if_pos Z]
 show Cf i k - _=_
 congr 1
 exact cv fun t ht=>by rw [xF i t ht]; rfl
theorem nx {m n:Nat} {u v w:Nat→Rat} {f:Nat→Rat} {b:Nat→Nat→Rat} (h : ∀ k,k<m→w k=v k - sm n (fun t=>f t*b t k)):dot m u w=dot m u v - sm n (fun t=>f t*dot m u (b t)):=by
 unfold dot
 rw [cv (g:=fun k=>u k*v k - sm n (fun t=>f t*(u k*b t k))) (fun k hk=>by
  rw [h k hk]
  have:sm n (fun t=>f t*(u k*b t k))=sm n (fun t=>f t*b t k)*u k:=by
   rw [← un]; exact cv fun t _=>by grind
  rw [this]; grind),A9,zB]
 congr 1
 exact cv fun t _=>by
  rw [Rat.mul_comm, ← un]; exact cv fun k _=>by grind
theorem up (m:Nat) (Cf:Nat→Nat→Rat) (i t:Nat):gsM m Cf i t*dot m (gsB m Cf t) (gsB m Cf t)=dot m (Cf i) (gsB m Cf t):=by
 by_cases h:dot m (gsB m Cf t) (gsB m Cf t)=0
 ·have h0:=xE h
  have e:dot m (Cf i) (gsB m Cf t)=0:=uo fun k hk=>by rw [h0 k hk]; exact Rat.mul_zero _
  rw [h,e]; exact Rat.mul_zero _
 ·unfold gsM;exact Rat.div_mul_cancel h
theorem uq (m:Nat) (Cf:Nat→Nat→Rat) : ∀ i j,j<i→dot m (gsB m Cf i) (gsB m Cf j)=0:=by
 intro i
 induction i using Nat.strongRecOn with
 | _ i ih =>
  intro j hj
  rw [jl,nx (v:=Cf i) (f:=fun t=>gsM m Cf i t) (b:=gsB m Cf) (n:=i) (fun k _=>pS m Cf i k)]
  rw [jk hj (fun t ht hne=>by
   rcases Nat.lt_trichotomy t j with h | h | h
   ·rw [ih j hj t h]; exact Rat.mul_zero _
   ·exact absurd h hne
   ·rw [jl,ih t ht j h]; exact Rat.mul_zero _),up,jl]
  grind
theorem Ba (m:Nat) (Cf:Nat→Nat→Rat) (i k:Nat):Cf i k=gsB m Cf i k+sm i (fun t=>gsM m Cf i t*gsB m Cf t k):=by
 rw [pS]; grind
theorem zC (m:Nat) (Cf:Nat→Nat→Rat) (i:Nat):dot m (Cf i) (Cf i)=dot m (gsB m Cf i) (gsB m Cf i)+sm i (fun t=>gsM m Cf i t*gsM m Cf i t*dot m (gsB m Cf t) (gsB m Cf t)):=by
 have e1:=nx (m:=m) (u:=gsB m Cf i) (v:=Cf i) (w:=gsB m Cf i) (n:=i) (f:=fun t=>gsM m Cf i t) (b:=gsB m Cf) (fun k _=>pS m Cf i k)
 rw [uo (n:=i) (fun t ht=>by rw [uq m Cf i t ht]; exact Rat.mul_zero _)] at e1
 have e2:=nx (m:=m) (u:=Cf i) (v:=Cf i) (w:=gsB m Cf i) (n:=i) (f:=fun t=>gsM m Cf i t) (b:=gsB m Cf) (fun k _=>pS m Cf i k)
 have e3:dot m (gsB m Cf i) (Cf i)=dot m (Cf i) (gsB m Cf i):=jl _ _ _
 have e4:sm i (fun t=>gsM m Cf i t*dot m (Cf i) (gsB m Cf t))=sm i (fun t=>gsM m Cf i t*gsM m Cf i t*dot m (gsB m Cf t) (gsB m Cf t)):=cv fun t _=>by rw [← up]; grind
 rw [e4] at e2
 grind
theorem BN (m:Nat) (Cf:Nat→Nat→Rat) (i:Nat):dot m (gsB m Cf i) (gsB m Cf i)≤dot m (Cf i) (Cf i):=by
 have h:=zC m Cf i
 have h2:0≤sm i (fun t=>gsM m Cf i t*gsM m Cf i t*dot m (gsB m Cf t) (gsB m Cf t)):=lS fun t _=>Rat.mul_nonneg (lR _) (rn _ _)
 grind
def pr:Nat→(Nat→Rat)→Rat
 | 0, _ => 1
 | n + 1, f => pr n f * f n
theorem ny {n:Nat} {f g:Nat→Rat} (h : ∀ i,i<n→f i=g i):pr n f=pr n g:=by
 induction n with
 | zero => rfl
 | succ n ih => rw [pr, pr, ih (fun i hi => h i X), h n X]
theorem xG (n:Nat) (f:Nat→Rat):pr (n+1) f=f 0*pr n (fun i=>f (i+1)):=by
 induction n with
 | zero => show 1 * f 0 = f 0 * 1; grind
 | succ n ih => rw [pr, ih, pr]; grind
theorem vy {n:Nat} {f:Nat→Rat} (h : ∀ i,i<n→0≤f i):0≤pr n f:=by
 induction n with
 | zero => show (0 : Rat) ≤ 1; decide
 | succ n ih => exact Rat.mul_nonneg (ih fun i hi => h i X) (h n X)
theorem zD {n:Nat} {f g:Nat→Rat} (h0 : ∀ i,i<n→0≤f i) (h : ∀ i,i<n→f i≤g i):pr n f≤pr n g:=by
 induction n with
 | zero => exact Rat.le_refl
 | succ n ih => exact xD (vy fun i hi => h0 i X) (ih (fun i hi => h0 i X) fun i hi => h i X) (h0 n X) (h n X)
theorem pT : ∀ {n:Nat} {F:Nat→Nat→Rat},(∀ i j,i<j→j<n→F i j=0)→det n F=pr n (fun i=>F i i)
 | 0, _, _ => rfl
 | n + 1, F, h => by
  rw [det,jk (Nat.succ_pos n) (fun j hj hne=>by rw [h 0 j X hj]; grind),pT (n:=n) (fun i j hij hj=>h _ _ (by unfold skip;split <;> omega) (by unfold skip;split <;> omega)),xG]
  have:sgn 0=1:=rfl
  rw [this,Rat.one_mul]
  congr 1
theorem Bb (n:Nat) (Cf:Nat→Nat→Rat):det n Cf*det n Cf=pr n (fun i=>dot n (gsB n Cf i) (gsB n Cf i)):=by
 have e1:det n Cf=det n (nu n (fun i t=>if t<i then gsM n Cf i t else if t=i then 1 else 0) (gsB n Cf)):=cy fun i j hi hj=>by
  show Cf i j=sm n (fun t=>(if t<i then gsM n Cf i t else if t=i then 1 else 0)*gsB n Cf t j)
  rw [vv (show i+1≤n by omega) (fun t h1 h2=>by rw [if_neg X,if_neg X]; exact Rat.zero_mul _),sm,if_neg (Nat.lt_irrefl _),if_pos Z,Ba n Cf i j]
  rw [cv (f:=fun t=>(if t<i then gsM n Cf i t else if t=i then 1 else 0)*gsB n Cf t j) (g:=fun t=>gsM n Cf i t*gsB n Cf t j) (fun t ht=>by rw [if_pos ht])]
  grind
 have e2:det n (fun i t=>if t<i then gsM n Cf i t else if t=i then (1:Rat) else 0)=1:=by
  rw [pT (fun i j hij hj=>by rw [if_neg X,if_neg X])]
  rw [ny (g:=fun _=>1) (fun i _=>by rw [if_neg (Nat.lt_irrefl _),if_pos Z])]
  clear e1
  induction n with
  | zero => rfl
  | succ n ih => rw [pr, ih, Rat.one_mul]
 rw [mu,e2,Rat.one_mul] at e1
 rw [e1]
 have e3:det n (gsB n Cf)*det n (gsB n Cf)=det n (nu n (gsB n Cf) (fun i j=>gsB n Cf j i)):=by
  rw [mu]
  congr 1
  exact (xz n mv (gsB n Cf)).symm
 rw [e3,pT (fun i j hij hj=>by
  show sm n (fun k=>gsB n Cf i k*gsB n Cf j k)=0
  have:=uq n Cf j i hij
  rw [jl] at this;exact this)]
 exact ny fun i _=>rfl
theorem xH (n:Nat) (Cf:Nat→Nat→Rat):det n Cf*det n Cf≤pr n (fun i=>dot n (Cf i) (Cf i)):=by
 rw [Bb]
 exact zD (fun i _=>rn _ _) (fun i _=>BN _ _ _)
end Tor.Lin
end
section
namespace Tor
open Go Go.RowKit Go.Proofs
variable [Tor.Co.Kc]
def sK (v:List Int):VT:=slT (.agg 2) v.length (fun i=>aR (v.getD i 0))
attribute [local irreducible] J PJ aC one slT bJ bH bF exT ch eP aQ aK slV VT.le Ret bQ
attribute [local irreducible] aR
end Tor
end
section
namespace Tor
open Go Go.RowKit Go.Proofs
variable [Tor.Co.Kc]
def xI (a:List (List Int)):VT:=slT .one a.length (fun i=>sK (a.getD i []))
def Bc (r c:Int) (a:List (List Int)):VT:=bH 3 [(0, .one,one (.int .i64 r)),(1, .one,one (.int .i64 c)),(2, .one,xI a)]
attribute [local irreducible] J PJ aC one slT bJ bH bF exT ch eP aQ aK slV VT.le Ret bQ
attribute [local irreducible] aR sK
end Tor
end
section
namespace Tor
open Go Go.RowKit Go.Proofs
variable [Tor.Co.Kc]
def fd (v:List (Bool × List Nat)):VT:=slT (.agg 2) v.length (fun i=>ki (v.getD i (false, [])).1 (v.getD i (false, [])).2)
def l8 (x:Int):Bool × List Nat:=(decide (x<0),aN x.natAbs)
theorem xJ (v:List Int):VT.le (sK v) (fd (v.map l8)):=by
 unfold sK fd
 refine VT.le_trans (fU (ψ:=fun i=>ki ((v.map l8).getD i (false, [])).1 ((v.map l8).getD i (false, [])).2) (fun i hi => ?_)) (by rw [List.length_map]; exact VT.le_refl _)
 simp only [List.getD,List.getElem?_map,List.getElem?_eq_getElem hi,Option.map_some,Option.getD_some]
 exact w5 _
theorem lf : ∀ {l:List Nat},gl l→0<l.length→l.getD (l.length - 1) 0≠0
 | [], _, h => absurd h U
 | [d], h, _ => h
 | _ :: d :: l, h, _ => lf (l := d :: l) h (by simp)
theorem sL (x:Int):fx (l8 x).1 (l8 x).2=true:=by
 unfold fx l8
 simp only
 split
 ·rename_i h
  have e:=List.eq_nil_of_length_eq_zero h
  have:x.natAbs=0:=by rw [← bT x.natAbs,e]; rfl
  have : ¬ x<0:=by omega
  simp [this]
 ·rename_i h
  have:=lf (kQ x.natAbs) X
  simpa using this
theorem ur {α:Type} {p:α→Bool} {v:List α} {d:α} {i:Nat} (h:(v.take i).all p=true) (hi:i<v.length) (he:p (v.getD i d)=true):(v.take (i+1)).all p=true:=by
 rw [List.take_add_one,List.all_append,h,List.getElem?_eq_getElem hi]
 simp only [List.getD,List.getElem?_eq_getElem hi,Option.getD_some] at he
 simp [he]
theorem sM {α:Type} {p:α→Bool} {v:List α} {d:α} {i:Nat} (hi:i<v.length) (he:p (v.getD i d)=false):v.all p=false:=by
 simp only [List.getD,List.getElem?_eq_getElem hi,Option.getD_some] at he
 rw [List.all_eq_false]; exact ⟨_,List.getElem_mem hi,by simp [he]⟩
attribute [local irreducible] J PJ aC one slT bJ bH bF exT ch eP aQ aK slV VT.le Ret bQ
attribute [local irreducible] aR ki
end Tor
end
section
namespace Tor
open Go Go.RowKit Go.Proofs
variable [Tor.Co.Kc]
abbrev sN:=List (Bool × List Nat)
def eg (a:List sN):VT:=slT .one a.length (fun i=>fd (a.getD i []))
def lg (r c:Int) (a:List sN):VT:=bH 3 [(0, .one,one (.int .i64 r)),(1, .one,one (.int .i64 c)),(2, .one,eg a)]
def jm (c:Int) (v:sN):Bool:=decide ((v.length:Int)=c) && v.all fun p=>fx p.1 p.2
def iL (r c:Int) (a:List sN):Bool:=decide (0≤r∧0≤c∧(a.length:Int)=r) && a.all (jm c)
attribute [local irreducible] J PJ aC one slT bJ bH bF exT ch eP aQ aK slV VT.le Ret bQ
attribute [local irreducible] aR ki fd
end Tor
end
section
namespace Tor
open Go Go.RowKit Go.Proofs
variable [Tor.Co.Kc]
def tab (r c:Nat) (F:Nat→Nat→Int):List (List Int):=(List.range r).map fun i=>(List.range c).map (F i)
@[simp] theorem tab_length (r c:Nat) (F:Nat→Nat→Int):(tab r c F).length=r:=by simp [tab]
theorem zE {r c i:Nat} (F:Nat→Nat→Int) (hi:i<r):(tab r c F).getD i []=(List.range c).map (F i):=by simp [tab,List.getD,hi]
theorem Bd {c j:Nat} (f:Nat→Int) (hj:j<c):((List.range c).map f).getD j 0=f j:=by simp [List.getD,hj]
def dZ (c:Nat) (f:Nat→Int):VT:=slT (.agg 2) c (fun j=>aR (f j))
theorem xK (c:Nat) (f:Nat→Int):VT.le (dZ c f) (sK ((List.range c).map f)):=by
 unfold dZ sK
 refine VT.le_trans (fU (ψ:=fun j=>aR (((List.range c).map f).getD j 0)) (fun j hj => ?_)) (jU (by simp))
 rw [Bd f hj]; exact VT.le_refl _
def co (r c:Nat) (F:Nat→Nat→Int):VT:=bH 3 [(0, .one,one (.int .i64 r)),(1, .one,one (.int .i64 c)),(2, .one,slT .one r (fun i=>dZ c (F i)))]
theorem xL (r c:Nat) (F:Nat→Nat→Int):VT.le (co r c F) (Bc r c (tab r c F)):=by
 unfold co Bc xI
 refine gh (fun q hq => ?_)
 rcases List.mem_cons.1 hq with rfl | hq
 ·exact ⟨_,List.mem_cons_self,A⟩
 rcases List.mem_cons.1 hq with rfl | hq
 ·exact ⟨_,List.mem_cons_of_mem _ List.mem_cons_self,A⟩
 rcases List.mem_cons.1 hq with rfl | hq
 ·refine ⟨_,List.mem_cons_of_mem _ (List.mem_cons_of_mem _ List.mem_cons_self),VT.le_trans (fU (ψ:=fun i=>sK ((tab r c F).getD i [])) (fun i hi => ?_)) (jU (by simp))⟩
  rw [zE F hi]; exact xK _ _
 ·cases hq
theorem pU {r c:Nat} {F G:Nat→Nat→Int} (h : ∀ i j,i<r→j<c→F i j=G i j):VT.le (co r c F) (co r c G):=by
 unfold co
 refine gh (fun q hq => ?_)
 rcases List.mem_cons.1 hq with rfl | hq
 ·exact ⟨_,List.mem_cons_self,A⟩
 rcases List.mem_cons.1 hq with rfl | hq
 ·exact ⟨_,List.mem_cons_of_mem _ List.mem_cons_self,A⟩
 rcases List.mem_cons.1 hq with rfl | hq
 ·refine ⟨_,List.mem_cons_of_mem _ (List.mem_cons_of_mem _ List.mem_cons_self),fU fun i hi=>fU fun j hj=>jU (by rw [h i j hi hj])⟩
 ·cases hq
theorem ro:VT.le (one (.agg #[.bool false, .slice none 0 0])) (aR 0):=by
 intro v h e
 have e:v = .agg #[.bool false, .slice none 0 0]:=e
 subst e
 refine ⟨_,rfl,rfl,by simp [Value.oneCell'],fun q hq => ?_⟩
 rcases List.mem_cons.1 hq with rfl | hq
 ·exact ⟨.bool false,rfl,rfl⟩
 ·rcases List.mem_cons.1 hq with rfl | hq
  ·exact ⟨.slice none 0 0,rfl,⟨none,0,rfl,Nat.le_refl _,by decide,fun i hi=>absurd hi (Nat.not_lt_zero _)⟩⟩
  ·cases hq
theorem lT {sv:Option Nat} {T:TypeId} {L:Lay} {cap n:Nat} {φ:Nat→VT} {g:RH} {h:Hp} (hp:(aK sv T L cap n φ).p g h) (he:sv=none):n=0:=by
 obtain ⟨h1,h2,h3,_⟩:=hp;have:=h3 he;omega
theorem n6 {bs:List Nat} {i:Nat} (h:i<bs.length):bs[i]? = some (bs.getD i 0):=by simp [List.getD,h]
def fR (sv:Option Nat) (cap r c:Nat) (bs:List Nat):Own:=aK sv 39 .one cap r (fun q=>one (slV (some (bs.getD q 0)) c c))
def d5 (c:Nat) (bs:List Nat) (F:Nat→Nat→Int):Own:=cX 28 (.agg 2) c bs (fun q k=>aR (F q k))
theorem d7 {c:Nat} {bs:List Nat} {F G:Nat→Nat→Int} (h : ∀ i j,i<bs.length→j<c→F i j=G i j):Own.le (d5 c bs F) (d5 c bs G):=ie fun i j hi hj=>by rw [h i j hi hj]
abbrev BO (r:Nat) := {s:List Nat × Option Nat × Nat // s.1.length=r∧(s.2.1=none→r=0)}
def kr (r c:Nat) (s:BO r):VT:=bH 3 [(0, .one,one (.int .i64 r)),(1, .one,one (.int .i64 c)),(2, .one,one (slV s.1.2.1 r s.1.2.2))]
theorem fB {r c:Nat} {sv:Option Nat} {cap:Nat} {bs:List Nat} {F:Nat→Nat→Int} {cs:bY} (hb:bs.length=r) (hc:(0,Lay.one,one (.int .i64 r))∈cs∧(1,Lay.one,one (.int .i64 c))∈cs∧(2,Lay.one,one (slV sv r cap))∈cs) :
  pg [fR sv cap r c bs,d5 c bs F] cs [(0, .one,one (.int .i64 r)),(1, .one,one (.int .i64 c)),(2, .one,slT .one r (fun i=>dZ c (F i)))]:=by
 refine .cons hc.1 (Ent.refl _) (.cons hc.2.1 (Ent.refl _) (.cons hc.2.2 ?_ .nil))
 refine Ent.slE List.mem_cons_self fun q hq => ?_
 exact Ent.row (List.mem_cons_of_mem _ List.mem_cons_self) (n6 X)
attribute [local irreducible] J PJ aC one slT bJ bH bF exT ch eP aQ aK slV VT.le Ret bQ
attribute [local irreducible] cX
theorem jM (r c:Nat) (hr:r≤1048576) (hc:c≤1048576):OkM Tryz.prog 35 [one (.int .i64 r),one (.int .i64 c)] (kr r c) (fun s => [fR s.1.2.1 s.1.2.2 r c s.1.1,d5 c s.1.1 (fun _ _=>0)]):=by
 refine OkM.enter Tryz.func35 Z Tryz.ntmps35 Z (fun w O => ?_)
 refine ae (ai ?_)
 refine bS (T:=35) Z Z Z (fun b => ?_)
 refine Cq (aa (ae (ai (sf (n:=0) Z Z Z Z Z ?_))))
 refine PartsK.nil (fun b => ?_)
 refine Cn Z (Cq (aa (ae (ae (ai (Cn Z (Cq (aa (av ?_)))))))))
 rename_i bc
 refine jd (ConvM.rows0 (T:=28) (L := .agg 2) (c:=c) (φ:=fun _ _=>aR 0) _) ?_
 refine cN (σ:=List Nat × Option Nat × Nat) (fun s => [(0,one (.int .i64 r)),(1,one (.int .i64 c)),(4,one (.pointer (some ⟨bc,0,none⟩))),(5,one (slV s.2.1 s.1.length s.2.2)),(6,one (.int .i64 s.1.length))])
  (fun s => [aK s.2.1 39 .one s.2.2 s.1.length (fun q=>one (slV (some (s.1.getD q 0)) c c)),aQ bc 35 3 (dg #[Value.int IntKind.i64 0,Value.int IntKind.i64 0,Value.slice none 0 0] [(0,Lay.one),(1,Lay.one),(2,Lay.one)]),d5 c s.1 (fun _ _=>0)])
  (fun s=>s.1.length≤r) (fun s=>r - s.1.length) ([],some b,0) (Nat.zero_le _) Ci (.keep (cf (fun q hq=>by omega)) (SubM.refl _)) (fun s hk => ?_)
 obtain ⟨bs,sv0,cap0⟩:=s
 simp only at hk ⊢
 refine ae (ae (ai (Cm Z (Cm Z (Cl (bE Z Z) (Cq (aa ?_)))))))
 refine bh Z (fun hc => ?_) (fun hc => ?_) <;> simp at hc
 ·refine ax (aa (ae (av (ai (Cm Z (Cm Z ?_))))))
  refine cA c c Z Z Z Z (Nat.le_refl _) Z Z X Z Z (fun bz => ?_)
  refine nU Z Z Z Z ?_
  (refine er 1 Z Z Z (leN Z) ?_ ?_ Z (ltN Z) (fun sv cap => ?_);omega;omega)
  refine Cn Z (Cq (aL (aa (ai (Cm Z ?_)))))
  (refine Cl (cz Z Z (aP ?_ ?_)) ?_;omega;omega)
  refine Cn Z (Cq (fE (ConvM.row (k:=2) Z) (cr (s:=(bs,sv0,cap0)) (bs ++ [bz],sv,cap) (by simp;omega) (by simp;omega) (.cons Z A (.cons Z A (.cons Z A (.cons Z (mq (by simp)) (.cons Z (ar (by simp)) .nil))))) ?_)))
  refine .keep (jh (by simp) (fun q hq => ?_)) (.keep Ck (.keep (qu fun i j hi hj => ?_) .nil))
  ·by_cases h:q<bs.length
   ·rw [if_pos h]; simp [List.getElem?_append_left h]
   ·have:q=bs.length:=by omega
    subst this;rw [if_neg h]; simp
  ·simp only
   split
   ·exact VT.le_refl _
   ·exact ro
 ·have hlen:bs.length=r:=by omega
  subst hlen
  refine mj (i:=0) (F:=sv0=none→bs.length=0) Z (fun g h hp he=>lT hp he) (fun hF => ?_)
  refine a8 (aw (aw (aM (aa (ae (ai (Cm Z (Cm Z (Cm Z ?_)))))))))
  refine stB Z Z Z (BuildK.cons Z Z Z (BuildK.cons Z Z Z (BuildK.cons Z Z Z (BuildK.nil (bO 1 Z Z Z Z (Cq (aa (aE ?_))))))))
  refine mQ ⟨(bs,sv0,cap0),rfl,hF⟩ Tryz.results35 (.cellW 1 Z Z A) ?_
  exact .keep Ck (.drop (SubM.refl _))
end Tor
end
section
namespace Tor
open Go Go.RowKit Go.Proofs
variable [Tor.Co.Kc]
def ku (k:IntKind) (l:List Int):VT:=slT .one l.length (fun i=>one (.int k (l.getD i 0)))
theorem fG {sv:Option Nat} {r:Nat} (h:sv=none→r=0) (hr:0<r) : ∃ b,sv=some b:=by
 cases sv with
 | none => have := h Z; omega
 | some b => exact ⟨b, rfl⟩
theorem n7 (i c j:Nat):((i:Int)*c+j).toNat=i*c+j:=by
 have:((i:Int)*c+j)=((i*c+j:Nat):Int):=by simp
 rw [this,Int.toNat_natCast]
def f6 (f:Nat→Int) (c i j:Nat):Nat→Nat→Int:=fun q k=>if q<i∨(q=i∧k<j) then f (q*c+k) else 0
theorem xM {l:List Int} {i:Nat} {p:Int→Prop} (h : ∀ x∈l,p x) (h0:p 0):p (l.getD i 0):=by
 rcases Nat.lt_or_ge i l.length with hi | hi
 ·simp only [List.getD,List.getElem?_eq_getElem hi,Option.getD_some]; exact h _ (List.getElem_mem hi)
 ·simp only [List.getD,List.getElem?_eq_none hi,Option.getD_none]; exact h0
theorem rp {T:TypeId} {c:Nat} {bs:List Nat} {f:Nat→Int} {i j:Nat} (x:Int) (hx:x=f (i*c+j)) :
  Own.le (cX T (.agg 2) c bs (iW (fun q k=>aR (f6 f c i j q k)) i j (aR x))) (cX T (.agg 2) c bs (fun q k=>aR (f6 f c i (j+1) q k))):=by
 subst hx
 refine ie fun q k hq hk => ?_
 unfold iW f6
 by_cases h:q=i∧k=j
 ·obtain ⟨rfl,rfl⟩:=h;simp
 ·rw [if_neg h]
  have e:(q<i∨q=i∧k<j+1)↔(q<i∨q=i∧k<j):=by omega
  simp only [e]
attribute [local irreducible] J PJ aC one slT bJ bH bF exT ch eP aQ aK slV VT.le Ret bQ
attribute [local irreducible] aR cX
theorem xN (r c:Nat) (l:List Int) (hr0:r≤1048576) (hc0:c≤1048576) (hl : ∀ x∈l, -9223372036854775808≤x∧x≤9223372036854775807):Ok Tryz.prog 39 [one (.int .i64 r),one (.int .i64 c),ku .i64 l] (co r c (fun i j=>l.getD (i*c+j) 0)):=by
 unfold ku
 refine Ok.enter Tryz.func39 Z Tryz.ntmps39 Z (fun w O => ?_)
 refine ae (ai ?_)
 refine bS (T:=35) Z Z Z (fun b => ?_)
 refine Cq (aa (ae (ai (Cm Z (Cm Z ?_)))))
 refine gi (jM r c hr0 hc0) Z ⟨A,A,Cr⟩ Z Z (fun s => ?_)
 obtain ⟨⟨bs,sv1,cap1⟩,hlen,hsv⟩:=s
 simp only at hlen hsv
 unfold kr
 refine bS (T:=35) Z Z Z (fun b => ?_)
 refine bO 0 Z Z Z Z (Cq (aa (ae (ae (ai (Cn Z (Cq (aa (av ?_)))))))))
 rename_i b2
 refine cN (σ:=Nat) (fun i => [(0,one (.int .i64 r)),(1,one (.int .i64 c)),(2,slT .one l.length (fun i=>one (.int .i64 (l.getD i 0)))),(6,one (.pointer (some ⟨b2,0,none⟩))),(7,one (.pointer (some ⟨b,0,none⟩))),(8,one (.int .i64 (i:Nat)))])
  (fun i => [aQ b 35 3 [(0, .one,one (.int .i64 r)),(1, .one,one (.int .i64 c)),(2, .one,one (slV sv1 r cap1))],fR sv1 cap1 r c bs,d5 c bs (f6 (fun n=>l.getD n 0) c i 0),
   aQ b2 35 3 (dg #[Value.int IntKind.i64 0,Value.int IntKind.i64 0,Value.slice none 0 0] [(0,Lay.one),(1,Lay.one),(2,Lay.one)])])
  (fun i=>i≤r) (fun i=>r - i) 0 (Nat.zero_le _) Ci (.keep Ck (.keep Ck (.keep (d7 fun i j hi hj=>by simp [f6]) (SubM.refl _)))) (fun i hi => ?_)
 refine ae (ae (ai (Cm Z (Cm Z (Cl (bE Z Z) (Cq (aa ?_)))))))
 refine bh Z (fun hc => ?_) (fun hc => ?_) <;> simp at hc
 ·have hir:i<r:=by omega
  obtain ⟨bo,rfl⟩:=fG hsv X
  refine ax (aa (ae (av (ae (ai (Cn Z (Cq (aa (av ?_)))))))))
  refine cN (σ:=Nat) (fun j => [(0,one (.int .i64 r)),(1,one (.int .i64 c)),(2,slT .one l.length (fun i=>one (.int .i64 (l.getD i 0)))),(6,one (.pointer (some ⟨b2,0,none⟩))),(7,one (.pointer (some ⟨b,0,none⟩))),(8,one (.int .i64 (i:Nat))),(9,one (.int .i64 (j:Nat)))])
   (fun j => [aQ b 35 3 [(0, .one,one (.int .i64 r)),(1, .one,one (.int .i64 c)),(2, .one,one (slV (some bo) r cap1))],fR (some bo) cap1 r c bs,d5 c bs (f6 (fun n=>l.getD n 0) c i j),
   aQ b2 35 3 (dg #[Value.int IntKind.i64 0,Value.int IntKind.i64 0,Value.slice none 0 0] [(0,Lay.one),(1,Lay.one),(2,Lay.one)])])
   (fun j=>j≤c) (fun j=>c - j) 0 (Nat.zero_le _) Ci (SubM.refl _) (fun j hj => ?_)
  have hm:i*c≤1048576*1048576:=Nat.mul_le_mul X hc0
  have hm2:(i:Int)*c≤1099511627776:=by omega
  have hm3:0≤(i:Int)*c:=by have:=Nat.zero_le (i*c);omega
  refine ae (ae ?_)
  refine eX (σ:=Unit) (fun _ => [(0,one (.int .i64 r)),(1,one (.int .i64 c)),(2,slT .one l.length (fun i=>one (.int .i64 (l.getD i 0)))),(6,one (.pointer (some ⟨b2,0,none⟩))),(7,one (.pointer (some ⟨b,0,none⟩))),(8,one (.int .i64 (i:Nat))),(9,one (.int .i64 (j:Nat))),(30,one (.bool (decide (j<c∧i*c+j<l.length))))])
   (fun _ => [aQ b 35 3 [(0, .one,one (.int .i64 r)),(1, .one,one (.int .i64 c)),(2, .one,one (slV (some bo) r cap1))],fR (some bo) cap1 r c bs,d5 c bs (f6 (fun n=>l.getD n 0) c i j),
   aQ b2 35 3 (dg #[Value.int IntKind.i64 0,Value.int IntKind.i64 0,Value.slice none 0 0] [(0,Lay.one),(1,Lay.one),(2,Lay.one)])]) (fun _=>True) ?_ (fun _ _ => ?_)
  ·refine ai (Cm Z (Cm Z (Cl (bE Z Z) (Cm Z ?_))))
   refine mK (t:=21) Z (fun b h1 => ?_)
   rw [h1]
   cases b
   ·simp at h1
    refine sg0 Z Z Z Z (sg0 Z Z Z Z (sg0 Z Z Z Z (sg0 Z Z Z Z (sg0 Z Z Z Z (sg0 Z Z Z Z (sg0 Z Z Z Z (sg0 Z Z Z Z (Cl (bK Z Z) (Cq ?_)))))))))
    refine cI () trivial (.cons Z A (.cons Z A (.cons Z A (.cons Z A (.cons Z A (.cons Z A (.cons Z A (.cons Z (ar ?_) .nil)))))))) (SubM.refl _)
    congr 1;symm;rw [decide_eq_false_iff_not]; omega
   ·simp at h1
    refine Cp (ab Z) (Cp (ab Z) ?_)
    (refine Cp (mD Z Z (aP ?_ ?_)) ?_;omega;omega)
    refine Cp (ab Z) ?_
    (refine Cp (cz Z Z (aP ?_ ?_)) ?_;omega;omega)
    refine Cp (ab Z) (Cp (bg Z) (Cp (bE Z Z) (Cl (bG Z Z) (Cq ?_))))
    refine cI () trivial (.cons Z A (.cons Z A (.cons Z A (.cons Z A (.cons Z A (.cons Z A (.cons Z A (.cons Z (ar ?_) .nil)))))))) (SubM.refl _)
    congr 1;rw [decide_eq_decide]
    have:((i*c:Nat):Int)=(i:Int)*c:=by simp
    omega
  ·refine aa ?_
   refine bh Z (fun hc2 => ?_) (fun hc2 => ?_) <;> simp only [decide_eq_true_eq,decide_eq_false_iff_not] at hc2
   ·have hm4:((i*c:Nat):Int)=(i:Int)*c:=by simp
    refine ax (aa (ae (av (bm 16 bD Y U (Cl (aj Z) (Cl (ak 0 Z Z Z) (Cm Z ?_)))))))
    (refine Cl (au Z Z ?_) ?_;omega)
    (refine Cl (bR 1 Z Z ?_) ?_;omega)
    refine Cm Z (Cm Z (Cm Z (Cm Z ?_)))
    (refine Cl (mD Z Z (aP ?_ ?_)) ?_;omega;omega)
    refine Cm Z ?_
    (refine Cl (cz Z Z (aP ?_ ?_)) ?_;omega;omega)
    (refine Cl (aH Z Z ?_) ?_;omega)
    refine Cl (aY Z) ?_
    have hv:=xM (i:=((i:Int)*c+j).toNat) hl U
    refine Cl (am (g8 _ hv.1 hv.2) Z ⟨A,Cr⟩) ?_
    (refine Cl (au Z Z ?_) ?_;omega)
    refine Cq ?_
    (refine fJ 2 Z Z Z (n6 ?_) ?_ Z ?_;omega;omega)
    refine Cq (aL (aa (ai (Cm Z ?_))))
    (refine Cl (cz Z Z (aP ?_ ?_)) ?_;omega;omega)
    refine Cn Z (Cq ?_)
    refine cr (s:=j) (j+1) (show _ from by omega) X Ci (.keep Ck (.keep Ck (.keep (rp _ (by rw [n7])) (SubM.refl _))))
   ·refine a8 (aw (aw (aM (aL (aa (ai (Cm Z ?_)))))))
    (refine Cl (cz Z Z (aP ?_ ?_)) ?_;omega;omega)
    refine Cn Z (Cq ?_)
    refine cr (s:=i) (i+1) (show _ from by omega) X Ci (.keep Ck (.keep Ck (.keep (d7 fun q k hq hk => ?_) (SubM.refl _))))
    unfold f6
    by_cases h:q<i∨(q=i∧k<j)
    ·rw [if_pos h,if_pos X]
    ·rw [if_neg h]
     by_cases h2:q=i
     ·subst h2;rw [if_pos X]
      have:l.length≤q*c+k:=by omega
      simp [List.getD,List.getElem?_eq_none this]
     ·rw [if_neg X]
 ·have hin:i=r:=by omega
  subst hin
  refine a8 (aw (aw (aM (aa (ae (ai (Cl (bj 0 Z Z) (bO 3 Z Z Z Z (Cq ?_)))))))))
  refine aa (aE ?_)
  have hperm : ∀ (x y z u:Own), [x,y,z,u].Perm ([y,z] ++ [x,u]):=fun x y z u=>(List.Perm.swap y x _).trans (List.Perm.cons y (List.Perm.swap z x _))
  refine gk [fR sv1 cap1 i c bs,d5 c bs (f6 (fun n=>l.getD n 0) c i 0)] (hperm _ _ _ _) (.keep (uQ.refl _) (.keep (uQ.box (fB hlen ⟨by simp,by simp,by simp⟩)) .nil)) (uR.refl _) ?_
  refine aV Tryz.results39 (.cellW 1 Z Z ?_)
  exact pU fun a b ha hb=>by simp [f6,ha]
end Tor
end
section
namespace Tor
open Go Go.RowKit Go.Proofs
variable [Tor.Co.Kc]
theorem Be (x:Int) : -10<x.tmod 10∧x.tmod 10<10:=⟨by
 have:=Int.tmod_lt_of_pos (-x) (show (0:Int)<10 by decide)
 rw [Int.neg_tmod] at this;omega,Int.tmod_lt_of_pos x U⟩
def dig (l:List Int) (n:Nat):Int:=(l.getD n 0).tmod 10
attribute [local irreducible] J PJ aC one slT bJ bH bF exT ch eP aQ aK slV VT.le Ret bQ
attribute [local irreducible] aR cX
theorem rq (r c:Nat) (l:List Int) (hr0:r≤16) (hc0:c≤16):OkM Tryz.prog 33 [one (.int .i64 r),one (.int .i64 c),ku .i8 l] (kr r c) (fun s => [fR s.1.2.1 s.1.2.2 r c s.1.1,d5 c s.1.1 (fun i j=>dig l (i*c+j))]):=by
 unfold ku
 refine OkM.enter Tryz.func33 Z Tryz.ntmps33 Z (fun w O => ?_)
 refine ae (ai ?_)
 refine bS (T:=35) Z Z Z (fun b => ?_)
 refine Cq (aa (ae (ai (Cm Z (Cl (Ar Z Z) (Cl (wo Z Z) (Cm Z (Cl (Ar Z Z) (Cl (wo Z Z) ?_)))))))))
 refine gi (jM r c X X) Z ⟨ar (by congr 1;omega),ar (by congr 1;omega),Cr⟩ Z Z (fun s => ?_)
 obtain ⟨⟨bs,sv1,cap1⟩,hlen,hsv⟩:=s
 simp only at hlen hsv
 unfold kr
 refine bS (T:=35) Z Z Z (fun b => ?_)
 refine bO 0 Z Z Z Z (Cq (aa (ae (ae (ai (Cn Z (Cq (aa (av ?_)))))))))
 rename_i b2
 refine cN (σ:=Nat) (fun i => [(2,slT .one l.length (fun i=>one (.int .i8 (l.getD i 0)))),(6,one (.pointer (some ⟨b2,0,none⟩))),(7,one (.pointer (some ⟨b,0,none⟩))),(8,one (.int .i64 (i:Nat)))])
  (fun i => [aQ b 35 3 [(0, .one,one (.int .i64 r)),(1, .one,one (.int .i64 c)),(2, .one,one (slV sv1 r cap1))],fR sv1 cap1 r c bs,d5 c bs (f6 (dig l) c i 0),
   aQ b2 35 3 (dg #[Value.int IntKind.i64 0,Value.int IntKind.i64 0,Value.slice none 0 0] [(0,Lay.one),(1,Lay.one),(2,Lay.one)])])
  (fun i=>i≤r) (fun i=>r - i) 0 (Nat.zero_le _) Ci (.keep Ck (.keep Ck (.keep (d7 fun i j hi hj=>by simp [f6]) (SubM.refl _)))) (fun i hi => ?_)
 refine ae (ae (ai (Cm Z (Cl (aj Z) (Cl (ak 0 Z Z Z) (Cl (bE Z Z) (Cq (aa ?_))))))))
 refine bh Z (fun hc => ?_) (fun hc => ?_) <;> simp at hc
 ·have hir:i<r:=by omega
  obtain ⟨bo,rfl⟩:=fG hsv X
  refine ax (aa (ae (av (ae (ai (Cn Z (Cq (aa (av ?_)))))))))
  refine cN (σ:=Nat) (fun j => [(2,slT .one l.length (fun i=>one (.int .i8 (l.getD i 0)))),(6,one (.pointer (some ⟨b2,0,none⟩))),(7,one (.pointer (some ⟨b,0,none⟩))),(8,one (.int .i64 (i:Nat))),(9,one (.int .i64 (j:Nat)))])
   (fun j => [aQ b 35 3 [(0, .one,one (.int .i64 r)),(1, .one,one (.int .i64 c)),(2, .one,one (slV (some bo) r cap1))],fR (some bo) cap1 r c bs,d5 c bs (f6 (dig l) c i j),
   aQ b2 35 3 (dg #[Value.int IntKind.i64 0,Value.int IntKind.i64 0,Value.slice none 0 0] [(0,Lay.one),(1,Lay.one),(2,Lay.one)])])
   (fun j=>j≤c) (fun j=>c - j) 0 (Nat.zero_le _) Ci (SubM.refl _) (fun j hj => ?_)
  have hm:i*c≤16*16:=Nat.mul_le_mul X hc0
  have hm2:(i:Int)*c≤256:=by omega
  have hm3:0≤(i:Int)*c:=by have:=Nat.zero_le (i*c);omega
  refine ae (ae ?_)
  refine eX (σ:=Unit) (fun _ => [(2,slT .one l.length (fun i=>one (.int .i8 (l.getD i 0)))),(6,one (.pointer (some ⟨b2,0,none⟩))),(7,one (.pointer (some ⟨b,0,none⟩))),(8,one (.int .i64 (i:Nat))),(9,one (.int .i64 (j:Nat))),(37,one (.bool (decide (j<c∧i*c+j<l.length))))])
   (fun _ => [aQ b 35 3 [(0, .one,one (.int .i64 r)),(1, .one,one (.int .i64 c)),(2, .one,one (slV (some bo) r cap1))],fR (some bo) cap1 r c bs,d5 c bs (f6 (dig l) c i j),
   aQ b2 35 3 (dg #[Value.int IntKind.i64 0,Value.int IntKind.i64 0,Value.slice none 0 0] [(0,Lay.one),(1,Lay.one),(2,Lay.one)])]) (fun _=>True) ?_ (fun _ _ => ?_)
  ·refine ai (Cm Z (Cl (aj Z) (Cl (ak 0 Z Z Z) (Cl (bE Z Z) (Cm Z ?_)))))
   refine mK (t:=27) Z (fun b h1 => ?_)
   rw [h1]
   cases b
   ·simp at h1
    refine sg0 Z Z Z Z (sg0 Z Z Z Z (sg0 Z Z Z Z (sg0 Z Z Z Z (sg0 Z Z Z Z (sg0 Z Z Z Z (sg0 Z Z Z Z (sg0 Z Z Z Z (sg0 Z Z Z Z (Cl (bK Z Z) ?_)))))))))
    refine Cq ?_
    refine cI () trivial (.cons Z A (.cons Z A (.cons Z A (.cons Z A (.cons Z A (.cons Z (ar ?_) .nil)))))) (SubM.refl _)
    congr 1;symm;rw [decide_eq_false_iff_not]; omega
   ·simp at h1
    refine Cp (ab Z) (Cp (aj Z) (Cp (ak 0 Z Z Z) ?_))
    (refine Cp (mD Z Z (aP ?_ ?_)) ?_;omega;omega)
    refine Cp (ab Z) ?_
    (refine Cp (cz Z Z (aP ?_ ?_)) ?_;omega;omega)
    refine Cp (ab Z) (Cp (bg Z) (Cp (bE Z Z) (Cl (bG Z Z) (Cq ?_))))
    refine cI () trivial (.cons Z A (.cons Z A (.cons Z A (.cons Z A (.cons Z A (.cons Z (ar ?_) .nil)))))) (SubM.refl _)
    congr 1;rw [decide_eq_decide]
    have:((i*c:Nat):Int)=(i:Int)*c:=by simp
    omega
  ·refine aa ?_
   refine bh Z (fun hc2 => ?_) (fun hc2 => ?_) <;> simp only [decide_eq_true_eq,decide_eq_false_iff_not] at hc2
   ·have hm4:((i*c:Nat):Int)=(i:Int)*c:=by simp
    refine ax (aa (ae (av (bm 19 bD Y U (Cl (aj Z) (Cl (ak 0 Z Z Z) (Cm Z ?_)))))))
    (refine Cl (au Z Z ?_) ?_;omega)
    (refine Cl (bR 1 Z Z ?_) ?_;omega)
    refine Cm Z (Cm Z (Cm Z (Cl (aj Z) (Cl (ak 0 Z Z Z) ?_))))
    (refine Cl (mD Z Z (aP ?_ ?_)) ?_;omega;omega)
    refine Cm Z ?_
    (refine Cl (cz Z Z (aP ?_ ?_)) ?_;omega;omega)
    (refine Cl (aH Z Z ?_) ?_;omega)
    refine Cl (aY Z) (Cl (An Z Z U Z) ?_)
    have hv:=Be (l.getD (i*c+j) 0)
    refine Cl (cE Z ?_ ?_) ?_; · omega
    ·omega
    refine Cl (am (g8 _ X X) Z ⟨A,Cr⟩) ?_
    (refine Cl (au Z Z ?_) ?_;omega)
    refine Cq ?_
    (refine fJ 2 Z Z Z (n6 ?_) ?_ Z ?_;omega;omega)
    refine Cq (aL (aa (ai (Cm Z ?_))))
    (refine Cl (cz Z Z (aP ?_ ?_)) ?_;omega;omega)
    refine Cn Z (Cq ?_)
    refine cr (s:=j) (j+1) (show _ from by omega) X Ci (.keep Ck (.keep Ck (.keep (rp _ Z) (SubM.refl _))))
   ·refine a8 (aw (aw (aM (aL (aa (ai (Cm Z ?_)))))))
    (refine Cl (cz Z Z (aP ?_ ?_)) ?_;omega;omega)
    refine Cn Z (Cq ?_)
    refine cr (s:=i) (i+1) (show _ from by omega) X Ci (.keep Ck (.keep Ck (.keep (d7 fun q k hq hk => ?_) (SubM.refl _))))
    unfold f6
    by_cases h:q<i∨(q=i∧k<j)
    ·rw [if_pos h,if_pos X]
    ·rw [if_neg h]
     by_cases h2:q=i
     ·subst h2;rw [if_pos X]
      have:l.length≤q*c+k:=by omega
      simp [dig,List.getD,List.getElem?_eq_none this]
     ·rw [if_neg X]
 ·have hin:i=r:=by omega
  subst hin
  refine a8 (aw (aw (aM (aa (ae (ai (Cl (bj 0 Z Z) (bO 3 Z Z Z Z (Cq ?_)))))))))
  refine aa (aE ?_)
  refine mQ ⟨(bs,sv1,cap1),hlen,hsv⟩ Tryz.results33 (.cellW 3 Z Z ?_) ?_
  ·show VT.le _ (kr i c _)
   unfold kr
   exact VT.le_refl _
  ·refine .drop (.keep Ck (.keep (d7 fun a b ha hb => ?_) (.drop .nil)))
   have:a<i:=by have:a<bs.length:=ha;omega
   simp [f6,this]
theorem ru {r c:Nat} (F:Nat→Nat→Int) (s:BO r):Ent [fR s.1.2.1 s.1.2.2 r c s.1.1,d5 c s.1.1 F] (kr r c s) (co r c F):=by
 unfold kr co
 exact Ent.agg (fB s.2.1 ⟨by simp,by simp,by simp⟩)
theorem nz (r c:Nat) (l:List Int) (hr0:r≤16) (hc0:c≤16):Ok Tryz.prog 33 [one (.int .i64 r),one (.int .i64 c),ku .i8 l] (co r c (fun i j=>dig l (i*c+j))) :=
 (rq r c l hr0 hc0).ok fun s=>ru _ s
end Tor
end
section
namespace Tor
open Go Go.RowKit Go.Proofs
variable [Tor.Co.Kc]
instance {neg:Bool} {l:List Nat} : Flat (ki neg l) (.agg 2):=by unfold ki;infer_instance
theorem sO {neg:Bool} {l:List Nat} {v:Value} {h:Hp} (H:(ki neg l).p v h):l.length≤281474976710656:=by
 obtain ⟨c,_,_,_,h4⟩:=H
 obtain ⟨x,_,hp⟩:=h4 _ (List.mem_cons_of_mem _ List.mem_cons_self)
 exact fl hp
theorem n8 {r c:Int} {a:List sN} {v:Value} {h:Hp} (H:(lg r c a).p v h):a.length≤2^48:=by
 obtain ⟨c,_,_,_,h4⟩:=H
 obtain ⟨x,_,hp⟩:=h4 _ (List.mem_cons_of_mem _ (List.mem_cons_of_mem _ List.mem_cons_self))
 exact fl hp
def nA (r c:Nat) (F:Nat→Nat→Int):List sN:=(tab r c F).map (·.map l8)
theorem xO (r c:Nat) (F:Nat→Nat→Int):VT.le (co r c F) (lg r c (nA r c F)):=by
 refine VT.le_trans (xL r c F) ?_
 unfold Bc lg
 refine gh (fun q hq => ?_)
 rcases List.mem_cons.1 hq with rfl | hq
 ·exact ⟨_,List.mem_cons_self,A⟩
 rcases List.mem_cons.1 hq with rfl | hq
 ·exact ⟨_,List.mem_cons_of_mem _ List.mem_cons_self,A⟩
 rcases List.mem_cons.1 hq with rfl | hq
 ·refine ⟨_,List.mem_cons_of_mem _ (List.mem_cons_of_mem _ List.mem_cons_self),?_⟩
  unfold xI eg nA
  refine VT.le_trans (fU (ψ:=fun i=>fd (((tab r c F).map (·.map l8)).getD i [])) (fun i hi => ?_)) (jU (by simp))
  refine VT.le_trans (xJ _) (jU ?_)
  simp [List.getD,List.getElem?_eq_getElem hi]
 ·cases hq
theorem sP (r c:Nat) (F:Nat→Nat→Int):iL r c (nA r c F)=true:=by
 unfold iL nA
 simp only [List.length_map,tab_length,Bool.and_eq_true,decide_eq_true_eq,List.all_map]
 refine ⟨⟨by omega,by omega,Cr⟩,?_⟩
 rw [List.all_eq_true]
 intro x hx
 simp only [tab,List.mem_map,List.mem_range] at hx
 obtain ⟨i,hi,rfl⟩:=hx
 simp only [jm,Function.comp,List.length_map,List.length_range,List.all_map,Bool.and_eq_true,decide_eq_true_eq]
 refine ⟨trivial,?_⟩
 rw [List.all_eq_true]
 intro y hy
 exact sL _
attribute [local irreducible] J PJ aC one slT bJ bH bF exT ch eP aQ aK slV VT.le Ret bQ
theorem xP (neg:Bool) (l:List Nat):Ok Tryz.prog 120 [ki neg l] (one (.bool (fx neg l))):=by
 refine Ok.enter Tryz.func120 Z Tryz.ntmps120 Z (fun w O => ?_)
 refine i9 (t:=0) Z (fun _ _=>sO) (fun hl => ?_)
 unfold ki
 by_cases h0:l.length=0
 ·refine ae (ai ?_)
  refine be Z Z (ltN Z) (fun b => ?_)
  refine Cn Z (Cq (aa (ae (ae (ai (Cl (aj Z) (Cl (ak 0 Z Z Z) (Cl (bg Z) (Cn Z ?_)))))))))
  refine Cq (aa (ae (ai (Cm Z (Cl (dl Z Z) (Cq (aa ?_)))))))
  refine bh Z (fun hc => ?_) (fun hc => ?_) <;> simp only [decide_eq_true_eq,decide_eq_false_iff_not,ne_eq,Decidable.not_not] at hc
  ·omega
  ·refine ax (aa (ae (ai (Cl (aj Z) (Cl (ak 0 Z Z Z) (Cl (dj Z) (Cn Z (Cq (aa ?_)))))))))
   refine aE ?_
   exact aV Tryz.results120 (.tmp Z (ar (by unfold fx;rw [if_pos h0])))
 ·refine ae (ai ?_)
  refine be Z Z (ltN Z) (fun b => ?_)
  refine Cn Z (Cq (aa (ae (ae (ai (Cl (aj Z) (Cl (ak 0 Z Z Z) (Cl (bg Z) (Cn Z ?_)))))))))
  refine Cq (aa (ae (ai (Cm Z (Cl (dl Z Z) (Cq (aa ?_)))))))
  refine bh Z (fun hc => ?_) (fun hc => ?_) <;> simp only [decide_eq_true_eq,decide_eq_false_iff_not,ne_eq,Decidable.not_not] at hc
  ·refine ae (ai (Cl (aj Z) (Cl (ak 0 Z Z Z) (Cm Z ?_))))
   (refine Cl (dJ Z Z (aP ?_ ?_)) ?_;omega;omega)
   (refine Cl (gB Z Z ?_ ?_) ?_;omega;omega)
   refine Cl (aY Z) (Cl (ej Z Z) (Cn Z (Cq (aa (aE (aI ?_))))))
   refine aV Tryz.results120 (.tmp Z (ar ?_))
   have e:(↑l.length - 1:Int).toNat=l.length - 1:=by omega
   unfold fx;rw [if_neg h0,e]; congr 1;rw [decide_eq_decide]; omega
  ·omega
attribute [local irreducible] aR ki
attribute [local irreducible] fd
theorem rv (r c:Int) (a:List sN):Ok Tryz.prog 80 [lg r c a] (one (.bool (iL r c a))):=by
 refine Ok.enter Tryz.func80 Z Tryz.ntmps80 Z (fun w O => ?_)
 refine i9 (t:=0) Z (fun _ _=>n8) (fun ha => ?_)
 unfold lg
 unfold eg
 refine ae (ai ?_)
 refine be Z Z (ltN Z) (fun b => ?_)
 refine Cn Z (Cq (aa (ae (ae (ai (Cl (aj Z) (Cl (ak 0 Z Z Z) (Cl (bE Z Z) (Cm Z ?_)))))))))
 refine mK (t:=10) Z (fun bo hb => ?_)
 rw [hb]
 cases bo
 ·have e1:0≤r:=by simpa using hb
  refine Cp (aj Z) (Cp (ak 0 Z Z Z) (Cp (bE Z Z) (Cl (bK Z Z) (Cm Z ?_))))
  refine mK (t:=15) Z (fun bo hb2 => ?_)
  rw [hb2]
  cases bo
  ·have e2:0≤c:=by simpa using hb2
   refine Cp (aj Z) (Cp (ak 0 Z Z Z) (Cp (bg Z) (Cp (aj Z) (Cp (ak 0 Z Z Z) (Cp (ej Z Z) (Cl (bK Z Z) (Cq (aa ?_))))))))
   refine bh Z (fun hc => ?_) (fun hc => ?_) <;> simp only [decide_eq_true_eq,decide_eq_false_iff_not,ne_eq,Decidable.not_not] at hc
   ·refine ae (ai (Cn Z (Cq (aa (aE (aI ?_))))))
    refine aV Tryz.results80 (.tmp Z (ar ?_))
    simp [iL,hc]
   ·have e3:(a.length:Int)=r:=hc
    refine ax (aa (ae (ae (ai (Cl (aj Z) (Cl (ak 0 Z Z Z) (Cl (bg Z) (Cm Z (Cq ?_)))))))))
    refine aa (av ?_)
    refine cN (σ:=Nat) (fun i => [(1,one (.pointer (some ⟨b,0,none⟩))),(24,eg a),(25,one (.int .i64 a.length)),(26,one (.int .i64 (i:Nat)))])
     (fun _ => [aQ b 35 3 [(0, .one,one (.int .i64 r)),(1, .one,one (.int .i64 c)),(2, .one,eg a)]])
     (fun i=>i≤a.length∧(a.take i).all (jm c)=true) (fun i=>a.length - i) 0 ⟨Nat.zero_le _,rfl⟩ Ci (SubM.refl _) (fun i ⟨hi,ht⟩ => ?_)
    unfold eg
    refine ae (ai (Cl (bE Z Z) (Cq (aa (ae ?_)))))
    refine bh Z (fun hc => ?_) (fun hc => ?_) <;> simp at hc
    ·refine ax (aa (ae (av (ae (ai ?_)))))
     (refine Cl (aH Z Z ?_) ?_;omega)
     refine Cl (aY Z) (Cn Z (Cq (aa (ae (ae (ai (Cm Z ?_)))))))
     unfold fd
     refine Cl (bg Z) (Cl (aj Z) (Cl (ak 0 Z Z Z) (Cl (ej Z Z) (Cq (aa ?_)))))
     refine bh Z (fun hc2 => ?_) (fun hc2 => ?_) <;> simp only [decide_eq_true_eq,decide_eq_false_iff_not,ne_eq,Decidable.not_not] at hc2
     ·refine ae (ai (Cn Z (Cq (aa (aE (aI (bv (aI (aI ?_)))))))))
      refine bv (aI ?_)
      refine aV Tryz.results80 (.tmp Z (ar ?_))
      have:=sM (p:=jm c) (d := []) hc (by simp only [jm,Bool.and_eq_false_iff]; left;simpa using hc2)
      simp [iL,this]
     ·refine i9 (t:=29) Z (fun _ _=>fl) (fun hlb => ?_)
      refine ax (aa (ae (ai (Cm Z (Cl (bg Z) (Cm Z (Cq (aa (av ?_)))))))))
      refine cN (σ:=Nat) (fun j => [(1,one (.pointer (some ⟨b,0,none⟩))),(24,eg a),(25,one (.int .i64 a.length)),(26,one (.int .i64 (i:Nat))),(35,fd (a.getD i [])),(36,one (.int .i64 (a.getD i []).length)),(37,one (.int .i64 (j:Nat)))])
       (fun _ => [aQ b 35 3 [(0, .one,one (.int .i64 r)),(1, .one,one (.int .i64 c)),(2, .one,eg a)]])
       (fun j=>j≤(a.getD i []).length∧((a.getD i []).take j).all (fun p=>fx p.1 p.2)=true) (fun j=>(a.getD i []).length - j) 0 ⟨Nat.zero_le _,rfl⟩ (by unfold eg fd;repeat (first | exact dS.nil | refine dS.cons Z A ?_ | (refine dS.cons Z (ar ?_) ?_;(congr 1;first | omega | (simp;omega) | simp)))) (by unfold eg fd;exact SubM.refl _) (fun j ⟨hj,hu⟩ => ?_)
      unfold eg fd
      refine ae (ai (Cl (bE Z Z) (Cq (aa (ae ?_)))))
      refine bh Z (fun hc3 => ?_) (fun hc3 => ?_) <;> simp only [decide_eq_true_eq,decide_eq_false_iff_not,Int.ofNat_lt] at hc3
      ·refine ax (aa (ae (av (ae (ai ?_)))))
       (refine Cl (aH Z Z ?_) ?_;omega)
       refine Cl (aY Z) ?_
       refine aJ (T:=28) Z (ltN Z) (fun b => ?_)
       refine ay 0 Z Z Z Z Z (leN Z) Z (Cq (aa (ae (ai (Cl (ak 0 Z Z Z) ?_)))))
       refine Cl (am (xP ((a.getD i []).getD j (false, [])).1 ((a.getD i []).getD j (false, [])).2) Z ⟨A,Cr⟩) ?_
       refine Cl (dj Z) (Cq (aa ?_))
       refine bh Z (fun hc4 => ?_) (fun hc4 => ?_)
       ·refine ae (ai (Cn Z (Cq (aa (aE (bv (aI (aI (bv ?_)))))))))
        refine bv (aI (aI (bv (aI ?_))))
        refine aV Tryz.results80 (.tmp Z (ar ?_))
        have h1:=sM (p:=fun p:Bool × List Nat=>fx p.1 p.2) (d:=(false, [])) (v:=a.getD i []) hc3 (by simpa using hc4)
        have h2:=sM (p:=jm c) (d := []) hc (by simp only [jm,Bool.and_eq_false_iff]; right;exact h1)
        simp [iL,h2]
       ·refine ax (aL (aa (ai ?_)))
        (refine Cl (cz Z Z (aP ?_ ?_)) ?_;omega;omega)
        refine Cm Z (Cq ?_)
        exact cr (s:=j) (j+1) ⟨by omega,ur (d:=(false, [])) hu hc3 (by simpa using hc4)⟩ (by show (a.getD i []).length - (j+1)<(a.getD i []).length - j;omega) Ci (.drop (SubM.refl _))
      ·refine a8 (aw (aw (aM (aL (aa (ai ?_))))))
       (refine Cl (cz Z Z (aP ?_ ?_)) ?_;omega;omega)
       refine Cm Z (Cq ?_)
       rw [List.take_of_length_le X] at hu
       exact cr (s:=i) (i+1) ⟨by omega,ur (d := []) ht hc (by simp only [jm,Bool.and_eq_true]; exact ⟨by simpa using hc2,hu⟩)⟩ (by show a.length - (i+1)<a.length - i;omega) Ci (SubM.refl _)
    ·refine a8 (aw (aw (aM (aa (ae (ai (Cn Z (Cq (aa ?_)))))))))
     refine aE ?_
     refine aV Tryz.results80 (.tmp Z (ar ?_))
     rw [List.take_of_length_le X] at ht
     simp [iL,ht,e1,e2,e3]
  ·have e2 : ¬ (0≤r∧0≤c):=by simp at hb2;omega
   refine sg0 Z Z Z Z (sg0 Z Z Z Z (sg0 Z Z Z Z (sg0 Z Z Z Z (sg0 Z Z Z Z (sg0 Z Z Z Z (Cl (bG Z Z) (Cq (aa ?_))))))))
   refine bh Z (fun hc => ?_) (fun hc => ?_)
   ·refine ae (ai (Cn Z (Cq (aa (aE (aI ?_))))))
    refine aV Tryz.results80 (.tmp Z (ar ?_))
    simp only [iL]; rw [decide_eq_false X]; rfl
   ·cases hc
 ·have e1 : ¬ 0≤r:=by simpa using hb
  refine sg0 Z Z Z Z (sg0 Z Z Z Z (sg0 Z Z Z Z (Cl (bG Z Z) (Cm Z (sg0 Z Z Z Z (sg0 Z Z Z Z (sg0 Z Z Z Z (sg0 Z Z Z Z (sg0 Z Z Z Z ?_)))))))))
  refine sg0 Z Z Z Z (Cl (bG Z Z) (Cq (aa ?_)))
  refine bh Z (fun hc => ?_) (fun hc => ?_)
  ·refine ae (ai (Cn Z (Cq (aa (aE (aI ?_))))))
   refine aV Tryz.results80 (.tmp Z (ar ?_))
   simp [iL,e1]
  ·cases hc
end Tor
end
section
namespace Tor
open Go Go.RowKit Go.Proofs
variable [Tor.Co.Kc]
instance {r c:Nat} {F:Nat→Nat→Int} : Flat (co r c F) (.agg 3):=by unfold co;infer_instance
attribute [local irreducible] J PJ aC one slT bJ bH bF exT ch eP aQ aK slV VT.le Ret bQ
attribute [local irreducible] aR co
theorem lh (r c:Nat) (F:Nat→Nat→Int):Ok Tryz.prog 80 [co r c F] (one (.bool true)):=by
 have h:=rv r c (nA r c F)
 rw [sP] at h
 exact h.le ⟨xO r c F,Cr⟩ A
end Tor
end
section
namespace Tor
open Go Go.RowKit Go.Proofs
variable [Tor.Co.Kc]
attribute [local irreducible] J PJ aC one slT bJ bH bF exT ch eP aQ aK slV VT.le Ret bQ
theorem xQ (n:Nat) (φ ψ χ:Nat→VT) [hF : ∀ i,Flat (χ i) (.agg 2)] (cl:VT) (hn:n≤1048576) (hC : ∀ i,i<n→fK Tryz.prog cl [φ i, ψ i] (χ i)):Ok Tryz.prog 146 [slT (.agg 2) n φ,slT (.agg 2) n ψ,cl] (slT (.agg 2) n χ):=by
 refine Ok.enter Tryz.func146 Z Tryz.ntmps146 Z (fun w O => ?_)
 refine ae (ai (Cn Z (Cq (aa (ae (ai (Cm Z (Cl (bg Z) ?_))))))))
 refine cA n n Z Z Z Z (Nat.le_refl _) Z Z X Z Z (fun bz => ?_)
 refine Cn Z (Cq (aa (ae (ae (ai (Cm Z (Cl (i6 Z) (Cm Z (Cq ?_)))))))))
 refine aa (av ?_)
 refine cN (σ:=Nat) (fun i => [(0,slT (.agg 2) n φ),(1,slT (.agg 2) n ψ),(2,cl),(7,one (slV (some bz) n n)),(13,one (.int .i64 n)),(14,one (.int .i64 (i:Nat)))])
  (fun i => [aK (some bz) 28 (.agg 2) n n (fun q=>if q<i then χ q else bQ)]) (fun i=>i≤n) (fun i=>n - i) 0 (Nat.zero_le _) Ci (.keep (kI fun q hq=>by rw [if_neg X]; exact pE _) .nil) (fun i hi => ?_)
 refine ae (ai (Cl (bE Z Z) (Cq (aa (ae ?_)))))
 refine bh Z (fun hc => ?_) (fun hc => ?_) <;> simp only [decide_eq_true_eq,decide_eq_false_iff_not,ne_eq,Decidable.not_not] at hc
 ·refine ax (aa (ae (av (ae (ai (Cm Z (Cn Z (Cq (aa ?_)))))))))
  refine bm 13 bD Y U (Cm Z (Cm Z (Cm Z (Cm Z (Cm Z ?_)))))
  (refine Cl (aH Z Z ?_) ?_;omega)
  refine Cl (aY Z) (Cm Z (Cm Z ?_))
  (refine Cl (aH Z Z ?_) ?_;omega)
  refine Cl (aY Z) ?_
  refine Cl (ml (hC i X) Z Z ⟨A,A,Cr⟩) ?_
  (refine Cl (au Z Z ?_) ?_;omega)
  refine Cq ?_
  (refine az 0 Z Z Z ?_ Z ?_;omega)
  refine Cq (aL (aa (ai ?_)))
  (refine Cl (cz Z Z (aP ?_ ?_)) ?_;omega;omega)
  refine Cm Z (Cq ?_)
  refine cr (s:=i) (i+1) (show _ from by omega) (by show n - (i+1)<n - i;omega) Ci (.keep (cf fun q hq => ?_) .nil)
  unfold upd
  by_cases h:q=i
  ·subst h;rw [if_pos Z,if_pos X]
  ·rw [if_neg h]
   have e:q<i+1↔q<i:=by omega
   simp only [e]
 ·have hk:i=n:=by omega
  subst hk
  refine a8 (aw (aw (aM (aa (ae (ai (Cm Z (Cn Z (Cq ?_)))))))))
  refine aa (aE (dE (t:=6) (i:=0) Z Z ?_))
  refine aV Tryz.results146 (.tmp Z (fU fun q hq => ?_))
  rw [if_pos hq]; exact VT.le_refl _
end Tor
end
section
namespace Tor
open Go Go.RowKit Go.Proofs
variable [Tor.Co.Kc]
def ez:Nat→(Nat→Int)→Int
 | 0, _ => 0
 | n + 1, f => ez n f + f n
theorem sQ {n B:Nat} {f:Nat→Int} (h : ∀ i,(f i).natAbs≤B):(ez n f).natAbs≤n*B:=by
 induction n with
 | zero => simp [ez]
 | succ n ih =>
  rw [ez,Nat.succ_mul]
  have:=h n
  omega
theorem xR {n k:Nat} {f:Nat→Int} (hn:n≤1048576) (h : ∀ i,(aN (f i).natAbs).length≤k):(aN (ez n f).natAbs).length≤k+1:=di (by
 have h1:=sQ (n:=n) fun i=>Nat.le_of_lt (AU (h i))
 rw [Nat.pow_succ,Nat.mul_comm]
 exact Nat.lt_of_le_of_lt h1 (Nat.mul_lt_mul_of_pos_right X (Nat.pow_pos U)))
theorem nB {n:Nat} {f:Nat→Int} (hn:n≤1048576) (h : ∀ i,(aN (f i).natAbs).length≤549755813888):bV (ez n f):=Nat.le_trans (xR hn h) U
def nC (n:Nat) (F G:Nat→Nat→Int):Nat→Nat→Int:=fun i j=>ez n (fun k=>F i k*G k j)
theorem vz {n:Nat} {f:Nat→Int} : ez (n+1) f=ez n f+f n:=rfl
attribute [local irreducible] J PJ aC one slT bJ bH bF exT ch eP aQ aK slV VT.le Ret bQ
attribute [local irreducible] aR
end Tor
end
section
namespace Tor
open Go Go.RowKit Go.Proofs
variable [Tor.Co.Kc]
def xS (ok:Bool) (e:Int) (r c:Nat) (F:Nat→Nat→Int):VT:=bF [co (if ok then r else 0) (if ok then c else 0) F,one (.int .i64 (if ok then 0 else e))]
theorem xT (F:Nat→Nat→Int):VT.le (bH 3 (dg #[Value.int IntKind.i64 0,Value.int IntKind.i64 0,Value.slice none 0 0] [(0,Lay.one),(1,Lay.one),(2,Lay.one)])) (co 0 0 F):=by
 unfold co
 refine gh (fun q hq => ?_)
 rcases List.mem_cons.1 hq with rfl | hq
 ·exact ⟨_,List.mem_cons_self,A⟩
 rcases List.mem_cons.1 hq with rfl | hq
 ·exact ⟨_,List.mem_cons_of_mem _ List.mem_cons_self,A⟩
 rcases List.mem_cons.1 hq with rfl | hq
 ·exact ⟨_,List.mem_cons_of_mem _ (List.mem_cons_of_mem _ List.mem_cons_self),gT⟩
 ·cases hq
theorem it:VT.le (bH 2 (dg #[Value.bool false,Value.slice none 0 0] [(0,Lay.one),(1,Lay.one)])) (aR 0):=by
 unfold aR
 refine gh (fun q hq => ?_)
 rcases List.mem_cons.1 hq with rfl | hq
 ·exact ⟨_,List.mem_cons_self,A⟩
 rcases List.mem_cons.1 hq with rfl | hq
 ·exact ⟨_,List.mem_cons_of_mem _ List.mem_cons_self,gT⟩
 ·cases hq
attribute [local irreducible] J PJ aC one slT bJ bH bF exT ch eP aQ aK slV VT.le Ret bQ
attribute [local irreducible] aR
theorem zF (n m:Nat) (f g:Nat→Int) (hn:n≤1048576) (hm:m≤1048576) (hf : ∀ i,me (f i)) (hg : ∀ i,me (g i)) :
  Ok Tryz.prog 122 [dZ n f,dZ m g] (bF [aR (if n=m then ez n (fun k=>f k*g k) else 0),one (.int .i64 (if n=m then 0 else 50))]):=by
 unfold dZ
 refine Ok.enter Tryz.func122 Z Tryz.ntmps122 Z (fun w O => ?_)
 refine ae (ai ?_)
 refine aJ (T:=28) Z (ltN Z) (fun b => ?_)
 refine Cn Z (Cq (aa (ae (ae (ai (Cm Z (Cl (bg Z) (Cm Z (Cl (bg Z) ?_)))))))))
 refine Cl (ej Z Z) (Cq (aa ?_))
 refine bh Z (fun hc => ?_) (fun hc => ?_) <;> simp only [decide_eq_true_eq,decide_eq_false_iff_not,ne_eq,Decidable.not_not] at hc
 ·have hne : ¬ n=m:=by omega
  refine ae (ai (stB Z Z Z (BuildK.nil (ay 0 Z Z Z Z Z (leN Z) Z (Cn Z (Cq (aa (aE (aI ?_)))))))))
  refine dk Tryz.results122 (.cellB 0 Z Z Z ?_) (.tmp Z (ar ?_))
  ·rw [if_neg hne]; exact it
  ·rw [if_neg hne]
 ·have he:n=m:=by omega
  subst he
  refine ax (aa (ae (ai ?_)))
  refine aJ (T:=28) Z (ltN Z) (fun b => ?_)
  refine Cq (aa (ae (ae (ai (Cm Z (Cm Z ?_))))))
  rename_i b4
  refine Cl (am (xQ n (fun j=>aR (f j)) (fun j=>aR (g j)) (fun j=>aR (f j*g j)) (one (.func (.func 87) #[] #[])) hn (fun i hi=>fK.fn (gq _ _ (iG (hf i)) (iG (hg i))))) Z ⟨A,A,A,Cr⟩) ?_
  refine Cl (bg Z) (Cm Z (Cq (aa (av ?_))))
  refine cN (σ:=Nat) (fun i => [(4,one (.pointer (some ⟨b4,0,none⟩))),(6,one (.pointer (some ⟨b,0,none⟩))),(17,slT (.agg 2) n (fun j=>aR (f j*g j))),(18,one (.int .i64 n)),(19,one (.int .i64 (i:Nat)))])
   (fun i => [aQ b 28 2 [(0, .agg 2,aR (ez i (fun k=>f k*g k)))],aQ b4 28 2 [(0, .agg 2,one (.agg #[.bool false, .slice none 0 0]))]])
   (fun i=>i≤n) (fun i=>n - i) 0 (Nat.zero_le _) Ci (.keep (tH fun q hq=>by rcases List.mem_cons.1 hq with rfl | hq;exact ⟨_,List.mem_cons_self,ro⟩;cases hq) (SubM.refl _)) (fun i hi => ?_)
  refine ae (ai (Cl (bE Z Z) (Cq (aa (ae ?_)))))
  refine bh Z (fun hc => ?_) (fun hc => ?_) <;> simp only [decide_eq_true_eq,decide_eq_false_iff_not,Int.ofNat_lt] at hc
  ·refine ax (aa (ae (av (ae (ai ?_)))))
   (refine Cl (aH Z Z ?_) ?_;omega)
   refine Cl (aY Z) ?_
   refine aJ (T:=28) Z (ltN Z) (fun b => ?_)
   refine ay 0 Z Z Z Z Z (leN Z) Z (Cq (aa (ai (Cl (ak 1 Z Z Z) (Cl (ak 0 Z Z Z) ?_)))))
   refine Cl (am (gp (ez i (fun k=>f k*g k)) (f i*g i) (nB X (fun k=>m7 (hf k) (hg k))) (oH (hf i) (hg i))) Z ⟨A,A,Cr⟩) ?_
   refine ay 1 Z Z Z Z Z (leN Z) Z (Cq (aL (aa (ai ?_))))
   (refine Cl (cz Z Z (aP ?_ ?_)) ?_;omega;omega)
   refine Cm Z (Cq ?_)
   exact cr (s:=i) (i+1) (show _ from by omega) (by show n - (i+1)<n - i;omega) Ci (.drop (.keep Ck (SubM.refl _)))
  ·have hin:i=n:=by omega
   subst hin
   refine a8 (aw (aw (aM (aa (ae (ai (Cl (ak 0 Z Z Z) (ay 1 Z Z Z Z Z (leN Z) Z (Cn Z ?_)))))))))
   refine Cq (aa (aE ?_))
   refine dk Tryz.results122 (.cellB 1 Z Z Z ?_) (.tmp Z (ar ?_))
   ·rw [if_pos Z]; exact VT.le_refl _
   ·rw [if_pos Z]
theorem Bf (n m:Nat) (f g:Nat→Int) (hn:n≤1048576) (hm:m≤1048576) (hf : ∀ i,fW (f i)) (hg : ∀ i,fW (g i)) :
  Ok Tryz.prog 122 [dZ n f,dZ m g] (bF [aR (if n=m then ez n (fun k=>f k*g k) else 0),one (.int .i64 (if n=m then 0 else 50))]) :=
 zF n m f g hn hm (fun i=>(hf i).L) (fun i=>(hg i).L)
end Tor
end
section
namespace Tor
open Go Go.RowKit Go.Proofs
variable [Tor.Co.Kc]
def fe (F:Nat→Nat→Int) (i j:Nat):Nat→Nat→Int:=fun q k=>if q<i∨(q=i∧k<j) then F q k else 0
theorem vA {T:TypeId} {c:Nat} {bs:List Nat} {F:Nat→Nat→Int} {i j:Nat} (x:Int) (hx:x=F i j) :
  Own.le (cX T (.agg 2) c bs (iW (fun q k=>aR (fe F i j q k)) i j (aR x))) (cX T (.agg 2) c bs (fun q k=>aR (fe F i (j+1) q k))):=by
 subst hx
 refine ie fun q k hq hk => ?_
 unfold iW fe
 by_cases h:q=i∧k=j
 ·obtain ⟨rfl,rfl⟩:=h;simp
 ·rw [if_neg h]
  have e:(q<i∨q=i∧k<j+1)↔(q<i∨q=i∧k<j):=by omega
  simp only [e]
theorem nD {c:Nat} {bs:List Nat} {F:Nat→Nat→Int} {i:Nat} : Own.le (d5 c bs (fe F i c)) (d5 c bs (fe F (i+1) 0)):=by
 refine d7 fun q k hq hk => ?_
 unfold fe
 have e:(q<i∨q=i∧k<c)↔(q<i+1∨q=i+1∧k<0):=by omega
 simp only [e]
attribute [local irreducible] J PJ aC one slT bJ bH bF exT ch eP aQ aK slV VT.le Ret bQ
attribute [local irreducible] aR cX
end Tor
end
section
namespace Tor
open Go Go.RowKit Go.Proofs
variable [Tor.Co.Kc]
def jW (F:Nat→Nat→Int) (i j:Nat) (x:Int):Nat→Nat→Int:=fun q k=>if q<i∨(q=i∧k<j) then F q k else if q=i∧k=j then x else 0
theorem sR (F:Nat→Nat→Int) (i j:Nat):jW F i j 0=fe F i j:=by
 funext q k;unfold jW fe;split
 ·rfl
 ·split <;> rfl
theorem sS (F:Nat→Nat→Int) (i j:Nat):jW F i j (F i j)=fe F i (j+1):=by
 funext q k;unfold jW fe
 by_cases h:q<i∨q=i∧k<j
 ·rw [if_pos h,if_pos X]
 ·rw [if_neg h]
  by_cases h2:q=i∧k=j
  ·obtain ⟨rfl,rfl⟩:=h2;rw [if_pos ⟨rfl,rfl⟩,if_pos X]
  ·rw [if_neg h2,if_neg X]
theorem xU (F:Nat→Nat→Int) (i j:Nat) (x:Int):jW F i j x i j=x:=by
 unfold jW;rw [if_neg X,if_pos ⟨rfl,rfl⟩]
theorem vB {T:TypeId} {c:Nat} {bs:List Nat} {F:Nat→Nat→Int} {i j:Nat} (x y:Int) :
  Own.le (cX T (.agg 2) c bs (iW (fun q k=>aR (jW F i j x q k)) i j (aR y))) (cX T (.agg 2) c bs (fun q k=>aR (jW F i j y q k))):=by
 refine ie fun q k hq hk => ?_
 unfold iW jW
 by_cases h:q=i∧k=j
 ·obtain ⟨rfl,rfl⟩:=h
  rw [if_pos ⟨rfl,rfl⟩,if_neg X,if_pos ⟨rfl,rfl⟩]
 ·simp only [if_neg h]
attribute [local irreducible] J PJ aC one slT bJ bH bF exT ch eP aQ aK slV VT.le Ret bQ
attribute [local irreducible] aR cX
theorem vC (ra ca:Nat) (F:Nat→Nat→Int) (rb cb:Nat) (G:Nat→Nat→Int) (hr0:ra≤1048576) (hc0:ca≤1048576) (hd0:cb≤1048576) (hF : ∀ i j,me (F i j)) (hG : ∀ i j,me (G i j)) :
  Ok Tryz.prog 61 [co ra ca F,co rb cb G] (xS (decide (ca=rb)) 50 ra cb (nC ca F G)):=by
 unfold xS co
 refine Ok.enter Tryz.func61 Z Tryz.ntmps61 Z (fun w O => ?_)
 refine ae (ai ?_)
 refine be Z Z (ltN Z) (fun b => ?_)
 refine be Z Z (ltN Z) (fun b => ?_)
 refine bS (T:=35) Z Z Z (fun b => ?_)
 refine Cn Z (Cq (aa (ae (ae (ai (Cl (aj Z) (Cl (ak 2 Z Z Z) (Cl (aj Z) (Cl (ak 1 Z Z Z) ?_)))))))))
 refine Cl (ej Z Z) (Cq (aa ?_))
 refine bh Z (fun hc => ?_) (fun hc => ?_) <;> simp only [decide_eq_true_eq,decide_eq_false_iff_not,ne_eq,Decidable.not_not] at hc
 ·have hne : ¬ ca=rb:=by omega
  refine ae (ai (stB Z Z Z (BuildK.nil (bO 0 Z Z Z Z (Cn Z (Cq (aa (aE (aI ?_)))))))))
  refine dk Tryz.results61 (.cellW 0 Z Z ?_) (.tmp Z (ar ?_))
  ·rw [decide_eq_false hne]; exact xT _
  ·rw [decide_eq_false hne]; rfl
 ·have e2:ca=rb:=by omega
  subst e2
  refine ax (aa (ae (ai (Cl (aj Z) (Cl (ak 2 Z Z Z) (Cl (aj Z) (Cl (ak 1 Z Z Z) ?_)))))))
  refine gi (jM ra cb hr0 hd0) Z ⟨A,A,Cr⟩ Z Z (fun s => ?_)
  obtain ⟨⟨bs,sv1,cap1⟩,hlen,hsv⟩:=s
  simp only at hlen hsv
  unfold kr
  refine bS (T:=35) Z Z Z (fun b => ?_)
  refine bO 0 Z Z Z Z (Cq (aa (ae (ae (ai (Cn Z (Cq (aa (av ?_)))))))))
  rename_i b2 b3 b4
  refine cN (σ:=Nat) (fun i => [(2,one (.pointer (some ⟨b2,0,none⟩))),(3,one (.pointer (some ⟨b3,0,none⟩))),(4,one (.pointer (some ⟨b4,0,none⟩))),(6,one (.pointer (some ⟨b,0,none⟩))),(7,one (.int .i64 (i:Nat)))])
   (fun i => [aQ b 35 3 [(0, .one,one (.int .i64 ra)),(1, .one,one (.int .i64 cb)),(2, .one,one (slV sv1 ra cap1))],fR sv1 cap1 ra cb bs,d5 cb bs (fe (nC ca F G) i 0),aQ b4 35 3 (dg #[Value.int IntKind.i64 0,Value.int IntKind.i64 0,Value.slice none 0 0] [(0,Lay.one),(1,Lay.one),(2,Lay.one)]),aQ b3 35 3 [(0, .one,one (.int .i64 ca)),(1, .one,one (.int .i64 cb)),(2, .one,slT .one ca (fun i=>dZ cb (G i)))],aQ b2 35 3 [(0, .one,one (.int .i64 ra)),(1, .one,one (.int .i64 ca)),(2, .one,slT .one ra (fun i=>dZ ca (F i)))]])
   (fun i=>i≤ra) (fun i=>ra - i) 0 (Nat.zero_le _) Ci (.keep Ck (.keep Ck (.keep (d7 fun i j hi hj=>by simp [fe]) (SubM.refl _)))) (fun i hi => ?_)
  refine ae (ae (ai (Cm Z (Cl (aj Z) (Cl (ak 5 Z Z Z) (Cl (bE Z Z) (Cq (aa ?_))))))))
  refine bh Z (fun hc => ?_) (fun hc => ?_) <;> simp only [decide_eq_true_eq,decide_eq_false_iff_not,Int.ofNat_lt] at hc
  ·obtain ⟨bo,rfl⟩:=fG hsv X
   refine ax (aa (ae (av (ae (ai (Cn Z (Cq (aa (av ?_)))))))))
   refine cN (σ:=Nat) (fun j => [(2,one (.pointer (some ⟨b2,0,none⟩))),(3,one (.pointer (some ⟨b3,0,none⟩))),(4,one (.pointer (some ⟨b4,0,none⟩))),(6,one (.pointer (some ⟨b,0,none⟩))),(7,one (.int .i64 (i:Nat))),(8,one (.int .i64 (j:Nat)))])
    (fun j => [aQ b 35 3 [(0, .one,one (.int .i64 ra)),(1, .one,one (.int .i64 cb)),(2, .one,one (slV (some bo) ra cap1))],fR (some bo) cap1 ra cb bs,d5 cb bs (fe (nC ca F G) i j),aQ b4 35 3 (dg #[Value.int IntKind.i64 0,Value.int IntKind.i64 0,Value.slice none 0 0] [(0,Lay.one),(1,Lay.one),(2,Lay.one)]),aQ b3 35 3 [(0, .one,one (.int .i64 ca)),(1, .one,one (.int .i64 cb)),(2, .one,slT .one ca (fun i=>dZ cb (G i)))],aQ b2 35 3 [(0, .one,one (.int .i64 ra)),(1, .one,one (.int .i64 ca)),(2, .one,slT .one ra (fun i=>dZ ca (F i)))]])
    (fun j=>j≤cb) (fun j=>cb - j) 0 (Nat.zero_le _) Ci (SubM.refl _) (fun j hj => ?_)
   refine ae (ae (ai (Cm Z (Cl (aj Z) (Cl (ak 4 Z Z Z) (Cl (bE Z Z) (Cq (aa ?_))))))))
   refine bh Z (fun hc2 => ?_) (fun hc2 => ?_) <;> simp only [decide_eq_true_eq,decide_eq_false_iff_not,Int.ofNat_lt] at hc2
   ·refine ax (aa (ae (av (ae (ai (Cn Z (Cq (aa (av ?_)))))))))
    refine cN (σ:=Nat) (fun k => [(2,one (.pointer (some ⟨b2,0,none⟩))),(3,one (.pointer (some ⟨b3,0,none⟩))),(4,one (.pointer (some ⟨b4,0,none⟩))),(6,one (.pointer (some ⟨b,0,none⟩))),(7,one (.int .i64 (i:Nat))),(8,one (.int .i64 (j:Nat))),(9,one (.int .i64 (k:Nat)))])
     (fun k => [aQ b 35 3 [(0, .one,one (.int .i64 ra)),(1, .one,one (.int .i64 cb)),(2, .one,one (slV (some bo) ra cap1))],fR (some bo) cap1 ra cb bs,d5 cb bs (jW (nC ca F G) i j (ez k (fun k=>F i k*G k j))),aQ b4 35 3 (dg #[Value.int IntKind.i64 0,Value.int IntKind.i64 0,Value.slice none 0 0] [(0,Lay.one),(1,Lay.one),(2,Lay.one)]),aQ b3 35 3 [(0, .one,one (.int .i64 ca)),(1, .one,one (.int .i64 cb)),(2, .one,slT .one ca (fun i=>dZ cb (G i)))],aQ b2 35 3 [(0, .one,one (.int .i64 ra)),(1, .one,one (.int .i64 ca)),(2, .one,slT .one ra (fun i=>dZ ca (F i)))]])
     (fun k=>k≤ca) (fun k=>ca - k) 0 (Nat.zero_le _) Ci (.keep Ck (.keep Ck (.keep (by rw [show ez 0 (fun k=>F i k*G k j)=0 from rfl,sR]; exact Own.le_refl _) (SubM.refl _)))) (fun k hk => ?_)
    refine ae (ae (ai (Cm Z (Cl (aj Z) (Cl (ak 5 Z Z Z) (Cl (bE Z Z) (Cq (aa ?_))))))))
    refine bh Z (fun hc3 => ?_) (fun hc3 => ?_) <;> simp only [decide_eq_true_eq,decide_eq_false_iff_not,Int.ofNat_lt] at hc3
    ·refine ax (aa (ae (av (bm 33 bD Y U ?_))))
     unfold dZ
     refine Cl (aj Z) (Cl (ak 0 Z Z Z) (Cm Z ?_))
     (refine Cl (au Z Z ?_) ?_;omega)
     (refine Cl (bR 1 Z Z ?_) ?_;omega)
     refine Cm Z (Cl (aj Z) (Cl (ak 0 Z Z Z) (Cm Z ?_)))
     (refine Cl (au Z Z ?_) ?_;omega)
     (refine Cl (bR 1 Z Z ?_) ?_;omega)
     refine Cm Z ?_
     (refine Cl (au Z Z ?_) ?_;omega)
     (refine Cl (yT 2 Z Z (n6 ?_) ?_) ?_;omega;omega)
     refine Cl (aj Z) (Cl (ak 5 Z Z Z) (Cm Z ?_))
     (refine Cl (aH Z Z ?_) ?_;omega)
     refine Cl (aY Z) (Cm Z ?_)
     (refine Cl (aH Z Z ?_) ?_;omega)
     refine Cl (aY Z) (Cl (aj Z) (Cl (ak 4 Z Z Z) (Cm Z ?_)))
     (refine Cl (aH Z Z ?_) ?_;omega)
     refine Cl (aY Z) (Cm Z ?_)
     (refine Cl (aH Z Z ?_) ?_;omega)
     refine Cl (aY Z) ?_
     refine Cl (am (fN (F i k) (G k j) (iG (hF i k)) (iG (hG k j))) Z ⟨A,A,Cr⟩) ?_
     rw [xU]
     refine Cl (am (fM (ez k (fun k=>F i k*G k j)) (F i k*G k j) (nB X (fun k=>m7 (hF i k) (hG k j))) (oH (hF i k) (hG k j))) Z ⟨A,A,Cr⟩) ?_
     (refine Cl (au Z Z ?_) ?_;omega)
     refine Cq ?_
     (refine fJ 2 Z Z Z (n6 ?_) ?_ Z ?_;omega;omega)
     refine Cq (aL (aa (ai (Cm Z ?_))))
     (refine Cl (cz Z Z (aP ?_ ?_)) ?_;omega;omega)
     refine Cn Z (Cq ?_)
     exact cr (s:=k) (k+1) (show _ from by omega) (by show ca - (k+1)<ca - k;omega) Ci (.keep Ck (.keep Ck (.keep (vB _ _) (SubM.refl _))))
    ·have hkm:k=ca:=by omega
     subst hkm
     refine a8 (aw (aw (aM (aL (aa (ai (Cm Z ?_)))))))
     (refine Cl (cz Z Z (aP ?_ ?_)) ?_;omega;omega)
     refine Cn Z (Cq ?_)
     exact cr (s:=j) (j+1) (show _ from by omega) (by show cb - (j+1)<cb - j;omega) Ci (.keep Ck (.keep Ck (.keep (by rw [← sS]; exact Own.le_refl _) (SubM.refl _))))
   ·have hjm:j=cb:=by omega
    subst hjm
    refine a8 (aw (aw (aM (aL (aa (ai (Cm Z ?_)))))))
    (refine Cl (cz Z Z (aP ?_ ?_)) ?_;omega;omega)
    refine Cn Z (Cq ?_)
    exact cr (s:=i) (i+1) (show _ from by omega) (by show ra - (i+1)<ra - i;omega) Ci (.keep Ck (.keep Ck (.keep nD (SubM.refl _))))
  ·have hin:i=ra:=by omega
   subst hin
   refine a8 (aw (aw (aM (aa (ae (ai (Cl (bj 0 Z Z) (bO 3 Z Z Z Z (Cn Z ?_)))))))))
   refine Cq (aa (aE ?_))
   have hperm : ∀ (x y z u t s:Own), [x,y,z,u,t,s].Perm ([y,z] ++ [x,u,t,s]):=fun x y z u t s=>(List.Perm.swap y x _).trans (List.Perm.cons y (List.Perm.swap z x _))
   refine gk [fR sv1 cap1 i cb bs,d5 cb bs (fe (nC ca F G) i 0)] (hperm _ _ _ _ _ _) (.keep (uQ.refl _) (.keep (uQ.box (fB hlen ⟨by simp,by simp,by simp⟩)) (.keep (uQ.refl _) (.keep (uQ.refl _) .nil)))) (uR.refl _) ?_
   refine dk Tryz.results61 (.cellW 1 Z Z ?_) (.tmp Z (ar ?_))
   ·simp only [decide_true,if_true]; exact pU fun a b ha hb=>by simp [fe,ha]
   ·simp
end Tor
end
section
namespace Tor
open Go Go.RowKit Go.Proofs
variable [Tor.Co.Kc]
def li (F:Nat→Nat→Int) (i j:Nat):Nat→Nat→Int:=fun q k=>if k<i∨(k=i∧q<j) then F k q else 0
theorem vD {T:TypeId} {c:Nat} {bs:List Nat} {F:Nat→Nat→Int} {i j:Nat} :
  Own.le (cX T (.agg 2) c bs (iW (fun q k=>aR (li F i j q k)) j i (aR (F i j)))) (cX T (.agg 2) c bs (fun q k=>aR (li F i (j+1) q k))):=by
 refine ie fun q k hq hk => ?_
 unfold iW li
 by_cases h:q=j∧k=i
 ·obtain ⟨rfl,rfl⟩:=h;simp
 ·rw [if_neg h]
  have e:(k<i∨k=i∧q<j+1)↔(k<i∨k=i∧q<j):=by omega
  simp only [e]
attribute [local irreducible] J PJ aC one slT bJ bH bF exT ch eP aQ aK slV VT.le Ret bQ
attribute [local irreducible] aR cX
theorem n9 (r c:Nat) (F:Nat→Nat→Int) (hr0:r≤1048576) (hc0:c≤1048576):Ok Tryz.prog 30 [co r c F] (co c r (fun i j=>F j i)):=by
 unfold co
 refine Ok.enter Tryz.func30 Z Tryz.ntmps30 Z (fun w O => ?_)
 refine ae (ai ?_)
 refine be Z Z (ltN Z) (fun b => ?_)
 refine bS (T:=35) Z Z Z (fun b => ?_)
 refine Cq (aa (ae (ai (Cl (aj Z) (Cl (ak 1 Z Z Z) (Cl (aj Z) (Cl (ak 1 Z Z Z) ?_)))))))
 refine gi (jM c r hc0 hr0) Z ⟨A,A,Cr⟩ Z Z (fun s => ?_)
 obtain ⟨⟨bs,sv1,cap1⟩,hlen,hsv⟩:=s
 simp only at hlen hsv
 unfold kr
 refine bS (T:=35) Z Z Z (fun b => ?_)
 refine bO 0 Z Z Z Z (Cq (aa (ae (ae (ai (Cn Z (Cq (aa (av ?_)))))))))
 rename_i b1 b2
 refine cN (σ:=Nat) (fun i => [(1,one (.pointer (some ⟨b1,0,none⟩))),(2,one (.pointer (some ⟨b2,0,none⟩))),(3,one (.pointer (some ⟨b,0,none⟩))),(4,one (.int .i64 (i:Nat)))])
  (fun i => [aQ b 35 3 [(0, .one,one (.int .i64 c)),(1, .one,one (.int .i64 r)),(2, .one,one (slV sv1 c cap1))],fR sv1 cap1 c r bs,d5 r bs (li F i 0),aQ b2 35 3 (dg #[Value.int IntKind.i64 0,Value.int IntKind.i64 0,Value.slice none 0 0] [(0,Lay.one),(1,Lay.one),(2,Lay.one)]),aQ b1 35 3 [(0, .one,one (.int .i64 r)),(1, .one,one (.int .i64 c)),(2, .one,slT .one r (fun i=>dZ c (F i)))]])
  (fun i=>i≤r) (fun i=>r - i) 0 (Nat.zero_le _) Ci (.keep Ck (.keep Ck (.keep (d7 fun i j hi hj=>by simp [li]) (SubM.refl _)))) (fun i hi => ?_)
 refine ae (ae (ai (Cm Z (Cl (aj Z) (Cl (ak 4 Z Z Z) (Cl (bE Z Z) (Cq (aa ?_))))))))
 refine bh Z (fun hc => ?_) (fun hc => ?_) <;> simp only [decide_eq_true_eq,decide_eq_false_iff_not,Int.ofNat_lt] at hc
 ·refine ax (aa (ae (av (ae (ai (Cn Z (Cq (aa (av ?_)))))))))
  refine cN (σ:=Nat) (fun j => [(1,one (.pointer (some ⟨b1,0,none⟩))),(2,one (.pointer (some ⟨b2,0,none⟩))),(3,one (.pointer (some ⟨b,0,none⟩))),(4,one (.int .i64 (i:Nat))),(5,one (.int .i64 (j:Nat)))])
   (fun j => [aQ b 35 3 [(0, .one,one (.int .i64 c)),(1, .one,one (.int .i64 r)),(2, .one,one (slV sv1 c cap1))],fR sv1 cap1 c r bs,d5 r bs (li F i j),aQ b2 35 3 (dg #[Value.int IntKind.i64 0,Value.int IntKind.i64 0,Value.slice none 0 0] [(0,Lay.one),(1,Lay.one),(2,Lay.one)]),aQ b1 35 3 [(0, .one,one (.int .i64 r)),(1, .one,one (.int .i64 c)),(2, .one,slT .one r (fun i=>dZ c (F i)))]])
   (fun j=>j≤c) (fun j=>c - j) 0 (Nat.zero_le _) Ci (SubM.refl _) (fun j hj => ?_)
  refine ae (ae (ai (Cm Z (Cl (aj Z) (Cl (ak 4 Z Z Z) (Cl (bE Z Z) (Cq (aa ?_))))))))
  refine bh Z (fun hc2 => ?_) (fun hc2 => ?_) <;> simp only [decide_eq_true_eq,decide_eq_false_iff_not,Int.ofNat_lt] at hc2
  ·obtain ⟨bo,rfl⟩:=fG hsv X
   refine ax (aa (ae (av (bm 15 bD Y U ?_))))
   unfold dZ
   refine Cl (aj Z) (Cl (ak 0 Z Z Z) (Cm Z ?_))
   (refine Cl (au Z Z ?_) ?_;omega)
   (refine Cl (bR 1 Z Z ?_) ?_;omega)
   refine Cm Z (Cl (aj Z) (Cl (ak 4 Z Z Z) (Cm Z ?_)))
   (refine Cl (aH Z Z ?_) ?_;omega)
   refine Cl (aY Z) (Cm Z ?_)
   (refine Cl (aH Z Z ?_) ?_;omega)
   refine Cl (aY Z) ?_
   (refine Cl (au Z Z ?_) ?_;omega)
   refine Cq ?_
   (refine fJ 2 Z Z Z (n6 ?_) ?_ Z ?_;omega;omega)
   refine Cq (aL (aa (ai (Cm Z ?_))))
   (refine Cl (cz Z Z (aP ?_ ?_)) ?_;omega;omega)
   refine Cn Z (Cq ?_)
   exact cr (s:=j) (j+1) (show _ from by omega) (by show c - (j+1)<c - j;omega) Ci (.keep Ck (.keep Ck (.keep vD (SubM.refl _))))
  ·have hjm:j=c:=by omega
   subst hjm
   refine a8 (aw (aw (aM (aL (aa (ai (Cm Z ?_)))))))
   (refine Cl (cz Z Z (aP ?_ ?_)) ?_;omega;omega)
   refine Cn Z (Cq ?_)
   refine cr (s:=i) (i+1) (show _ from by omega) (by show r - (i+1)<r - i;omega) Ci (.keep Ck (.keep Ck (.keep (d7 fun q k hq hk => ?_) (SubM.refl _))))
   unfold li
   have hq':q<j:=by omega
   have e:(k<i∨k=i∧q<j)↔(k<i+1∨k=i+1∧q<0):=by omega
   simp only [e]
 ·have hin:i=r:=by omega
  subst hin
  refine a8 (aw (aw (aM (aa (ae (ai (Cl (bj 0 Z Z) (bO 3 Z Z Z Z (Cq ?_)))))))))
  refine aa (aE ?_)
  have hperm : ∀ (x y z u t:Own), [x,y,z,u,t].Perm ([y,z] ++ [x,u,t]):=fun x y z u t=>(List.Perm.swap y x _).trans (List.Perm.cons y (List.Perm.swap z x _))
  refine gk [fR sv1 cap1 c i bs,d5 i bs (li F i 0)] (hperm _ _ _ _ _) (.keep (uQ.refl _) (.keep (uQ.box (fB hlen ⟨by simp,by simp,by simp⟩)) (.keep (uQ.refl _) .nil))) (uR.refl _) ?_
  refine aV Tryz.results30 (.cellW 1 Z Z ?_)
  exact pU fun a b ha hb=>by simp [li,hb]
end Tor
end
section
namespace Tor
open Go Go.RowKit Go.Proofs
variable [Tor.Co.Kc]
attribute [local irreducible] J PJ aC one slT bJ bH bF exT ch eP aQ aK slV VT.le Ret bQ
attribute [local irreducible] aR
theorem pV (ra ca:Nat) (F:Nat→Nat→Int) (cb:Nat) (G:Nat→Nat→Int) (hr0:ra≤1048576) (hc0:ca≤1048576) (hd0:cb≤1048576) (hF : ∀ i j,me (F i j)) (hG : ∀ i j,me (G i j)) :
  Ok Tryz.prog 29 [co ra ca F,co ca cb G] (co ra cb (nC ca F G)):=by
 unfold co
 refine Ok.enter Tryz.func29 Z Tryz.ntmps29 Z (fun w O => ?_)
 refine ae (ai ?_)
 refine be Z Z (ltN Z) (fun b => ?_)
 refine be Z Z (ltN Z) (fun b => ?_)
 refine bS (T:=35) Z Z Z (fun b => ?_)
 refine Cq (aa (ae (ai (Cl (bj 2 Z Z) (Cl (bj 1 Z Z) ?_)))))
 have h:=(vC ra ca F ca cb G hr0 hc0 hd0 hF hG)
 rw [decide_eq_true (show ca=ca from rfl)] at h
 refine Cl (am h Z ⟨A,A,Cr⟩) ?_
 unfold xS
 simp only [if_true]
 refine Cm Z (Cl (aA Z Z) (Cl (aA Z Z) ?_))
 refine bS (T:=35) Z Z Z (fun b => ?_)
 refine bO 0 Z Z Z Z (Cn Z (Cq (aa (ae (ai (Cl (bj 0 Z Z) (bO 1 Z Z Z Z (Cq (aa ?_)))))))))
 refine aE ?_
 exact aV Tryz.results29 (.cellW 1 Z Z A)
theorem rx (ra ca:Nat) (F:Nat→Nat→Int) (cb:Nat) (G:Nat→Nat→Int) (hr0:ra≤1048576) (hc0:ca≤1048576) (hd0:cb≤1048576) (hF : ∀ i j,fW (F i j)) (hG : ∀ i j,fW (G i j)) :
  Ok Tryz.prog 29 [co ra ca F,co ca cb G] (co ra cb (nC ca F G)) :=
 pV ra ca F cb G hr0 hc0 hd0 (fun i j=>(hF i j).L) (fun i j=>(hG i j).L)
end Tor
end
section
namespace Tor
open Go Go.RowKit Go.Proofs
variable [Tor.Co.Kc]
attribute [local irreducible] J PJ aC one slT bJ bH bF exT ch eP aQ aK slV VT.le Ret bQ
attribute [local irreducible] aR
theorem sU (l:List Int) (n:Nat) (hn:n≤16):Ok Tryz.prog 32 [ku .i8 l,one (.int .i64 n)] (dZ n (dig l)):=by
 refine Ok.enter Tryz.func32 Z Tryz.ntmps32 Z (fun w O => ?_)
 refine ae (ai (Cn Z (Cq (aa (ae (ai (Cm Z (Cm Z ?_))))))))
 refine Cl (am (nz 1 n l U hn) Z ⟨ar Z,A,A,Cr⟩) ?_
 unfold co
 refine Cl (o8 Z Z) ?_
 (refine Cl (gB Z Z ?_ ?_) ?_;omega;omega)
 refine Cl (aY Z) (Cn Z (Cq (aa (aE ?_))))
 refine aV Tryz.results32 (.tmp Z ?_)
 unfold dZ
 refine cV Z fun j hj => ?_
 simp
end Tor
end
section
namespace Tor
open Go Go.RowKit Go.Proofs
variable [Tor.Co.Kc]
def fX (r c:Nat) (l:List Int):VT:=bH 3 [(0, .one,one (.int .u8 r)),(1, .one,one (.int .u8 c)),(2, .one,ku .i8 l)]
theorem BP (n:Nat):(n:Int).tmod 5=((n % 5:Nat):Int):=by
 rw [Int.tmod_eq_emod_of_nonneg X]; omega
attribute [local irreducible] J PJ aC one slT bJ bH bF exT ch eP aQ aK slV VT.le Ret bQ
attribute [local irreducible] aR cX
end Tor
end
section
namespace Tor
open Go Go.RowKit Go.Proofs
variable [Tor.Co.Kc]
theorem vE {sv:Option Nat} {T:TypeId} {cap i:Nat} {h:Nat→Int} {x:Int} (hx:x=h i):Own.le (aK sv T (.agg 2) cap (i+1) (fun q=>if q<i then aR (h q) else aR x)) (aK sv T (.agg 2) cap (i+1) (fun q=>aR (h q))):=cf fun q hq=>by
 by_cases c:q<i
 ·rw [if_pos c]
 ·rw [if_neg c,hx,show q=i by omega]
attribute [local irreducible] J PJ aC one slT bJ bH bF exT ch eP aQ aK slV VT.le Ret bQ
attribute [local irreducible] aR cX
end Tor
end
section
namespace Tor
def jo (j:Nat) (g:Nat→Int):Nat→Int:=fun q=>if q=j then g (j+1) else if q=j+1 then g j else g q
def vF:Nat→(Nat→Int)→Nat→Int
 | 0, g => g
 | j + 1, g => if g j < g (j + 1) then vF j (jo j g) else g
def eA:Nat→(Nat→Int)→Nat→Int
 | 0, g => g
 | i + 1, g => vF i (eA i g)
def lst (n:Nat) (g:Nat→Int):List Int:=(List.range n).map g
theorem gO (n:Nat) (g:Nat→Int):lst (n+1) g=lst n g ++ [g n]:=by unfold lst;rw [List.range_succ,List.map_append]; rfl
theorem vG {n:Nat} {g h:Nat→Int} (e : ∀ i,i<n→g i=h i):lst n g=lst n h:=List.map_congr_left fun i hi=>e i (List.mem_range.1 hi)
theorem oQ {j:Nat} (g:Nat→Int) : ∀ {n:Nat},j+1<n→(lst n (jo j g)).Perm (lst n g)
 | 0, h => absurd h (Nat.not_lt_zero _)
 | n + 1, h => by
  by_cases e:n=j+1
  ·subst e
   rw [gO,gO,gO,gO,vG (g:=jo j g) (h:=g) (fun i hi=>by unfold jo;rw [if_neg X,if_neg X])]
   have e1:jo j g j=g (j+1):=by unfold jo;rw [if_pos Z]
   have e2:jo j g (j+1)=g j:=by unfold jo;rw [if_neg X,if_pos Z]
   rw [e1,e2,List.append_assoc,List.append_assoc]
   exact List.Perm.append_left _ (List.Perm.swap _ _ _)
  ·rw [gO,gO]
   have e1:jo j g n=g n:=by unfold jo;rw [if_neg X,if_neg X]
   rw [e1]
   exact (oQ g X).append_right _
theorem oR {n:Nat} : ∀ {j:Nat} {g:Nat→Int},j<n→(lst n (vF j g)).Perm (lst n g)
 | 0, g, _ => List.Perm.refl _
 | j + 1, g, h => by
  show (lst n (if g j<g (j+1) then vF j (jo j g) else g)).Perm _
  split
  ·exact (oR X).trans (oQ g h)
  ·exact List.Perm.refl _
theorem iM {n:Nat} (g:Nat→Int) : ∀ {i:Nat},i≤n→(lst n (eA i g)).Perm (lst n g)
 | 0, _ => List.Perm.refl _
 | i + 1, h => (oR X).trans (iM g X)
def prZ:Nat→(Nat→Int)→Int
 | 0, _ => 1
 | n + 1, g => prZ n g * g n
def prL (l:List Int):Int:=l.foldr (fun x y=>x*y) 1
theorem zG (l:List Int) (x:Int):prL (l ++ [x])=prL l*x:=by
 induction l with
 | nil => show x * 1 = 1 * x; rw [Int.mul_one, Int.one_mul]
 | cons y l ih => show y * prL (l ++ [x]) = y * prL l * x; rw [ih, Int.mul_assoc]
theorem ut (n:Nat) (g:Nat→Int):prZ n g=prL (lst n g):=by
 induction n with
 | zero => rfl
 | succ n ih => rw [gO, zG, ← ih]; rfl
theorem xV {l m:List Int} (h:l.Perm m):prL l=prL m:=by
 induction h with
 | nil => rfl
 | cons x h ih => show x * prL _ = x * prL _; rw [ih]
 | swap x y l => show y * (x * prL l) = x * (y * prL l); rw [← Int.mul_assoc, ← Int.mul_assoc, Int.mul_comm y x]
 | trans h1 h2 ih1 ih2 => exact ih1.trans ih2
theorem xW (n:Nat) (g:Nat→Int):prZ n (eA n g)=prZ n g:=by
 rw [ut,ut]; exact xV (iM g (Nat.le_refl n))
end Tor
end
section
namespace Tor
open Go Go.RowKit Go.Proofs
variable [Tor.Co.Kc]
theorem zH {x k:Nat} (hk:k<64) (h1:2^k≤x) (h2:x<2^(k+1)):fc x=k+1:=by
 have h3:=gV (n:=k+1) (x:=x) h2 X
 have h4:=mr (x:=x) (by
  have:2^(k+1)≤2^64:=Nat.pow_le_pow_right (n:=2) (i:=k+1) (j:=64) U X
  omega)
 rcases Nat.lt_or_ge (fc x) (k+1) with h | h
 ·have:=Nat.pow_le_pow_right (n:=2) (i:=fc x) (j:=k) U X
  omega
 ·omega
theorem vH {b:Nat} {T:TypeId} : Own.le (aQ b T 2 [(0, .agg 2,bH 2 (dg #[Value.bool false,Value.slice none 0 0] [(0, .one),(1, .one)]))]) (aQ b T 2 [(0, .agg 2,aR 0)]):=tH (fun q hq=>by
 rw [List.mem_singleton.1 hq]
 exact ⟨_,List.mem_cons_self,jF⟩)
theorem oS (n:Nat) (hn:n≤1000000):VT.le (slT .one (n / 32+1) (upd (fun _=>one (.int .u32 0)) (n / 32) (one (.int .u32 ((2^(n % 32):Nat):Int))))) (ss (2^n)) :=
 VT.le_trans (cV (m:=((List.replicate (n / 32+1) 0).set (n / 32) (2^(n % 32))).length) (ψ:=fO ((List.replicate (n / 32+1) 0).set (n / 32) (2^(n % 32)))) (by simp) (fun q hq=>by
  unfold upd fO
  by_cases h:q=n / 32
  ·subst h;rw [if_pos Z]; simp [List.getD]
  ·rw [if_neg h]
   simp only [List.getD,List.getElem?_set,if_neg (Ne.symm h),List.getElem?_replicate,if_pos hq]; rfl)) (jE (jH n).1 (jH n).2 (by simp;omega))
attribute [local irreducible] J PJ aC one slT bJ bH bF exT ch eP aQ aK slV VT.le Ret bQ
theorem vI (x:Int) (a:Nat) (hx:x.natAbs=a) (h0:a≠0) (ha:(aN a).length≤1099511627776):Ok Tryz.prog 119 [aR x] (one (.int .i64 (ip a:Nat))):=by
 have hl0:(aN a).length≠0:=fun k=>h0 (fQ k)
 have htop:=rg h0
 have hlt:=a6 (a7 a) ((aN a).length - 1)
 unfold ip
 rw [if_neg h0]
 unfold aR
 rw [hx]
 refine Ok.enter Tryz.func119 Z Tryz.ntmps119 Z (fun w O => ?_)
 refine ae (ai ?_)
 refine be Z Z (ltN Z) (fun b1 => ?_)
 refine Cn Z (Cq (aa (ae (ai (Cl (aj Z) (Cl (ak 0 Z Z Z) (Cl (bg Z) (Cl (mX 32 _ Z Z X) (Cn Z ?_)))))))))
 refine Cq (aa (ae (ae (ai (Cl (aj Z) (Cl (ak 0 Z Z Z) (Cl (bg Z) (Cl (cj _ 1 Z Z X X) (Cn Z ?_)))))))))
 refine Cq (aa (av (cB (Γ' := [(1,_),(2,_),(3,_),(4,_)]) Cg (SubM.refl _) ?_)))
 refine bP (σ:=Unit) (Γk := [(1,_)]) Cg (fun u => [(4,one (.int .i64 (((aN a).length - 1:Nat):Int))),(3,one (.int .i64 ((32*(aN a).length:Nat):Int)))]) (fun u M0=>M0) (fun u=>True) (fun u=>0) (()) (trivial) Ch (.keep Ck (.nil)) (fun u hu => ?_)
 refine ci (Γ' := [(4,_),(3,_),(1,_)]) (M' := [_]) Z Z (ae (ae (ai (Cm Z (Cl (sT X (ei Z Z)) (Cq (aa (aO Z (ax ?_)))))))))
 refine aa (ae (av (ae (ai (Cn Z (Cq (aa (av (cB (Γ' := [(1,_),(3,_),(4,_),(5,_)]) Cg (SubM.refl _) ?_)))))))))
 refine bP (σ:=Nat) (Γk := [(1,_),(4,_)]) Cg (fun c => [(5,one (.int .i64 ((c:Nat) - 1:Int))),(3,one (.int .i64 ((32*(aN a).length - (32 - c):Nat):Int)))]) (fun c M0=>M0) (fun c=>c≤32∧(aN a).getD ((aN a).length - 1) 0<2^c) (fun c=>c) (32) (⟨Nat.le_refl _,hlt⟩) Ch (.keep Ck (.nil)) (fun c hc => ?_)
 refine ci (Γ' := [(5,_),(3,_),(1,_),(4,_)]) (M' := [_]) Z Z ?_
 obtain ⟨c1,c2⟩:=hc
 cases c with
 | zero => omega
 | succ c =>
  have hd:(aN a).getD ((aN a).length - 1) 0 / 2^c<2:=Nat.div_lt_of_lt_mul (by rw [← Nat.pow_succ]; exact c2)
  have en:((c+1:Nat):Int) - 1=(c:Nat):=by omega
  rw [en]
  by_cases hb:2^c≤(aN a).getD ((aN a).length - 1) 0
  ·have hq:(aN a).getD ((aN a).length - 1) 0 / 2^c=1:=by
    have:=Nat.div_pos hb (Nat.two_pow_pos c)
    omega
   rw [zH X hb c2]
   refine ae (ae (ai (Cm Z (Cl (sT X (ei Z Z)) (Cq (aa (aO Z (ax (aa ?_)))))))))
   refine ae (av (ae (ae (ai (Cl (aj Z) (Cl (ak 0 Z Z Z) (Cm Z (Cl (aH Z Z X) (Cl (aY Z) ?_)))))))))
   refine Cm Z (Cl (iE Z Z (by assumption)) (nq (t:=28) (ψ:=one (.int .u32 1)) Z (ar (by rw [hq]; rfl)) (Cl (tC (a:=1) (b:=1) (r:=1) Z Z U) (Cl (sT X (cL Z Z)) (Cq (aa (aO Z (ae (ai ?_)))))))))
   refine Cm Z (Cl (mX 32 _ Z Z X) (Cm Z (Cl (bW _ _ Z Z X) (Cl (bW _ 1 Z Z X) (Cn Z (Cq (aa (aE (aI ?_)))))))))
   refine bv (aI (aI (bv (bv (aI (aI (bv (aI ?_))))))))
   refine aV Tryz.results119 (.tmp Z A)
  ·have hq:(aN a).getD ((aN a).length - 1) 0 / 2^c=0:=Nat.div_eq_of_lt X
   refine ae (ae (ai (Cm Z (Cl (sT X (ei Z Z)) (Cq (aa (aO Z (ax (aa ?_)))))))))
   refine ae (av (ae (ae (ai (Cl (aj Z) (Cl (ak 0 Z Z Z) (Cm Z (Cl (aH Z Z X) (Cl (aY Z) ?_)))))))))
   refine Cm Z (Cl (iE Z Z (by assumption)) (nq (t:=28) (ψ:=one (.int .u32 0)) Z (ar (by rw [hq]; rfl)) (Cl (tC (a:=0) (b:=1) (r:=0) Z Z U) (Cl (sF X (cL Z Z)) (Cq (aa (aD Z (ax (aa ?_)))))))))
   refine ai (Cm Z (Cl (cj _ 1 Z Z X X) (Cn Z (Cq (aL (aa (ai (Cm Z (Cl (dJ Z Z (aP X X)) ?_)))))))))
   refine Cn Z (Cq ?_)
   refine aZ (c) (⟨by omega,by omega⟩) X Ch (.keep Ck (.nil))
theorem xX (a:Nat) (h0:a≠0) (ha:(aN a).length≤1099511627776):Ok Tryz.prog 119 [aR (a:Int)] (one (.int .i64 (ip a:Nat))):=vI (a:Int) a (Int.natAbs_natCast a) h0 ha
theorem xY (a s:Nat) (ha:a<2^800) (h1:s*s≤a) (h2:a<(s+1)*(s+1)) (hb : ∃ bn,Ok Tryz.prog 119 [aR (a:Int)] (one (.int .i64 (bn:Nat)))∧a<2^bn∧bn≤832):Ok Tryz.prog 79 [aR (a:Int)] (bF [aR (s:Int),one (.int .i64 0)]):=by
 obtain ⟨bn,hbi,hbl,hb8⟩:=hb
 have hsi:=lK (a:Int)
 have hsg : ¬ gm (a:Int)<0:=by unfold gm;split <;> (try split) <;> omega
 obtain ⟨e3,he3⟩ : ∃ e,e=419:=⟨_,rfl⟩
 have hs3:s<2^e3:=by
  rcases Nat.lt_or_ge s (2^e3) with h | h
  ·exact h
  ·have h5:=Nat.mul_le_mul h h
   rw [← Nat.pow_add] at h5
   have h6:=eE 800 (e3+e3) X
   omega
 have sma:bV (a:Int):=cY (Nat.lt_of_lt_of_le ha (eE 800 2048 U))
 have hst:a<(0+2^((bn+1) / 2+1))*(0+2^((bn+1) / 2+1)):=by
  rw [Nat.zero_add, ← Nat.pow_add]
  exact Nat.lt_of_lt_of_le hbl (eE _ _ X)
 refine Ok.enter Tryz.func79 Z Tryz.ntmps79 Z (fun w O => ?_)
 refine ae (ai ?_)
 refine be Z Z (ltN Z) (fun b1 => ?_)
 refine aJ (T:=28) Z (ltN Z) (fun b2 => ?_)
 refine Cn Z (Cq (aa (ae (ae (ai (Cl (bj 1 Z Z) ?_))))))
 refine Cl (am (hsi) Z ⟨A,Cr⟩) ?_
 refine Cl (sF (by assumption) (bE Z Z)) (Cq (aa (aD Z (ax (aa (ae (ai (stB Z Z Z (BuildK.nil ?_)))))))))
 refine aJ (T:=28) Z (ltN Z) (fun b4 => ?_)
 refine ay 0 Z Z Z Z Z (leN Z) Z (Cq (aa (ae (ae (ai (Cl (bj 2 Z Z) ?_))))))
 refine Cl (am (hbi) Z ⟨A,Cr⟩) ?_
 refine Cl (bW _ 1 Z Z X) (Cl (lE 2 Z Z Z U X) (Cn Z (Cq (aa (av (cB (Γ' := [(1,_),(2,_),(3,_),(4,_),(5,_)]) Cg (SubM.refl _) ?_))))))
 refine bP (σ:=Nat × Nat) (Γk := [(1,_),(2,_),(3,_),(4,_)]) Cg (fun p => [(5,one (.int .i64 ((p.1:Nat) - 1:Int)))]) (fun p M0=>(M0.set 0 (aQ b4 28 (Lay.agg 2).sz [(0,Lay.agg 2,aR (p.2:Int))]))) (fun p=>p.1≤418∧p.2*p.2≤a∧a<(p.2+2^p.1)*(p.2+2^p.1)) (fun p=>p.1) (((bn+1) / 2+1,0)) (⟨by dsimp only;omega,Nat.zero_le _,hst⟩) Ch (.keep (vH) (.keep Ck (.keep Ck (.nil)))) (fun p hp => ?_)
 refine ci (Γ' := [(5,_),(1,_),(2,_),(3,_),(4,_)]) (M' := [_,_,_]) Z Z ?_
 obtain ⟨c,out⟩:=p
 dsimp only at hp ⊢
 obtain ⟨p1,p2,p3⟩:=hp
 have hos:out≤s:=by
  rcases Nat.lt_or_ge s out with h | h
  ·have h5:(s+1)*(s+1)≤out*out:=Nat.mul_le_mul h h
   exact absurd (Nat.lt_of_lt_of_le h2 (Nat.le_trans h5 p2)) (Nat.lt_irrefl _)
  ·exact h
 cases c with
 | zero =>
  rw [Nat.pow_zero] at p3
  have he:out=s:=by
   rcases Nat.lt_or_ge out s with h | h
   ·have h5:(out+1)*(out+1)≤s*s:=Nat.mul_le_mul h h
    exact absurd (Nat.lt_of_lt_of_le p3 (Nat.le_trans h5 h1)) (Nat.lt_irrefl _)
   ·exact Nat.le_antisymm hos h
  refine ae (ae (ai (Cm Z (Cl (sF X (ei Z Z)) (Cq (aa (aD Z (a8 (aw ?_)))))))))
  refine aw (aM (aa (ae (ai (Cl (ak 0 Z Z Z) (ay 1 Z Z Z Z Z (leN Z) Z (Cn Z (Cq (aa ?_)))))))))
  refine aE ?_
  refine dk Tryz.results79 (.cellB 1 Z Z Z (cF (by rw [he]))) (.tmp Z A)
 | succ n =>
  have en:((n+1:Nat):Int) - 1=(n:Nat):=by omega
  rw [en]
  have hn3:2^n≤2^e3:=eE _ _ X
  have hmd:=fb false (2^n)
  rw [if_neg U] at hmd
  have ho3:out+2^n<2^(e3+1):=by rw [xl e3 (e3+1) Z]; exact Nat.add_lt_add_of_lt_of_le (Nat.lt_of_le_of_lt hos hs3) hn3
  have s1:bV (out:Int):=cY (Nat.lt_of_lt_of_le (show (out:Int).natAbs<2^e3 by omega) (eE e3 2048 X))
  have s2:bV ((2^n:Nat):Int):=cY (Nat.lt_of_le_of_lt (show ((2^n:Nat):Int).natAbs≤2^e3 by rw [Int.natAbs_natCast]; exact hn3) (Nat.pow_lt_pow_right (a:=2) (m:=e3) (n:=2048) U X))
  have s3:bV ((out+2^n:Nat):Int):=cY (Nat.lt_of_lt_of_le (show ((out+2^n:Nat):Int).natAbs<2^(e3+1) by rw [Int.natAbs_natCast]; exact ho3) (eE (e3+1) 2048 X))
  have hpp:=Nat.mul_lt_mul'' ho3 ho3
  rw [← Nat.pow_add] at hpp
  have s4:bV (((out+2^n)*(out+2^n):Nat):Int):=cY (Nat.lt_of_lt_of_le (show (((out+2^n)*(out+2^n):Nat):Int).natAbs<2^(e3+1+(e3+1)) by rw [Int.natAbs_natCast]; exact hpp) (eE (e3+1+(e3+1)) 2048 X))
  have had:=fM (out:Int) ((2^n:Nat):Int) s1 s2
  rw [← Int.natCast_add] at had
  have hmu:=fN ((out+2^n:Nat):Int) ((out+2^n:Nat):Int) s3 s3
  rw [← Int.natCast_mul] at hmu
  have hcm:=m8 (((out+2^n)*(out+2^n):Nat):Int) (a:Int) s4 sma
  rw [Nat.pow_succ,show out+2^n*2=(out+2^n)+2^n by omega] at p3
  refine ae (ae (ai (Cm Z (Cl (sT X (ei Z Z)) (Cq (aa (aO Z (ax (aa ?_)))))))))
  refine ae (av (ae (ai (Cm Z (Cl (lE 32 Z Z Z U X) (Cl (bW _ 1 Z Z X) ?_))))))
  refine cA (n / 32+1) (n / 32+1) Z Z Z Z (Nat.le_refl _) Z Z X Z Z (fun bz => ?_)
  refine Cn Z (Cq (aa (ae (ai (Cm Z (Cm Z (Cl (lE 32 Z Z Z U X) (Cm Z (Cl (dm 32 Z Z Z U) ?_)))))))))
  refine Cl (xk (s:=n % 32) Z Z X) (Cl (au Z Z X) ?_)
  (refine az 0 Z Z Z ?_ Z ?_;omega)
  refine Cq (aa (ae (wq (t:=6) (i:=0) Z Z ?_)))
  by_cases hle:(out+2^n)*(out+2^n)≤a
  ·have hc0:cG (((out+2^n)*(out+2^n):Nat):Int) (a:Int)≤0:=by unfold cG;split <;> (try split) <;> omega
   refine jz bD Y Y ?_
   refine ux (fun B=>ak 0 Z Z Z) Z Z ?_
   refine ux (fun B=>ab Z) Z Z ?_
   refine uxk (hmd) Z ⟨(oS n X),A,Cr⟩ Z ?_
   refine uxk (had) Z ⟨A,A,Cr⟩ Z ?_
   refine ua Z (us Z ?_)
   refine RunU.nil (fun γ => ?_)
   refine gC (M' := [_,_,_,_]) Z (aa (ae (bm 6 bD Y U (Cl (ak 0 Z Z Z) (Cl (ak 0 Z Z Z) ?_)))))
   refine Cl (am (hmu) Z ⟨A,A,Cr⟩) ?_
   refine Cl (bj 3 Z Z) ?_
   refine Cl (am (hcm) Z ⟨A,A,Cr⟩) ?_
   refine Cl (sT (by assumption) (uM Z Z)) (Cq (Cq (aa (aO Z (ai (Cl (ak 0 Z Z Z) (ay 1 Z Z Z Z Z (leN Z) Z (Cq (aL ?_)))))))))
   refine aa (ai (Cm Z (Cl (dJ Z Z (aP X X)) (Cn Z (Cq ?_)))))
   refine aZ ((n,out+2^n)) (⟨by dsimp only;omega,hle,p3⟩) X Ch (.drop (.keep Ck (.keep Ck (.keep Ck (.nil)))))
  ·have hc0 : ¬ cG (((out+2^n)*(out+2^n):Nat):Int) (a:Int)≤0:=by unfold cG;rw [if_neg X,if_pos X]; decide
   refine jz bD Y Y ?_
   refine ux (fun B=>ak 0 Z Z Z) Z Z ?_
   refine ux (fun B=>ab Z) Z Z ?_
   refine uxk (hmd) Z ⟨(oS n X),A,Cr⟩ Z ?_
   refine uxk (had) Z ⟨A,A,Cr⟩ Z ?_
   refine ua Z (us Z ?_)
   refine RunU.nil (fun γ => ?_)
   refine gC (M' := [_,_,_,_]) Z (aa (ae (bm 6 bD Y U (Cl (ak 0 Z Z Z) (Cl (ak 0 Z Z Z) ?_)))))
   refine Cl (am (hmu) Z ⟨A,A,Cr⟩) ?_
   refine Cl (bj 3 Z Z) ?_
   refine Cl (am (hcm) Z ⟨A,A,Cr⟩) ?_
   refine Cl (sF (by assumption) (uM Z Z)) (Cq (Cq (aa (aD Z (ax (aL (aa (ai (Cm Z ?_)))))))))
   refine Cl (dJ Z Z (aP X X)) (Cn Z (Cq ?_))
   refine aZ ((n,out)) (⟨by dsimp only;omega,p2,Nat.lt_of_not_le hle⟩) X Ch (.drop (.keep Ck (.keep Ck (.keep Ck (.nil)))))
theorem vJ:Ok Tryz.prog 119 [aR 0] (one (.int .i64 0)):=by
 unfold aR
 have hl:(aN (Int.natAbs 0)).length=0:=rfl
 generalize aN (Int.natAbs 0)=l at hl ⊢
 refine Ok.enter Tryz.func119 Z Tryz.ntmps119 Z (fun w O => ?_)
 refine ae (ai ?_)
 refine be Z Z (ltN Z) (fun b1 => ?_)
 refine Cn Z (Cq (aa (ae (ai (Cl (aj Z) (Cl (ak 0 Z Z Z) (Cl (bg Z) (Cl (mX 32 _ Z Z X) (Cn Z ?_)))))))))
 refine Cq (aa (ae (ae (ai (Cl (aj Z) (Cl (ak 0 Z Z Z) (Cl (bg Z) (Cl (dJ Z Z (aP X X)) (Cn Z ?_)))))))))
 refine Cq (aa (av (cB (Γ' := [(1,_),(2,_),(3,_),(4,_)]) Cg (SubM.refl _) ?_)))
 refine bP (σ:=Unit) (Γk := [(1,_)]) Cg (fun u => [(4,one (.int .i64 (-1))),(3,one (.int .i64 0))]) (fun u M0=>M0) (fun u=>True) (fun u=>0) (()) (trivial) Ch (.keep Ck (.nil)) (fun u hu => ?_)
 refine ci (Γ' := [(4,_),(3,_),(1,_)]) (M' := [_]) Z Z (ae (ae (ai (Cm Z (Cl (sF X (ei Z Z)) (Cq (aa (aD Z (a8 ?_)))))))))
 refine aw (aw (aM (aa (ae (ai (Cm Z (Cn Z (Cq (aa ?_)))))))))
 refine aE ?_
 refine aV Tryz.results119 (.tmp Z A)
theorem vK (a s:Nat) (ha:a<2^800) (h1:s*s≤a) (h2:a<(s+1)*(s+1)):Ok Tryz.prog 79 [aR (a:Int)] (bF [aR (s:Int),one (.int .i64 0)]):=by
 refine xY a s ha h1 h2 ?_
 by_cases h:a=0
 ·subst h;exact ⟨0,vJ,by decide,by decide⟩
 ·have hl:(aN a).length≤25:=di (Nat.lt_of_lt_of_le ha (Nat.le_trans (eE 800 (32*25) U) (Nat.le_of_eq (Nat.pow_mul (a:=2) (m:=32) (n:=25)))))
  refine ⟨ip a,xX a h X,ug a,?_⟩
  unfold ip
  rw [if_neg h]
  have:=gV (n:=32) (x:=(aN a).getD ((aN a).length - 1) 0) (a6 (a7 a) ((aN a).length - 1)) X
  omega
end Tor
end
section
namespace Tor
open Go Go.RowKit Go.Proofs
variable [Tor.Co.Kc]
def de (c:Nat) (f:Nat→Int):Nat:=(ez c (fun k=>f k*f k)).natAbs
theorem kv (x:Int):0≤x*x:=by
 rw [← Int.natAbs_mul_self (a:=x)]; exact Int.natCast_nonneg _
theorem lj (c:Nat) (f:Nat→Int):0≤ez c (fun k=>f k*f k):=by
 induction c with
 | zero => exact Int.le_refl _
 | succ c ih =>
  show 0≤ez c (fun k=>f k*f k)+f c*f c
  have:=kv (f c)
  omega
theorem mw (c:Nat) (f:Nat→Int):((de c f:Nat):Int)=ez c (fun k=>f k*f k):=Int.natAbs_of_nonneg (lj c f)
theorem sV {f:Nat→Int} {i c:Nat} (h:i≤c):ez i (fun k=>f k*f k)≤ez c (fun k=>f k*f k):=by
  induction c with
  | zero => have : i = 0 := by omega
            subst this;exact Int.le_refl _
  | succ c ih =>
    by_cases e:i=c+1
    · rw [e]; exact Int.le_refl _
    · have h1:=ih X
      have:=kv (f c)
      show _≤ez c (fun k=>f k*f k)+f c*f c
      omega
def isq:Nat→Nat
 | 0 => 0
 | a + 1 => if (isq a + 1) * (isq a + 1) ≤ a + 1 then isq a + 1 else isq a
theorem iu : ∀ a,isq a*isq a≤a∧a<(isq a+1)*(isq a+1)
 | 0 => ⟨by decide, by decide⟩
 | a + 1 => by
  obtain ⟨h1,h2⟩:=iu a
  show (if (isq a+1)*(isq a+1)≤a+1 then isq a+1 else isq a)*(if (isq a+1)*(isq a+1)≤a+1 then isq a+1 else isq a)≤a+1∧a+1<((if (isq a+1)*(isq a+1)≤a+1 then isq a+1 else isq a)+1)*((if (isq a+1)*(isq a+1)≤a+1 then isq a+1 else isq a)+1)
  split
  ·rename_i h
   have:(isq a+1)*(isq a+1)<(isq a+1+1)*(isq a+1+1):=Nat.mul_lt_mul'' X X
   exact ⟨h,by omega⟩
  ·exact ⟨by omega,by omega⟩
def upN (a:Nat):Nat:=if isq a*isq a<a then isq a+1 else isq a
theorem sW (a:Nat):a≤upN a*upN a:=by
 have:=iu a
 unfold upN;split <;> omega
theorem xZ {a:Nat} (h:0<upN a):(upN a - 1)*(upN a - 1)<a:=by
 have h1:=iu a
 unfold upN at *
 split
 ·rename_i h2;rw [Nat.add_sub_cancel]; exact h2
 ·rename_i h2
  rw [if_neg h2] at h
  have:(isq a - 1)*(isq a - 1)<isq a*isq a:=Nat.mul_lt_mul'' X X
  omega
theorem sX {a s:Nat} (h1:a≤s*s) (h2 : ∀ t,t<s→t*t<a):upN a=s:=by
 have h3:=sW a
 rcases Nat.lt_trichotomy (upN a) s with h | h | h
 ·have:=h2 _ h;omega
 ·exact h
 ·have h4:=xZ (a:=a) X
  have h5:s*s≤(upN a - 1)*(upN a - 1):=Nat.mul_le_mul X X
  omega
theorem Bg {a b:Nat} (h:a≤b):upN a≤upN b:=by
 rcases Nat.lt_or_ge (upN b) (upN a) with h1 | h1
 ·have h2:=xZ (a:=a) X
  have h3:=sW b
  have h5:upN b*upN b≤(upN a - 1)*(upN a - 1):=Nat.mul_le_mul X X
  omega
 ·exact h1
theorem x3 (a:Nat):isq a≤a:=by
 have h:=(iu a).1
 rcases Nat.eq_zero_or_pos (isq a) with h0 | h0
 ·omega
 ·exact Nat.le_trans (Nat.le_mul_of_pos_right _ h0) h
theorem jX {x:Int} (h:x.natAbs≤2^810):bV x:=io h (Nat.pow_lt_pow_right (a:=2) (m:=810) (n:=2048) U U)
theorem lk {a:Nat} (h:a<2^800):a≤2^810:=Nat.le_of_lt (Nat.lt_of_lt_of_le h (Nat.pow_le_pow_right (n:=2) (i:=800) (j:=810) U U))
def prN:Nat→(Nat→Nat)→Nat
 | 0, _ => 1
 | n + 1, g => prN n g * g n
theorem nE (n:Nat) (g:Nat→Nat):((prN n g:Nat):Int)=prZ n (fun i=>(g i:Int)):=by
 induction n with
 | zero => rfl
 | succ n ih => rw [prN, prZ, Int.natCast_mul, ih]
theorem nF {B n:Nat} {g:Nat→Nat} (h : ∀ i,i<n→g i≤B) : ∀ k,k≤n→prN k g≤B^k
 | 0, _ => Nat.le_refl _
 | k + 1, hk => by rw [prN, Nat.pow_succ]; exact Nat.mul_le_mul (nF h k X) (h k X)
theorem pW {B n:Nat} {g:Nat→Nat} (hB:1≤B) (hn:B^n<2^800) (h : ∀ i,i<n→g i≤B) {k:Nat} (hk:k≤n):prN k g<2^800 :=
 Nat.lt_of_le_of_lt (Nat.le_trans (nF h k hk) (Nat.pow_le_pow_right hB hk)) hn
theorem BQ {B n:Nat} (hB:1≤B) (hn:B^n<2^800) (h:0<n):B<2^800:=by
 have:=Nat.pow_le_pow_right hB (show 1≤n from h)
 rw [Nat.pow_one] at this
 exact Nat.lt_of_le_of_lt this hn
theorem jN {x:Int} {n:Nat} (h:x=(n:Int)):VT.le (aR x) (aR (n:Int)):=h▸VT.le_refl _
attribute [local irreducible] J PJ aC one slT bJ bH bF exT ch eP aQ aK slV VT.le Ret bQ dG el
attribute [local irreducible] aR
theorem ry (c:Nat) (f:Nat→Int) (hc:c≤1048576) (hf : ∀ i,fW (f i)) (hl:de c f<2^800):Ok Tryz.prog 55 [dZ c f] (aR (de c f:Int)):=by
 have h0:=g8 0 U U
 unfold dZ
 refine Ok.enter Tryz.func55 Z Tryz.ntmps55 Z (fun w O => ?_)
 refine ae (ai ?_)
 refine aJ (T:=28) Z (ltN Z) (fun b2 => ?_)
 refine Cq (aa (ae (ai ?_)))
 refine Cl (am (h0) Z ⟨A,Cr⟩) ?_
 refine aJ (T:=28) Z (ltN Z) (fun b3 => ?_)
 refine ay 0 Z Z Z Z Z (leN Z) Z (Cq (aa (ae (ae (ai (Cn Z (Cq (aa (av ?_)))))))))
 refine cB (Γ' := [(0,_),(2,_),(3,_),(4,_)]) Cg (SubM.refl _) ?_
 refine bP (σ:=Nat) (Γk := [(0,_),(2,_),(3,_)]) Cg (fun i => [(4,one (.int .i64 (i:Nat)))]) (fun i M0=>(M0.set 0 (aQ b3 28 2 [(0, .agg 2,aR (ez i (fun k=>f k*f k)))]))) (fun i=>i≤c) (fun i=>c - i) (0) (Nat.zero_le _) Ch (.keep Ck (.keep Ck (.nil))) (fun i hi => ?_)
 refine ci (Γ' := [(4,_),(0,_),(2,_),(3,_)]) (M' := [_,_]) Z Z ?_
 by_cases hi:i<c
 ·have h1:=fN (f i) (f i) (cW (hf i)) (cW (hf i))
  have hb:(ez i (fun k=>f k*f k)).natAbs≤de c f:=by
   have h2:=sV (f:=f) (show i≤c by omega)
   have h3:=lj i f
   have h4:=mw c f
   omega
  have h2:=fM (ez i (fun k=>f k*f k)) (f i*f i) (jX (Nat.le_trans hb (lk hl))) (jX (Nat.le_trans (w6 (hf i) (hf i)) (Nat.pow_le_pow_right (n:=2) (i:=800) (j:=810) U U)))
  refine ae (ae (ai (Cm Z (Cm Z (Cl (bg Z) (Cl (sT X (bE Z Z)) (Cq (aa (aO Z ?_)))))))))
  refine ax (aa (ae (av (bm 11 bD Y U (Cl (ak 0 Z Z Z) (Cm Z (Cm Z (Cl (aH Z Z X) (Cl (aY Z) ?_)))))))))
  refine Cm Z (Cm Z (Cl (aH Z Z X) (Cl (aY Z) ?_)))
  refine Cl (am (h1) Z ⟨A,A,Cr⟩) ?_
  refine Cl (am (h2) Z ⟨A,A,Cr⟩) ?_
  refine Cq (ay 0 Z Z Z Z Z (leN Z) Z (Cq (aL (aa (ai (Cm Z (Cl (bW _ 1 Z Z X) (Cn Z (Cq ?_)))))))))
  refine aZ (i+1) (hi) X Ch (.keep Ck (.keep Ck (.nil)))
 ·have he:i=c:=by omega
  subst he
  refine ae (ae (ai (Cm Z (Cm Z (Cl (bg Z) (Cl (sF X (bE Z Z)) (Cq (aa (aD Z ?_)))))))))
  refine a8 (aw (aw (aM (aa (ae (ai (Cl (ak 0 Z Z Z) (ay 1 Z Z Z Z Z (leN Z) Z (Cq ?_)))))))))
  refine aa (aE ?_)
  refine aV Tryz.results55 (.cellB 1 Z Z Z (jN (mw i f).symm))
theorem zI (a:Nat) (ha:a<2^800):Ok Tryz.prog 56 [aR (a:Int)] (aR (upN a:Int)):=by
 have h1:=iu a
 have hs:=x3 a
 have hr:=vK a (isq a) ha h1.1 h1.2
 have hsm:bV (isq a:Int):=jX (Nat.le_trans hs (lk ha))
 have hm:=fN (isq a:Int) (isq a:Int) hsm hsm
 have hq:(isq a:Int)*(isq a:Int)=((isq a*isq a:Nat):Int):=(Int.natCast_mul _ _).symm
 have hc:=m8 ((isq a:Int)*(isq a:Int)) (a:Int) (jX (by rw [hq]; exact Nat.le_trans h1.1 (lk ha))) (jX (lk ha))
 have ho:=g8 1 U U
 have had:=fM (isq a:Int) 1 hsm lJ
 refine Ok.enter Tryz.func56 Z Tryz.ntmps56 Z (fun w O => ?_)
 unfold upN
 by_cases hlt:isq a*isq a<a
 ·have hcc:cG ((isq a:Int)*(isq a:Int)) (a:Int)<0:=by rw [hq]; unfold cG;rw [if_pos X]; decide
  rw [if_pos hlt]
  generalize cG ((isq a:Int)*(isq a:Int)) (a:Int)=cc at *
  refine ae (ai ?_)
  refine jb Z Z (ltN Z) (fun b1 => ?_)
  refine aJ (T:=28) Z (ltN Z) (fun b2 => ?_)
  refine Cq (aa (ae (ai (Cl (ak 1 Z Z Z) ?_))))
  refine Cl (am (hr) Z ⟨A,Cr⟩) ?_
  refine Cm Z (Cl (aA Z Z) (Cl (aA Z Z) ?_))
  refine aJ (T:=28) Z (ltN Z) (fun b3 => ?_)
  refine ay 0 Z Z Z Z Z (leN Z) Z (Cn Z (Cq (aa (ae (ae (bm 6 bD Y U (Cl (ak 0 Z Z Z) (Cl (ak 0 Z Z Z) ?_))))))))
  refine Cl (am (hm) Z ⟨A,A,Cr⟩) ?_
  refine Cl (ak 2 Z Z Z) ?_
  refine Cl (am (hc) Z ⟨A,A,Cr⟩) ?_
  refine Cl (sT (by assumption) (bE Z Z)) (Cq (Cq (aa (aO Z (ae (bm 2 bD Y U (Cl (ak 0 Z Z Z) ?_)))))))
  refine Cl (am (ho) Z ⟨A,Cr⟩) ?_
  refine Cq ?_
  refine Cl (am (had) Z ⟨A,A,Cr⟩) ?_
  refine ay 1 Z Z Z Z Z (leN Z) Z (Cq (aa (aE (aI ?_))))
  refine aV Tryz.results56 (.cellB 1 Z Z Z (jN X))
 ·have hcc : ¬ cG ((isq a:Int)*(isq a:Int)) (a:Int)<0:=by
   rw [hq]; unfold cG;rw [if_neg X]; split <;> decide
  rw [if_neg hlt]
  generalize cG ((isq a:Int)*(isq a:Int)) (a:Int)=cc at *
  refine ae (ai ?_)
  refine jb Z Z (ltN Z) (fun b1 => ?_)
  refine aJ (T:=28) Z (ltN Z) (fun b2 => ?_)
  refine Cq (aa (ae (ai (Cl (ak 1 Z Z Z) ?_))))
  refine Cl (am (hr) Z ⟨A,Cr⟩) ?_
  refine Cm Z (Cl (aA Z Z) (Cl (aA Z Z) ?_))
  refine aJ (T:=28) Z (ltN Z) (fun b3 => ?_)
  refine ay 0 Z Z Z Z Z (leN Z) Z (Cn Z (Cq (aa (ae (ae (bm 6 bD Y U (Cl (ak 0 Z Z Z) (Cl (ak 0 Z Z Z) ?_))))))))
  refine Cl (am (hm) Z ⟨A,A,Cr⟩) ?_
  refine Cl (ak 2 Z Z Z) ?_
  refine Cl (am (hc) Z ⟨A,A,Cr⟩) ?_
  refine Cl (sF (by assumption) (bE Z Z)) (Cq (Cq (aa (aD Z (ax (aa (ae (ai (Cl (ak 0 Z Z Z) ?_)))))))))
  refine ay 1 Z Z Z Z Z (leN Z) Z (Cq (aa (aE ?_)))
  refine aV Tryz.results56 (.cellB 1 Z Z Z A)
theorem oa (r:Nat) (F:Nat→Nat→Int) (B:Nat) (hr:r≤1048576) (hF : ∀ i j,fW (F i j)) (hB:1≤B) (hn:B^r<2^800) (hl : ∀ i,i<r→de r (F i)≤B):Ok Tryz.prog 24 [co r r F] (bF [aR (upN (prN r (fun i=>de r (F i))):Int),one (.int .i64 0)]):=by
 have h1:=g8 1 U U
 have hup:=zI (prN r (fun i=>de r (F i))) (pW hB hn hl (Nat.le_refl r))
 unfold co
 refine Ok.enter Tryz.func24 Z Tryz.ntmps24 Z (fun w O => ?_)
 refine ae (ai ?_)
 refine be Z Z (ltN Z) (fun b1 => ?_)
 refine aJ (T:=28) Z (ltN Z) (fun b2 => ?_)
 refine Cn Z (Cq (aa (ae (ae (ai (Cl (aj Z) (Cl (ak 1 Z Z Z) (Cl (aj Z) (Cl (ak 1 Z Z Z) ?_)))))))))
 refine Cl (sF X (ej Z Z)) (Cq (aa (aD Z (ax (aa (ae (ai ?_)))))))
 refine Cl (am (h1) Z ⟨A,Cr⟩) ?_
 refine aJ (T:=28) Z (ltN Z) (fun b4 => ?_)
 refine ay 0 Z Z Z Z Z (leN Z) Z (Cq (aa (ae (ae (ai (Cn Z (Cq (aa (av ?_)))))))))
 refine cB (Γ' := [(1,_),(2,_),(3,_),(4,_),(5,_)]) Cg (SubM.refl _) ?_
 refine bP (σ:=Nat) (Γk := [(1,_),(2,_),(3,_),(4,_)]) Cg (fun i => [(5,one (.int .i64 (i:Nat)))]) (fun i M0=>(M0.set 0 (aQ b4 28 2 [(0, .agg 2,aR (prN i (fun i=>de r (F i)):Int))]))) (fun i=>i≤r) (fun i=>r - i) (0) (Nat.zero_le _) Ch (.keep Ck (.keep Ck (.keep Ck (.nil)))) (fun i hi => ?_)
 refine ci (Γ' := [(5,_),(1,_),(2,_),(3,_),(4,_)]) (M' := [_,_,_]) Z Z ?_
 by_cases hi:i<r
 ·have hB8:=BQ hB hn X
  have hli:=Nat.lt_of_le_of_lt (hl i hi) hB8
  have hlen:=ry r (F i) hr (hF i) hli
  have hm:=fN (prN i (fun i=>de r (F i)):Int) (de r (F i):Int) (jX (lk (pW hB hn hl (Nat.le_of_lt hi)))) (jX (lk hli))
  have hs:((prN (i+1) (fun i=>de r (F i)):Nat):Int)=(prN i (fun i=>de r (F i)):Int)*(de r (F i):Int):=by rw [prN,Int.natCast_mul]
  unfold dZ at *
  refine ae (ae (ai (Cm Z (Cl (aj Z) (Cl (ak 2 Z Z Z) (Cl (sT X (bE Z Z)) (Cq (aa (aO Z ?_)))))))))
  refine ax (aa (ae (av (bm 8 bD Y U (Cl (ak 0 Z Z Z) (Cl (aj Z) (Cl (ak 2 Z Z Z) (Cm Z (Cl (aH Z Z X) ?_)))))))))
  refine Cl (aY Z) ?_
  refine Cl (am (hlen) Z ⟨A,Cr⟩) ?_
  refine Cl (am (hm) Z ⟨A,A,Cr⟩) ?_
  refine Cq (ay 0 Z Z Z Z Z (leN Z) Z (Cq (aL (aa (ai (Cm Z (Cl (bW _ 1 Z Z X) (Cn Z (Cq ?_)))))))))
  refine aZ (i+1) (hi) X Ch (.keep Ck (.keep Ck (.keep Ck (.nil))))
 ·have he:i=r:=by omega
  subst he
  refine ae (ae (ai (Cm Z (Cl (aj Z) (Cl (ak 2 Z Z Z) (Cl (sF X (bE Z Z)) (Cq (aa (aD Z ?_)))))))))
  refine a8 (aw (aw (aM (aa (ae (ai (Cl (ak 0 Z Z Z) ?_)))))))
  refine Cl (am (hup) Z ⟨A,Cr⟩) ?_
  refine ay 1 Z Z Z Z Z (leN Z) Z (Cn Z (Cq (aa (aE ?_))))
  refine dk Tryz.results24 (.cellB 1 Z Z Z A) (.tmp Z A)
end Tor
end
section
namespace Tor
open Go Go.RowKit Go.Proofs
variable [Tor.Co.Kc]
def jp (r c:Nat) (F:Nat→Nat→Int) (t:Nat):Nat:=(eA r (fun i=>(de c (F i):Int)) t).toNat
theorem rz {r c:Nat} {F:Nat→Nat→Int} {t:Nat} (ht:t<r) : ∃ i,i<r∧eA r (fun i=>(de c (F i):Int)) t=(de c (F i):Int):=by
 have h1:eA r (fun i=>(de c (F i):Int)) t∈lst r (eA r (fun i=>(de c (F i):Int))):=by
  unfold lst;exact List.mem_map.2 ⟨t,List.mem_range.2 ht,rfl⟩
 have h2:=(iM (fun i=>(de c (F i):Int)) (Nat.le_refl r)).mem_iff.1 h1
 unfold lst at h2
 obtain ⟨i,hi,e⟩:=List.mem_map.1 h2
 exact ⟨i,List.mem_range.1 hi,e.symm⟩
theorem oT {r c:Nat} {F:Nat→Nat→Int} {t:Nat} (ht:t<r):((jp r c F t:Nat):Int)=eA r (fun i=>(de c (F i):Int)) t:=by
 obtain ⟨i,hi,e⟩:=rz (c:=c) (F:=F) ht
 unfold jp;rw [e]; exact Int.toNat_of_nonneg (Int.natCast_nonneg _)
theorem zJ {r c B:Nat} {F:Nat→Nat→Int} (hl : ∀ i,i<r→de c (F i)≤B) {t:Nat} (ht:t<r):jp r c F t≤B:=by
 obtain ⟨i,hi,e⟩:=rz (c:=c) (F:=F) ht
 have:=hl i hi
 unfold jp;rw [e]; omega
attribute [local irreducible] J PJ aC one slT bJ bH bF exT ch eP aQ aK slV VT.le Ret bQ dG el
attribute [local irreducible] aR
end Tor
end
section
namespace Tor
variable [Tor.Co.Kc]
theorem nG (n:Nat) (f:Nat→Int):((ez n f:Int):Rat)=Lin.sm n (fun i=>(f i:Rat)):=by
 induction n with
 | zero => rfl
 | succ n ih => rw [ez, Lin.sm, Rat.intCast_add, ih]
theorem x4 (n:Nat) (f:Nat→Int):Lin.dot n (fun k=>(f k:Rat)) (fun k=>(f k:Rat))=((de n f:Int):Rat):=by
 rw [mw,nG]
 exact Lin.cv fun k _=>(Rat.intCast_mul _ _).symm
theorem zK (n:Nat) (f:Nat→Int):((prZ n f:Int):Rat)=Lin.pr n (fun i=>(f i:Rat)):=by
 induction n with
 | zero => rfl
 | succ n ih => rw [prZ, Lin.pr, Rat.intCast_mul, ih]
theorem zL (n:Nat) (F:Nat→Nat→Int):Lin.bX n F*Lin.bX n F≤((prN n (fun i=>de n (F i)):Nat):Int):=by
 have h:=Lin.xH n (fun i j=>(F i j:Rat))
 rw [← Lin.cR, ← Rat.intCast_mul,Lin.ny (g:=fun i=>(((de n (F i):Nat):Int):Rat)) (fun i _=>x4 n (F i)), ← zK, ← nE] at h
 exact Rat.intCast_le_intCast.1 h
theorem Bh {d P:Nat} (h:d*d≤P):d≤upN P:=by
 have h1:=sW P
 rcases Nat.lt_or_ge (upN P) d with h2 | h2
 ·have:=Nat.mul_lt_mul_of_lt_of_le h2 (Nat.le_of_lt h2) X
  omega
 ·exact h2
theorem Bi {x:Int} {P:Nat} (h:x*x≤(P:Int)):x.natAbs*x.natAbs≤P:=by
 rw [← Int.natAbs_mul]
 have:=kv x
 omega
theorem pX (n:Nat) (F:Nat→Nat→Int):(Lin.bX n F).natAbs≤upN (prN n (fun i=>de n (F i))):=Bh (Bi (zL n F))
theorem rA (r c:Nat) (F:Nat→Nat→Int):prN r (jp r c F)=prN r (fun i=>de c (F i)):=by
 apply Int.ofNat.inj
 show ((prN r (jp r c F):Nat):Int)=((prN r (fun i=>de c (F i)):Nat):Int)
 rw [nE,nE, ← xW r (fun i=>(de c (F i):Int))]
 have : ∀ k,k≤r→prZ k (fun i=>(jp r c F i:Int))=prZ k (eA r (fun i=>(de c (F i):Int))):=fun k=>by
  induction k with
  | zero => exact fun _ => rfl
  | succ k ih => intro h; rw [prZ, prZ, ih X, oT X]
 exact this r (Nat.le_refl r)
theorem x5 {B c:Nat} {f:Nat→Int} (h : ∀ k,(f k).natAbs≤B):de c f≤c*(B*B):=by
 unfold de
 induction c with
 | zero => simp [ez]
 | succ c ih =>
  rw [ez,Nat.succ_mul]
  refine Nat.le_trans (Int.natAbs_add_le _ _) (Nat.add_le_add ih ?_)
  rw [Int.natAbs_mul]; exact Nat.mul_le_mul (h c) (h c)
end Tor
end
section
namespace Tor
open Go Go.RowKit
variable [Tor.Co.Kc]
theorem oU {α:Type} {n i:Nat} {S:Nat→Bool} (B:Nat→α) (hi:i<n) (hS:S i=false) :
  (((List.range n).filter fun q => !S q).map B).Perm (B i :: ((List.range n).filter fun q => !(if q=i then true else S q)).map B):=by
 have h1:i∈(List.range n).filter fun q => !S q:=List.mem_filter.2 ⟨List.mem_range.2 hi,by simp [hS]⟩
 refine ((List.perm_cons_erase h1).map B).trans ?_
 rw [List.map_cons]
 refine List.Perm.cons _ ?_
 have hnd:((List.range n).filter fun q => !S q).Nodup:=List.Pairwise.filter _ List.nodup_range
 rw [hnd.erase_eq_filter,List.filter_filter]
 refine List.Perm.of_eq (congrArg _ (List.filter_congr fun q _ => ?_))
 by_cases e:q=i <;> simp [e]
def rwO (T:TypeId) (L:Lay) (c n:Nat) (B C:Nat→Nat) (φ:Nat→Nat→VT) (S:Nat→Bool):Own where
 bl:=((List.range n).filter fun q => !S q).map B
 p g h := ∀ i,i<n→S i=false→(aK (some (B i)) T L (C i) c (φ i)).p g h
 loc:=fun he H hp i hi hS=>(aK (some (B i)) T L (C i) c (φ i)).loc (fun b' hb'=>he b' (by
  have:b'=B i:=by simpa [aK] using hb'
  rw [this]; exact List.mem_map.2 ⟨i,List.mem_filter.2 ⟨List.mem_range.2 hi,by simp [hS]⟩,rfl⟩)) H (hp i hi hS)
theorem ky {T:TypeId} {L:Lay} {c n:Nat} {B C B' C':Nat→Nat} {φ ψ:Nat→Nat→VT} {S S':Nat→Bool} (hS : ∀ i,i<n→S i=S' i) (hB : ∀ i,i<n→S i=false→B i=B' i∧C i=C' i) (H : ∀ i j,i<n→S i=false→j<c→VT.le (φ i j) (ψ i j)):Own.le (rwO T L c n B C φ S) (rwO T L c n B' C' ψ S'):=by
 refine ⟨?_,fun g h hp i hi hs => ?_⟩
 ·show ((List.range n).filter fun q => !S q).map B=((List.range n).filter fun q => !S' q).map B'
  rw [List.filter_congr (q:=fun q => !S' q) (fun q hq=>by rw [hS q (List.mem_range.1 hq)])]
  refine List.map_congr_left fun q hq => ?_
  obtain ⟨h1,h2⟩:=List.mem_filter.1 hq
  have h1:=List.mem_range.1 h1
  exact (hB q h1 (by rw [hS q h1]; simpa using h2)).1
 ·have hs':S i=false:=by rw [hS i hi]; exact hs
  obtain ⟨e1,e2⟩:=hB i hi hs'
  rw [← e1, ← e2]
  exact (kI (fun q hq=>H i q hi hs' hq)).2 g h (hp i hi hs')
theorem x6 {T:TypeId} {L:Lay} {c n:Nat} {B C:Nat→Nat} {φ:Nat→Nat→VT} {S:Nat→Bool} {M:Mem} (hS : ∀ i,i<n→S i=true):ConvM M (rwO T L c n B C φ S :: M):=by
 have e:((List.range n).filter fun q => !S q) = []:=List.filter_eq_nil_iff.2 fun q hq=>by simp [hS q (List.mem_range.1 hq)]
 refine ⟨?_,fun g h H o ho => ?_⟩
 ·show (aU M).Perm ((((List.range n).filter fun q => !S q).map B) ++ aU M)
  rw [e]; exact List.Perm.refl _
 ·rcases List.mem_cons.1 ho with rfl | ho
  ·intro i hi hs;rw [hS i hi] at hs;cases hs
  ·exact H o ho
theorem ll {T:TypeId} {L:Lay} {c n i:Nat} {B C:Nat→Nat} {φ:Nat→Nat→VT} {S:Nat→Bool} {M:Mem} (hi:i<n) (hS:S i=false) :
  ConvM (rwO T L c n B C φ S :: M) (aK (some (B i)) T L (C i) c (φ i) :: rwO T L c n B C φ (fun q=>if q=i then true else S q) :: M):=by
 refine ⟨?_,fun g h H o ho => ?_⟩
 ·show ((((List.range n).filter fun q => !S q).map B) ++ aU M).Perm (B i :: ((((List.range n).filter fun q => !(if q=i then true else S q)).map B) ++ aU M))
  exact (oU B hi hS).append_right _
 ·have h0:=H _ List.mem_cons_self
  rcases List.mem_cons.1 ho with rfl | ho
  ·exact h0 i hi hS
  ·rcases List.mem_cons.1 ho with rfl | ho
   ·intro q hq hs
    dsimp only at hs
    by_cases e:q=i
    ·rw [if_pos e] at hs;cases hs
    ·rw [if_neg e] at hs;exact h0 q hq hs
   ·exact H o (List.mem_cons_of_mem _ ho)
theorem lm {T:TypeId} {L:Lay} {c n i b cap:Nat} {B C:Nat→Nat} {φ:Nat→Nat→VT} {ψ:Nat→VT} {S:Nat→Bool} {M:Mem} (hi:i<n) (hS:S i=true) :
  ConvM (aK (some b) T L cap c ψ :: rwO T L c n B C φ S :: M) (rwO T L c n (fun q=>if q=i then b else B q) (fun q=>if q=i then cap else C q) (fun q=>if q=i then ψ else φ q) (fun q=>if q=i then false else S q) :: M):=by
 refine ⟨?_,fun g h H o ho => ?_⟩
 ·show (b :: ((((List.range n).filter fun q => !S q).map B) ++ aU M)).Perm ((((List.range n).filter fun q => !(if q=i then false else S q)).map (fun q=>if q=i then b else B q)) ++ aU M)
  have hp:=oU (S:=fun q=>if q=i then false else S q) (fun q=>if q=i then b else B q) hi (if_pos Z)
  have e:(((List.range n).filter fun q => !(if q=i then true else (if q=i then false else S q))).map (fun q=>if q=i then b else B q))=(((List.range n).filter fun q => !S q).map B):=by
   rw [List.filter_congr (q:=fun q => !S q) (fun q hq=>by by_cases e:q=i <;> simp [e,hS])]
   refine List.map_congr_left fun q hq => ?_
   have h2:=(List.mem_filter.1 hq).2
   by_cases e:q=i
   ·rw [e,hS] at h2;cases h2
   ·rw [if_neg e]
  rw [e,if_pos Z] at hp
  exact (hp.append_right _).symm
 ·have h0:=H _ List.mem_cons_self
  have h1:=H _ (List.mem_cons_of_mem _ List.mem_cons_self)
  rcases List.mem_cons.1 ho with rfl | ho
  ·intro q hq hs
   by_cases e:q=i
   ·subst e
    show (aK (some (if q=q then b else B q)) T L (if q=q then cap else C q) c (if q=q then ψ else φ q)).p g h
    rw [if_pos Z,if_pos Z,if_pos Z]; exact h0
   ·dsimp only at hs
    rw [if_neg e] at hs
    show (aK (some (if q=i then b else B q)) T L (if q=i then cap else C q) c (if q=i then ψ else φ q)).p g h
    rw [if_neg e,if_neg e,if_neg e]; exact h1 q hq hs
  ·exact H o (List.mem_cons_of_mem _ (List.mem_cons_of_mem _ ho))
theorem ConvM.cons {a:Own} {Cf B:Mem} (h:ConvM Cf B):ConvM (a :: Cf) (a :: B):=⟨h.pm.append_left _,fun g k H o ho=>by
 rcases List.mem_cons.1 ho with rfl | ho
 ·exact H _ List.mem_cons_self
 ·exact h.mem g k (fun o ho=>H o (List.mem_cons_of_mem _ ho)) o ho⟩
theorem ConvM.le {a b:Own} {M:Mem} (h:Own.le a b):ConvM (a :: M) (b :: M):=⟨by show (a.bl ++ aU M).Perm (b.bl ++ aU M);rw [h.1],fun g k H o ho=>by
 rcases List.mem_cons.1 ho with rfl | ho
 ·exact h.2 _ _ (H _ List.mem_cons_self)
 ·exact H o (List.mem_cons_of_mem _ ho)⟩
theorem x7 {T:TypeId} {L:Lay} {c n i k:Nat} {B C:Nat→Nat} {φ:Nat→Nat→VT} {M:Mem} (hi:i<n) (hk:k<n):ConvM (rwO T L c n B C φ (fun _=>false) :: M) (rwO T L c n (swp i k B) (swp i k C) (swp i k φ) (fun _=>false) :: M):=by
 by_cases e:i=k
 ·subst e;rw [nv,nv,nv]; exact .ofPerm (List.Perm.refl _)
 ·refine (ll hi Z).trans (.trans (ConvM.cons (ll hk (if_neg (Ne.symm e)))) (.trans (ConvM.cons (lm (i:=i) hi (by rw [if_neg e,if_pos Z]))) (.trans (lm (i:=k) hk (by rw [if_neg (Ne.symm e),if_pos Z])) (ConvM.le (ky (fun q _ => ?_) (fun q _ _=>⟨?_,?_⟩) (fun q j _ _ _ => ?_))))))
  ·by_cases h1:q=k
   ·simp [h1]
   ·by_cases h2:q=i
    ·simp [h1,h2]
    ·simp [h1,h2]
  ·unfold swp;by_cases h1:q=k
   ·subst h1;rw [if_pos Z,if_neg (Ne.symm e),if_pos Z]
   ·by_cases h2:q=i
    ·rw [if_neg h1,if_pos h2,if_pos h2]
    ·rw [if_neg h1,if_neg h2,if_neg h2,if_neg h1]
  ·unfold swp;by_cases h1:q=k
   ·subst h1;rw [if_pos Z,if_neg (Ne.symm e),if_pos Z]
   ·by_cases h2:q=i
    ·rw [if_neg h1,if_pos h2,if_pos h2]
    ·rw [if_neg h1,if_neg h2,if_neg h2,if_neg h1]
  ·unfold swp;by_cases h1:q=k
   ·subst h1;rw [if_pos Z,if_neg (Ne.symm e),if_pos Z]; exact VT.le_refl _
   ·by_cases h2:q=i
    ·rw [if_neg h1,if_pos h2,if_pos h2]; exact VT.le_refl _
    ·rw [if_neg h1,if_neg h2,if_neg h2,if_neg h1]; exact VT.le_refl _
section
variable {P:Program} {E:Env} {D:List Deferred} {Γ:Ctx} {M:Mem} {Q:Exit→Act→World→Prop}
variable {i:Nat} {ty:TypeId} {pos:String} {af:Array Edge} {d:Option Tmp} {gd:Option (Nat × Bool)}
theorem x8 {e:Exit} {i:Nat} {o:Own} {F:Prop} (hM:M[i]? = some o) (hF : ∀ g h,o.p g h→F) (h:F→PJ E D Γ M e Q):PJ E D Γ M e Q :=
 fun a w hS=>h (hF _ _ (hS.base.mem o (List.mem_of_getElem? hM))) a w hS
theorem jq {T T':TypeId} {L:Lay} [LayOf P T L] {x:Operand} {i' j c n:Nat} {B C:Nat→Nat} {φ:Nat→Nat→VT} {S:Nat→Bool} (k:Nat) (hx:aB Γ x=some (eP (B i') j L.sz)) (hM:M[k]? = some (rwO T' L c n B C φ S)) (hi:i'<n) (hS:S i'=false) (hj:j<c) :
  aC P E Γ M ⟨d, .load T x,ty,pos,af,gd⟩ (φ i' j) :=
 aC.ofRun fun a w hb hf=>by
  have h1:a.eval x = .pointer (some ⟨B i',j*L.sz,none⟩):=hf x _ (by simp [Op.operands]) hx
  obtain ⟨_,_,_,h4⟩:=dD hb hM i' hi hS
  obtain ⟨c,hc,_,he⟩:=h4 (B i') Z
  obtain ⟨v,hx',hp⟩:=he j hj
  refine ⟨v,?_,hp⟩
  simp only [execOp,h1,Instr.loadAt,Instr.sureAddr,Sem.run_bind,Sem.run_pure,Result.andThen_ok,dx hc hx']
end
end Tor
end
section
namespace Tor
open Go Go.RowKit Go.Proofs
variable [Tor.Co.Kc]
attribute [local irreducible] J PJ aC one slT bJ bH bF exT ch eP aQ aK slV VT.le Ret bQ dG el
attribute [local irreducible] aR
theorem zM (p a b:Nat) (hp0:0<p) (hp:p<4294967296) (ha:a<4294967296) (hb:b<4294967296):Ok Tryz.prog 116 [one (.int .u64 p),one (.int .u64 a),one (.int .u64 b)] (one (.int .u64 (((a+b) % p:Nat):Int))):=by
 have hr:=nj (a+b) p X hp0 X
 refine Ok.enter Tryz.func116 Z Tryz.ntmps116 Z (fun w O => ?_)
 refine ae (ai (Cn Z (Cq (aa (ae (ai (Cm Z (Cm Z (Cl (ed Z Z X) ?_)))))))))
 refine Cm Z ?_
 refine Cl (am (hr) Z ⟨A,A,Cr⟩) ?_
 refine Cn Z (Cq (aa (aE ?_)))
 refine aV Tryz.results116 (.tmp Z A)
end Tor
end
