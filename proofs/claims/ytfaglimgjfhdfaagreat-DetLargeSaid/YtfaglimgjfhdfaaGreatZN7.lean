/-
  Theorems that the proofs of laws of this seat rest on.
  No condition.
-/
import Derived.Test.YtfaglimgjfhdfaaGreatZN6
set_option maxHeartbeats 20000000
set_option linter.unusedVariables false
set_option linter.unusedSimpArgs false
set_option linter.unusedSectionVars false
section
namespace Tor.Lin
theorem lD (x:Rat):0≤x*x:=by
 rcases Rat.le_total (a:=0) (b:=x) with h | h
 ·exact Rat.mul_nonneg h h
 ·have:=Rat.mul_nonneg (a := -x) (b := -x) (by grind) (by grind)
  grind
theorem xe {a b c d:Rat} (h:0≤a) (h1:a≤b) (h2:0≤c) (h3:c≤d):a*c≤b*d:=by
 have e1:=Rat.mul_le_mul_of_nonneg_left (c:=c) h1 h2
 have e2:=Rat.mul_le_mul_of_nonneg_left (c:=b) h3 (Rat.le_trans h h1)
 grind
theorem lE {n:Nat} {f:Nat→Rat} (h : ∀ i,i<n→0≤f i):0≤sm n f:=by
 induction n with
 | zero => exact Rat.le_refl
 | succ n ih =>
  have h1:=ih (fun i hi=>h i X)
  have h2:=h n X
  rw [sm]; grind
theorem qT {n:Nat} {f:Nat→Rat} (h : ∀ i,i<n→0≤f i) (h0:sm n f=0) : ∀ i,i<n→f i=0:=by
 induction n with
 | zero => intro i hi; omega
 | succ n ih =>
  have h1:=lE (fun i hi=>h i (show i<n+1 by omega)) (n:=n)
  have h2:=h n X
  rw [sm] at h0
  intro i hi
  by_cases e:i=n
  ·subst e;grind
  ·exact ih (fun i hi=>h i X) (by grind) i X
theorem vl {n m:Nat} {f:Nat→Rat} (h:m≤n) (h0 : ∀ j,m≤j→j<n→f j=0):sm n f=sm m f:=by
  induction n with
  | zero => have : m = 0 := by omega
            rw [this]
  | succ n ih =>
    by_cases e:m=n+1
    · rw [e]
    · rw [sm,ih X (fun j h1 h2=>h0 j h1 X),h0 n X X,Rat.add_zero]
def dot (m:Nat) (u v:Nat→Rat):Rat:=sm m (fun k=>u k*v k)
theorem jb (m:Nat) (u v:Nat→Rat):dot m u v=dot m v u:=cw fun k _=>Rat.mul_comm _ _
theorem qU (m:Nat) (u:Nat→Rat):0≤dot m u u:=lE fun k _=>lD _
theorem xf {m:Nat} {u:Nat→Rat} (h:dot m u u=0) : ∀ k,k<m→u k=0:=fun k hk=>by
 have:=qT (fun i _=>lD (u i)) h k hk
 grind
def gsT (m:Nat) (BV:Nat→Nat→Rat):Nat→Nat→Nat→Rat
 | 0 => fun _ _ => 0
 | i + 1 => fun j => if j = i then (fun k => BV i k - sm i (fun t => dot m (BV i) (gsT m BV i t) / dot m (gsT m BV i t) (gsT m BV i t) * gsT m BV i t k)) else gsT m BV i j
def gsB (m:Nat) (BV:Nat→Nat→Rat) (i:Nat):Nat→Rat:=gsT m BV (i+1) i
def gsM (m:Nat) (BV:Nat→Nat→Rat) (i t:Nat):Rat:=dot m (BV i) (gsB m BV t) / dot m (gsB m BV t) (gsB m BV t)
theorem xg {m:Nat} {BV:Nat→Nat→Rat} : ∀ i j,j<i→gsT m BV i j=gsB m BV j
 | 0, j, h => absurd h (Nat.not_lt_zero _)
 | i + 1, j, h => by
  by_cases e:j=i
  ·rw [e]; rfl
  ·show (if j=i then _ else gsT m BV i j)=_
   rw [if_neg e]; exact xg i j X
theorem pw (m:Nat) (BV:Nat→Nat→Rat) (i k:Nat):gsB m BV i k=BV i k - sm i (fun t=>gsM m BV i t*gsB m BV t k):=by
 show (if i=i then (fun k=>BV i k - sm i (fun t=>dot m (BV i) (gsT m BV i t) / dot m (gsT m BV i t) (gsT m BV i t)*gsT m BV i t k)) else gsT m BV i i) k=_
 rw [if_pos Z]
 show BV i k - _=_
 congr 1
 exact cw fun t ht=>by rw [xg i t ht]; rfl
theorem m5 {m n:Nat} {u v w:Nat→Rat} {f:Nat→Rat} {b:Nat→Nat→Rat} (h : ∀ k,k<m→w k=v k - sm n (fun t=>f t*b t k)):dot m u w=dot m u v - sm n (fun t=>f t*dot m u (b t)):=by
 unfold dot
 rw [cw (g:=fun k=>u k*v k - sm n (fun t=>f t*(u k*b t k))) (fun k hk=>by
  rw [h k hk]
  have:sm n (fun t=>f t*(u k*b t k))=sm n (fun t=>f t*b t k)*u k:=by
   rw [← t6]; exact cw fun t _=>by grind
  rw [this]; grind),AT,zf]
 congr 1
 exact cw fun t _=>by
  rw [Rat.mul_comm, ← t6]; exact cw fun k _=>by grind
theorem t8 (m:Nat) (BV:Nat→Nat→Rat) (i t:Nat):gsM m BV i t*dot m (gsB m BV t) (gsB m BV t)=dot m (BV i) (gsB m BV t):=by
 by_cases h:dot m (gsB m BV t) (gsB m BV t)=0
 ·have h0:=xf h
  have e:dot m (BV i) (gsB m BV t)=0:=t7 fun k hk=>by rw [h0 k hk]; exact Rat.mul_zero _
  rw [h,e]; exact Rat.mul_zero _
 ·unfold gsM;exact Rat.div_mul_cancel h
theorem t9 (m:Nat) (BV:Nat→Nat→Rat) : ∀ i j,j<i→dot m (gsB m BV i) (gsB m BV j)=0:=by
 intro i
 induction i using Nat.strongRecOn with
 | _ i ih =>
  intro j hj
  rw [jb,m5 (v:=BV i) (f:=fun t=>gsM m BV i t) (b:=gsB m BV) (n:=i) (fun k _=>pw m BV i k)]
  rw [ja hj (fun t ht hne=>by
   rcases Nat.lt_trichotomy t j with h | h | h
   ·rw [ih j hj t h]; exact Rat.mul_zero _
   ·exact absurd h hne
   ·rw [jb,ih t ht j h]; exact Rat.mul_zero _),t8,jb]
  grind
theorem AU (m:Nat) (BV:Nat→Nat→Rat) (i k:Nat):BV i k=gsB m BV i k+sm i (fun t=>gsM m BV i t*gsB m BV t k):=by
 rw [pw]; grind
theorem zg (m:Nat) (BV:Nat→Nat→Rat) (i:Nat):dot m (BV i) (BV i)=dot m (gsB m BV i) (gsB m BV i)+sm i (fun t=>gsM m BV i t*gsM m BV i t*dot m (gsB m BV t) (gsB m BV t)):=by
 have e1:=m5 (m:=m) (u:=gsB m BV i) (v:=BV i) (w:=gsB m BV i) (n:=i) (f:=fun t=>gsM m BV i t) (b:=gsB m BV) (fun k _=>pw m BV i k)
 rw [t7 (n:=i) (fun t ht=>by rw [t9 m BV i t ht]; exact Rat.mul_zero _)] at e1
 have e2:=m5 (m:=m) (u:=BV i) (v:=BV i) (w:=gsB m BV i) (n:=i) (f:=fun t=>gsM m BV i t) (b:=gsB m BV) (fun k _=>pw m BV i k)
 have e3:dot m (gsB m BV i) (BV i)=dot m (BV i) (gsB m BV i):=jb _ _ _
 have e4:sm i (fun t=>gsM m BV i t*dot m (BV i) (gsB m BV t))=sm i (fun t=>gsM m BV i t*gsM m BV i t*dot m (gsB m BV t) (gsB m BV t)):=cw fun t _=>by rw [← t8]; grind
 rw [e4] at e2
 grind
theorem Bz (m:Nat) (BV:Nat→Nat→Rat) (i:Nat):dot m (gsB m BV i) (gsB m BV i)≤dot m (BV i) (BV i):=by
 have h:=zg m BV i
 have h2:0≤sm i (fun t=>gsM m BV i t*gsM m BV i t*dot m (gsB m BV t) (gsB m BV t)):=lE fun t _=>Rat.mul_nonneg (lD _) (qU _ _)
 grind
def pr:Nat→(Nat→Rat)→Rat
 | 0, _ => 1
 | n + 1, f => pr n f * f n
theorem m6 {n:Nat} {f g:Nat→Rat} (h : ∀ i,i<n→f i=g i):pr n f=pr n g:=by
 induction n with
 | zero => rfl
 | succ n ih => rw [pr, pr, ih (fun i hi => h i X), h n X]
theorem xh (n:Nat) (f:Nat→Rat):pr (n+1) f=f 0*pr n (fun i=>f (i+1)):=by
 induction n with
 | zero => show 1 * f 0 = f 0 * 1; grind
 | succ n ih => rw [pr, ih, pr]; grind
theorem vm {n:Nat} {f:Nat→Rat} (h : ∀ i,i<n→0≤f i):0≤pr n f:=by
 induction n with
 | zero => show (0 : Rat) ≤ 1; decide
 | succ n ih => exact Rat.mul_nonneg (ih fun i hi => h i X) (h n X)
theorem zh {n:Nat} {f g:Nat→Rat} (h0 : ∀ i,i<n→0≤f i) (h : ∀ i,i<n→f i≤g i):pr n f≤pr n g:=by
 induction n with
 | zero => exact Rat.le_refl
 | succ n ih => exact xe (vm fun i hi => h0 i X) (ih (fun i hi => h0 i X) fun i hi => h i X) (h0 n X) (h n X)
theorem px : ∀ {n:Nat} {F:Nat→Nat→Rat},(∀ i j,i<j→j<n→F i j=0)→det n F=pr n (fun i=>F i i)
 | 0, _, _ => rfl
 | n + 1, F, h => by
  rw [det,ja (Nat.succ_pos n) (fun j hj hne=>by rw [h 0 j X hj]; grind),px (n:=n) (fun i j hij hj=>h _ _ (by unfold skip;split <;> omega) (by unfold skip;split <;> omega)),xh]
  have:sgn 0=1:=rfl
  rw [this,Rat.one_mul]
  congr 1
theorem AV (n:Nat) (BV:Nat→Nat→Rat):det n BV*det n BV=pr n (fun i=>dot n (gsB n BV i) (gsB n BV i)):=by
 have e1:det n BV=det n (m1 n (fun i t=>if t<i then gsM n BV i t else if t=i then 1 else 0) (gsB n BV)):=cx fun i j hi hj=>by
  show BV i j=sm n (fun t=>(if t<i then gsM n BV i t else if t=i then 1 else 0)*gsB n BV t j)
  rw [vl (show i+1≤n by omega) (fun t h1 h2=>by rw [if_neg X,if_neg X]; exact Rat.zero_mul _),sm,if_neg (Nat.lt_irrefl _),if_pos Z,AU n BV i j]
  rw [cw (f:=fun t=>(if t<i then gsM n BV i t else if t=i then 1 else 0)*gsB n BV t j) (g:=fun t=>gsM n BV i t*gsB n BV t j) (fun t ht=>by rw [if_pos ht])]
  grind
 have e2:det n (fun i t=>if t<i then gsM n BV i t else if t=i then (1:Rat) else 0)=1:=by
  rw [px (fun i j hij hj=>by rw [if_neg X,if_neg X])]
  rw [m6 (g:=fun _=>1) (fun i _=>by rw [if_neg (Nat.lt_irrefl _),if_pos Z])]
  clear e1
  induction n with
  | zero => rfl
  | succ n ih => rw [pr, ih, Rat.one_mul]
 rw [pt,e2,Rat.one_mul] at e1
 rw [e1]
 have e3:det n (gsB n BV)*det n (gsB n BV)=det n (m1 n (gsB n BV) (fun i j=>gsB n BV j i)):=by
  rw [pt]
  congr 1
  exact (AQ n pu (gsB n BV)).symm
 rw [e3,px (fun i j hij hj=>by
  show sm n (fun k=>gsB n BV i k*gsB n BV j k)=0
  have:=t9 n BV j i hij
  rw [jb] at this;exact this)]
 exact m6 fun i _=>rfl
theorem xi (n:Nat) (BV:Nat→Nat→Rat):det n BV*det n BV≤pr n (fun i=>dot n (BV i) (BV i)):=by
 rw [AV]
 exact zh (fun i _=>qU _ _) (fun i _=>Bz _ _ _)
end Tor.Lin
end
section
namespace Tor
open Go Go.RowKit Go.Proofs
variable [Tor.Co.Kc]
def sk (v:List Int):VT:=slT (.agg 2) v.length (fun i=>aU (v.getD i 0))
attribute [local irreducible] J PJ aC one slT bL bE bw exT cj eP aT aH slV VT.le Ret bQ
attribute [local irreducible] aU
end Tor
end
section
namespace Tor
open Go Go.RowKit Go.Proofs
variable [Tor.Co.Kc]
def xj (a:List (List Int)):VT:=slT .one a.length (fun i=>sk (a.getD i []))
def AW (r c:Int) (a:List (List Int)):VT:=bE 3 [(0, .one,one (.int .i64 r)),(1, .one,one (.int .i64 c)),(2, .one,xj a)]
attribute [local irreducible] J PJ aC one slT bL bE bw exT cj eP aT aH slV VT.le Ret bQ
attribute [local irreducible] aU sk
end Tor
end
section
namespace Tor
open Go Go.RowKit Go.Proofs
variable [Tor.Co.Kc]
def e8 (v:List (Bool × List Nat)):VT:=slT (.agg 2) v.length (fun i=>jW (v.getD i (false, [])).1 (v.getD i (false, [])).2)
def lQ (x:Int):Bool × List Nat:=(decide (x<0),aQ x.natAbs)
theorem xk (v:List Int):VT.le (sk v) (e8 (v.map lQ)):=by
 unfold sk e8
 refine VT.le_trans (fL (ψ:=fun i=>jW ((v.map lQ).getD i (false, [])).1 ((v.map lQ).getD i (false, [])).2) (fun i hi => ?_)) (by rw [List.length_map]; exact VT.le_refl _)
 simp only [List.getD,List.getElem?_map,List.getElem?_eq_getElem hi,Option.map_some,Option.getD_some]
 exact wI _
theorem kS : ∀ {l:List Nat},fY l→0<l.length→l.getD (l.length - 1) 0≠0
 | [], _, h => absurd h U
 | [d], h, _ => h
 | _ :: d :: l, h, _ => kS (l := d :: l) h (by simp)
theorem sn (x:Int):fm (lQ x).1 (lQ x).2=true:=by
 unfold fm lQ
 simp only
 split
 ·rename_i h
  have e:=List.eq_nil_of_length_eq_zero h
  have:x.natAbs=0:=by rw [← bR x.natAbs,e]; rfl
  have : ¬ x<0:=by omega
  simp [this]
 ·rename_i h
  have:=kS (kA x.natAbs) X
  simpa using this
theorem ub {α:Type} {p:α→Bool} {v:List α} {d:α} {i:Nat} (h:(v.take i).all p=true) (hi:i<v.length) (he:p (v.getD i d)=true):(v.take (i+1)).all p=true:=by
 rw [List.take_add_one,List.all_append,h,List.getElem?_eq_getElem hi]
 simp only [List.getD,List.getElem?_eq_getElem hi,Option.getD_some] at he
 simp [he]
theorem so {α:Type} {p:α→Bool} {v:List α} {d:α} {i:Nat} (hi:i<v.length) (he:p (v.getD i d)=false):v.all p=false:=by
 simp only [List.getD,List.getElem?_eq_getElem hi,Option.getD_some] at he
 rw [List.all_eq_false]; exact ⟨_,List.getElem_mem hi,by simp [he]⟩
attribute [local irreducible] J PJ aC one slT bL bE bw exT cj eP aT aH slV VT.le Ret bQ
attribute [local irreducible] aU jW
end Tor
end
section
namespace Tor
open Go Go.RowKit Go.Proofs
variable [Tor.Co.Kc]
abbrev sp:=List (Bool × List Nat)
def d8 (a:List sp):VT:=slT .one a.length (fun i=>e8 (a.getD i []))
def kT (r c:Int) (a:List sp):VT:=bE 3 [(0, .one,one (.int .i64 r)),(1, .one,one (.int .i64 c)),(2, .one,d8 a)]
def jc (c:Int) (v:sp):Bool:=decide ((v.length:Int)=c) && v.all fun p=>fm p.1 p.2
def iz (r c:Int) (a:List sp):Bool:=decide (0≤r∧0≤c∧(a.length:Int)=r) && a.all (jc c)
attribute [local irreducible] J PJ aC one slT bL bE bw exT cj eP aT aH slV VT.le Ret bQ
attribute [local irreducible] aU jW e8
end Tor
end
section
namespace Tor
open Go Go.RowKit Go.Proofs
variable [Tor.Co.Kc]
def tab (r c:Nat) (F:Nat→Nat→Int):List (List Int):=(List.range r).map fun i=>(List.range c).map (F i)
@[simp] theorem tab_length (r c:Nat) (F:Nat→Nat→Int):(tab r c F).length=r:=by simp [tab]
theorem zi {r c i:Nat} (F:Nat→Nat→Int) (hi:i<r):(tab r c F).getD i []=(List.range c).map (F i):=by simp [tab,List.getD,hi]
theorem AX {c j:Nat} (f:Nat→Int) (hj:j<c):((List.range c).map f).getD j 0=f j:=by simp [List.getD,hj]
def ei (c:Nat) (f:Nat→Int):VT:=slT (.agg 2) c (fun j=>aU (f j))
theorem xl (c:Nat) (f:Nat→Int):VT.le (ei c f) (sk ((List.range c).map f)):=by
 unfold ei sk
 refine VT.le_trans (fL (ψ:=fun j=>aU (((List.range c).map f).getD j 0)) (fun j hj => ?_)) (jI (by simp))
 rw [AX f hj]; exact VT.le_refl _
def cr (r c:Nat) (F:Nat→Nat→Int):VT:=bE 3 [(0, .one,one (.int .i64 r)),(1, .one,one (.int .i64 c)),(2, .one,slT .one r (fun i=>ei c (F i)))]
theorem xm (r c:Nat) (F:Nat→Nat→Int):VT.le (cr r c F) (AW r c (tab r c F)):=by
 unfold cr AW xj
 refine fV (fun q hq => ?_)
 rcases List.mem_cons.1 hq with rfl | hq
 ·exact ⟨_,List.mem_cons_self,A⟩
 rcases List.mem_cons.1 hq with rfl | hq
 ·exact ⟨_,List.mem_cons_of_mem _ List.mem_cons_self,A⟩
 rcases List.mem_cons.1 hq with rfl | hq
 ·refine ⟨_,List.mem_cons_of_mem _ (List.mem_cons_of_mem _ List.mem_cons_self),VT.le_trans (fL (ψ:=fun i=>sk ((tab r c F).getD i [])) (fun i hi => ?_)) (jI (by simp))⟩
  rw [zi F hi]; exact xl _ _
 ·cases hq
theorem py {r c:Nat} {F G:Nat→Nat→Int} (h : ∀ i j,i<r→j<c→F i j=G i j):VT.le (cr r c F) (cr r c G):=by
 unfold cr
 refine fV (fun q hq => ?_)
 rcases List.mem_cons.1 hq with rfl | hq
 ·exact ⟨_,List.mem_cons_self,A⟩
 rcases List.mem_cons.1 hq with rfl | hq
 ·exact ⟨_,List.mem_cons_of_mem _ List.mem_cons_self,A⟩
 rcases List.mem_cons.1 hq with rfl | hq
 ·refine ⟨_,List.mem_cons_of_mem _ (List.mem_cons_of_mem _ List.mem_cons_self),fL fun i hi=>fL fun j hj=>jI (by rw [h i j hi hj])⟩
 ·cases hq
theorem qV:VT.le (one (.agg #[.bool false, .slice none 0 0])) (aU 0):=by
 intro v h e
 have e:v = .agg #[.bool false, .slice none 0 0]:=e
 subst e
 refine ⟨_,rfl,rfl,by simp [Value.oneCell'],fun q hq => ?_⟩
 rcases List.mem_cons.1 hq with rfl | hq
 ·exact ⟨.bool false,rfl,rfl⟩
 ·rcases List.mem_cons.1 hq with rfl | hq
  ·exact ⟨.slice none 0 0,rfl,⟨none,0,rfl,Nat.le_refl _,by decide,fun i hi=>absurd hi (Nat.not_lt_zero _)⟩⟩
  ·cases hq
theorem lF {sv:Option Nat} {T:TypeId} {L:Lay} {cap n:Nat} {φ:Nat→VT} {g:RH} {h:Hp} (hp:(aH sv T L cap n φ).p g h) (he:sv=none):n=0:=by
 obtain ⟨h1,h2,h3,_⟩:=hp;have:=h3 he;omega
theorem m7 {bs:List Nat} {i:Nat} (h:i<bs.length):bs[i]? = some (bs.getD i 0):=by simp [List.getD,h]
def gT (sv:Option Nat) (cap r c:Nat) (bs:List Nat):Own:=aH sv 39 .one cap r (fun q=>one (slV (some (bs.getD q 0)) c c))
def dQ (c:Nat) (bs:List Nat) (F:Nat→Nat→Int):Own:=cZ 28 (.agg 2) c bs (fun q k=>aU (F q k))
theorem ez {c:Nat} {bs:List Nat} {F G:Nat→Nat→Int} (h : ∀ i j,i<bs.length→j<c→F i j=G i j):Own.le (dQ c bs F) (dQ c bs G):=iU fun i j hi hj=>by rw [h i j hi hj]
abbrev BA (r:Nat) := {s:List Nat × Option Nat × Nat // s.1.length=r∧(s.2.1=none→r=0)}
def kU (r c:Nat) (s:BA r):VT:=bE 3 [(0, .one,one (.int .i64 r)),(1, .one,one (.int .i64 c)),(2, .one,one (slV s.1.2.1 r s.1.2.2))]
theorem eQ {r c:Nat} {sv:Option Nat} {cap:Nat} {bs:List Nat} {F:Nat→Nat→Int} {cs:bW} (hb:bs.length=r) (hc:(0,Lay.one,one (.int .i64 r))∈cs∧(1,Lay.one,one (.int .i64 c))∈cs∧(2,Lay.one,one (slV sv r cap))∈cs) :
  oL [gT sv cap r c bs,dQ c bs F] cs [(0, .one,one (.int .i64 r)),(1, .one,one (.int .i64 c)),(2, .one,slT .one r (fun i=>ei c (F i)))]:=by
 refine .cons hc.1 (Ent.refl _) (.cons hc.2.1 (Ent.refl _) (.cons hc.2.2 ?_ .nil))
 refine Ent.slE List.mem_cons_self fun q hq => ?_
 exact Ent.row (List.mem_cons_of_mem _ List.mem_cons_self) (m7 X)
attribute [local irreducible] J PJ aC one slT bL bE bw exT cj eP aT aH slV VT.le Ret bQ
attribute [local irreducible] cZ
theorem kV (r c:Nat) (hr:r≤1048576) (hc:c≤1048576):OkM Tryz.prog 35 [one (.int .i64 r),one (.int .i64 c)] (kU r c) (fun s => [gT s.1.2.1 s.1.2.2 r c s.1.1,dQ c s.1.1 (fun _ _=>0)]):=by
 refine OkM.enter Tryz.func35 Z Tryz.ntmps35 Z (fun w O => ?_)
 refine ae (ai ?_)
 refine bZ (T:=35) Z Z Z (fun b => ?_)
 refine Cf (aa (ae (ai (oJ (n:=0) Z Z Z Z Z ?_))))
 refine PartsK.nil (fun b => ?_)
 refine Cd Z (Cf (aa (ae (ae (ai (Cd Z (Cf (aa (aw ?_)))))))))
 rename_i bc
 refine iW (ConvM.rows0 (T:=28) (L := .agg 2) (c:=c) (φ:=fun _ _=>aU 0) _) ?_
 refine c6 (σ:=List Nat × Option Nat × Nat) (fun s => [(0,one (.int .i64 r)),(1,one (.int .i64 c)),(4,one (.pointer (some ⟨bc,0,none⟩))),(5,one (slV s.2.1 s.1.length s.2.2)),(6,one (.int .i64 s.1.length))])
  (fun s => [aH s.2.1 39 .one s.2.2 s.1.length (fun q=>one (slV (some (s.1.getD q 0)) c c)),aT bc 35 3 (dJ #[Value.int IntKind.i64 0,Value.int IntKind.i64 0,Value.slice none 0 0] [(0,Lay.one),(1,Lay.one),(2,Lay.one)]),dQ c s.1 (fun _ _=>0)])
  (fun s=>s.1.length≤r) (fun s=>r - s.1.length) ([],some b,0) (Nat.zero_le _) BY (.keep (bV (fun q hq=>by omega)) (SubM.refl _)) (fun s hk => ?_)
 obtain ⟨bs,sv0,cap0⟩:=s
 simp only at hk ⊢
 refine ae (ae (ai (Cc Z (Cc Z (Cb (bD Z Z) (Cf (aa ?_)))))))
 refine bv Z (fun hc => ?_) (fun hc => ?_) <;> simp at hc
 ·refine ay (aa (ae (aw (ai (Cc Z (Cc Z ?_))))))
  refine cA c c Z Z Z Z (Nat.le_refl _) Z Z X Z Z (fun bz => ?_)
  refine my Z Z Z Z ?_
  (refine dB 1 Z Z Z (leN Z) ?_ ?_ Z (ltN Z) (fun sv cap => ?_);omega;omega)
  refine Cd Z (Cf (aK (aa (ai (Cc Z ?_)))))
  (refine Cb (cz Z Z (aR ?_ ?_)) ?_;omega;omega)
  refine Cd Z (Cf (fx (ConvM.row (k:=2) Z) (cD (s:=(bs,sv0,cap0)) (bs ++ [bz],sv,cap) (by simp;omega) (by simp;omega) (.cons Z A (.cons Z A (.cons Z A (.cons Z (l8 (by simp)) (.cons Z (av (by simp)) .nil))))) ?_)))
  refine .keep (i7 (by simp) (fun q hq => ?_)) (.keep Ca (.keep (p7 fun i j hi hj => ?_) .nil))
  ·by_cases h:q<bs.length
   ·rw [if_pos h]; simp [List.getElem?_append_left h]
   ·have:q=bs.length:=by omega
    subst this;rw [if_neg h]; simp
  ·simp only
   split
   ·exact VT.le_refl _
   ·exact qV
 ·have hlen:bs.length=r:=by omega
  subst hlen
  refine kb (i:=0) (F:=sv0=none→bs.length=0) Z (fun g h hp he=>lF hp he) (fun hF => ?_)
  refine a8 (ax (ax (aL (aa (ae (ai (Cc Z (Cc Z (Cc Z ?_)))))))))
  refine stB Z Z Z (BuildK.cons Z Z Z (BuildK.cons Z Z Z (BuildK.cons Z Z Z (BuildK.nil (bX 1 Z Z Z Z (Cf (aa (aG ?_))))))))
  refine mz ⟨(bs,sv0,cap0),rfl,hF⟩ Tryz.results35 (.cellW 1 Z Z A) ?_
  exact .keep Ca (.drop (SubM.refl _))
end Tor
end
section
namespace Tor
open Go Go.RowKit Go.Proofs
variable [Tor.Co.Kc]
def jE (k:IntKind) (l:List Int):VT:=slT .one l.length (fun i=>one (.int k (l.getD i 0)))
theorem fA {sv:Option Nat} {r:Nat} (h:sv=none→r=0) (hr:0<r) : ∃ b,sv=some b:=by
 cases sv with
 | none => have := h Z; omega
 | some b => exact ⟨b, rfl⟩
theorem nB (i c j:Nat):((i:Int)*c+j).toNat=i*c+j:=by
 have:((i:Int)*c+j)=((i*c+j:Nat):Int):=by simp
 rw [this,Int.toNat_natCast]
def fQ (f:Nat→Int) (c i j:Nat):Nat→Nat→Int:=fun q k=>if q<i∨(q=i∧k<j) then f (q*c+k) else 0
theorem xn {l:List Int} {i:Nat} {p:Int→Prop} (h : ∀ x∈l,p x) (h0:p 0):p (l.getD i 0):=by
 rcases Nat.lt_or_ge i l.length with hi | hi
 ·simp only [List.getD,List.getElem?_eq_getElem hi,Option.getD_some]; exact h _ (List.getElem_mem hi)
 ·simp only [List.getD,List.getElem?_eq_none hi,Option.getD_none]; exact h0
theorem qW {T:TypeId} {c:Nat} {bs:List Nat} {f:Nat→Int} {i j:Nat} (x:Int) (hx:x=f (i*c+j)) :
  Own.le (cZ T (.agg 2) c bs (iV (fun q k=>aU (fQ f c i j q k)) i j (aU x))) (cZ T (.agg 2) c bs (fun q k=>aU (fQ f c i (j+1) q k))):=by
 subst hx
 refine iU fun q k hq hk => ?_
 unfold iV fQ
 by_cases h:q=i∧k=j
 ·obtain ⟨rfl,rfl⟩:=h;simp
 ·rw [if_neg h]
  have e:(q<i∨q=i∧k<j+1)↔(q<i∨q=i∧k<j):=by omega
  simp only [e]
attribute [local irreducible] J PJ aC one slT bL bE bw exT cj eP aT aH slV VT.le Ret bQ
attribute [local irreducible] aU cZ
theorem xo (r c:Nat) (l:List Int) (hr0:r≤1048576) (hc0:c≤1048576) (hl : ∀ x∈l, -9223372036854775808≤x∧x≤9223372036854775807):Ok Tryz.prog 39 [one (.int .i64 r),one (.int .i64 c),jE .i64 l] (cr r c (fun i j=>l.getD (i*c+j) 0)):=by
 unfold jE
 refine Ok.enter Tryz.func39 Z Tryz.ntmps39 Z (fun w O => ?_)
 refine ae (ai ?_)
 refine bZ (T:=35) Z Z Z (fun b => ?_)
 refine Cf (aa (ae (ai (Cc Z (Cc Z ?_)))))
 refine gM (kV r c hr0 hc0) Z ⟨A,A,Cg⟩ Z Z (fun s => ?_)
 obtain ⟨⟨bs,sv1,cap1⟩,hlen,hsv⟩:=s
 simp only at hlen hsv
 unfold kU
 refine bZ (T:=35) Z Z Z (fun b => ?_)
 refine bX 0 Z Z Z Z (Cf (aa (ae (ae (ai (Cd Z (Cf (aa (aw ?_)))))))))
 rename_i b2
 refine c6 (σ:=Nat) (fun i => [(0,one (.int .i64 r)),(1,one (.int .i64 c)),(2,slT .one l.length (fun i=>one (.int .i64 (l.getD i 0)))),(6,one (.pointer (some ⟨b2,0,none⟩))),(7,one (.pointer (some ⟨b,0,none⟩))),(8,one (.int .i64 (i:Nat)))])
  (fun i => [aT b 35 3 [(0, .one,one (.int .i64 r)),(1, .one,one (.int .i64 c)),(2, .one,one (slV sv1 r cap1))],gT sv1 cap1 r c bs,dQ c bs (fQ (fun n=>l.getD n 0) c i 0),
   aT b2 35 3 (dJ #[Value.int IntKind.i64 0,Value.int IntKind.i64 0,Value.slice none 0 0] [(0,Lay.one),(1,Lay.one),(2,Lay.one)])])
  (fun i=>i≤r) (fun i=>r - i) 0 (Nat.zero_le _) BY (.keep Ca (.keep Ca (.keep (ez fun i j hi hj=>by simp [fQ]) (SubM.refl _)))) (fun i hi => ?_)
 refine ae (ae (ai (Cc Z (Cc Z (Cb (bD Z Z) (Cf (aa ?_)))))))
 refine bv Z (fun hc => ?_) (fun hc => ?_) <;> simp at hc
 ·have hir:i<r:=by omega
  obtain ⟨bo,rfl⟩:=fA hsv X
  refine ay (aa (ae (aw (ae (ai (Cd Z (Cf (aa (aw ?_)))))))))
  refine c6 (σ:=Nat) (fun j => [(0,one (.int .i64 r)),(1,one (.int .i64 c)),(2,slT .one l.length (fun i=>one (.int .i64 (l.getD i 0)))),(6,one (.pointer (some ⟨b2,0,none⟩))),(7,one (.pointer (some ⟨b,0,none⟩))),(8,one (.int .i64 (i:Nat))),(9,one (.int .i64 (j:Nat)))])
   (fun j => [aT b 35 3 [(0, .one,one (.int .i64 r)),(1, .one,one (.int .i64 c)),(2, .one,one (slV (some bo) r cap1))],gT (some bo) cap1 r c bs,dQ c bs (fQ (fun n=>l.getD n 0) c i j),
   aT b2 35 3 (dJ #[Value.int IntKind.i64 0,Value.int IntKind.i64 0,Value.slice none 0 0] [(0,Lay.one),(1,Lay.one),(2,Lay.one)])])
   (fun j=>j≤c) (fun j=>c - j) 0 (Nat.zero_le _) BY (SubM.refl _) (fun j hj => ?_)
  have hm:i*c≤1048576*1048576:=Nat.mul_le_mul X hc0
  have hm2:(i:Int)*c≤1099511627776:=by omega
  have hm3:0≤(i:Int)*c:=by have:=Nat.zero_le (i*c);omega
  refine ae (ae ?_)
  refine eW (σ:=Unit) (fun _ => [(0,one (.int .i64 r)),(1,one (.int .i64 c)),(2,slT .one l.length (fun i=>one (.int .i64 (l.getD i 0)))),(6,one (.pointer (some ⟨b2,0,none⟩))),(7,one (.pointer (some ⟨b,0,none⟩))),(8,one (.int .i64 (i:Nat))),(9,one (.int .i64 (j:Nat))),(30,one (.bool (decide (j<c∧i*c+j<l.length))))])
   (fun _ => [aT b 35 3 [(0, .one,one (.int .i64 r)),(1, .one,one (.int .i64 c)),(2, .one,one (slV (some bo) r cap1))],gT (some bo) cap1 r c bs,dQ c bs (fQ (fun n=>l.getD n 0) c i j),
   aT b2 35 3 (dJ #[Value.int IntKind.i64 0,Value.int IntKind.i64 0,Value.slice none 0 0] [(0,Lay.one),(1,Lay.one),(2,Lay.one)])]) (fun _=>True) ?_ (fun _ _ => ?_)
  ·refine ai (Cc Z (Cc Z (Cb (bD Z Z) (Cc Z ?_))))
   refine mq (t:=21) Z (fun b h1 => ?_)
   rw [h1]
   cases b
   ·simp at h1
    refine sg0 Z Z Z Z (sg0 Z Z Z Z (sg0 Z Z Z Z (sg0 Z Z Z Z (sg0 Z Z Z Z (sg0 Z Z Z Z (sg0 Z Z Z Z (sg0 Z Z Z Z (Cb (bT Z Z) (Cf ?_)))))))))
    refine cE () trivial (.cons Z A (.cons Z A (.cons Z A (.cons Z A (.cons Z A (.cons Z A (.cons Z A (.cons Z (av ?_) .nil)))))))) (SubM.refl _)
    congr 1;symm;rw [decide_eq_false_iff_not]; omega
   ·simp at h1
    refine Ce (ab Z) (Ce (ab Z) ?_)
    (refine Ce (mj Z Z (aR ?_ ?_)) ?_;omega;omega)
    refine Ce (ab Z) ?_
    (refine Ce (cz Z Z (aR ?_ ?_)) ?_;omega;omega)
    refine Ce (ab Z) (Ce (a9 Z) (Ce (bD Z Z) (Cb (bh Z Z) (Cf ?_))))
    refine cE () trivial (.cons Z A (.cons Z A (.cons Z A (.cons Z A (.cons Z A (.cons Z A (.cons Z A (.cons Z (av ?_) .nil)))))))) (SubM.refl _)
    congr 1;rw [decide_eq_decide]
    have:((i*c:Nat):Int)=(i:Int)*c:=by simp
    omega
  ·refine aa ?_
   refine bv Z (fun hc2 => ?_) (fun hc2 => ?_) <;> simp only [decide_eq_true_eq,decide_eq_false_iff_not] at hc2
   ·have hm4:((i*c:Nat):Int)=(i:Int)*c:=by simp
    refine ay (aa (ae (aw (bG 16 bH Y U (Cb (aj Z) (Cb (am 0 Z Z Z) (Cc Z ?_)))))))
    (refine Cb (ar Z Z ?_) ?_;omega)
    (refine Cb (bM 1 Z Z ?_) ?_;omega)
    refine Cc Z (Cc Z (Cc Z (Cc Z ?_)))
    (refine Cb (mj Z Z (aR ?_ ?_)) ?_;omega;omega)
    refine Cc Z ?_
    (refine Cb (cz Z Z (aR ?_ ?_)) ?_;omega;omega)
    (refine Cb (aI Z Z ?_) ?_;omega)
    refine Cb (aY Z) ?_
    have hv:=xn (i:=((i:Int)*c+j).toNat) hl U
    refine Cb (ao (fN _ hv.1 hv.2) Z ⟨A,Cg⟩) ?_
    (refine Cb (ar Z Z ?_) ?_;omega)
    refine Cf ?_
    (refine fD 2 Z Z Z (m7 ?_) ?_ Z ?_;omega;omega)
    refine Cf (aK (aa (ai (Cc Z ?_))))
    (refine Cb (cz Z Z (aR ?_ ?_)) ?_;omega;omega)
    refine Cd Z (Cf ?_)
    refine cD (s:=j) (j+1) (show _ from by omega) X BY (.keep Ca (.keep Ca (.keep (qW _ (by rw [nB])) (SubM.refl _))))
   ·refine a8 (ax (ax (aL (aK (aa (ai (Cc Z ?_)))))))
    (refine Cb (cz Z Z (aR ?_ ?_)) ?_;omega;omega)
    refine Cd Z (Cf ?_)
    refine cD (s:=i) (i+1) (show _ from by omega) X BY (.keep Ca (.keep Ca (.keep (ez fun q k hq hk => ?_) (SubM.refl _))))
    unfold fQ
    by_cases h:q<i∨(q=i∧k<j)
    ·rw [if_pos h,if_pos X]
    ·rw [if_neg h]
     by_cases h2:q=i
     ·subst h2;rw [if_pos X]
      have:l.length≤q*c+k:=by omega
      simp [List.getD,List.getElem?_eq_none this]
     ·rw [if_neg X]
 ·have hin:i=r:=by omega
  subst hin
  refine a8 (ax (ax (aL (aa (ae (ai (Cb (bI 0 Z Z) (bX 3 Z Z Z Z (Cf ?_)))))))))
  refine aa (aG ?_)
  have hperm : ∀ (x y z u:Own), [x,y,z,u].Perm ([y,z] ++ [x,u]):=fun x y z u=>(List.Perm.swap y x _).trans (List.Perm.cons y (List.Perm.swap z x _))
  refine fW [gT sv1 cap1 i c bs,dQ c bs (fQ (fun n=>l.getD n 0) c i 0)] (hperm _ _ _ _) (.keep (p8.refl _) (.keep (p8.box (eQ hlen ⟨by simp,by simp,by simp⟩)) .nil)) (uE.refl _) ?_
  refine aV Tryz.results39 (.cellW 1 Z Z ?_)
  exact py fun a b ha hb=>by simp [fQ,ha]
end Tor
end
section
namespace Tor
open Go Go.RowKit Go.Proofs
variable [Tor.Co.Kc]
theorem AY (x:Int) : -10<x.tmod 10∧x.tmod 10<10:=⟨by
 have:=Int.tmod_lt_of_pos (-x) (show (0:Int)<10 by decide)
 rw [Int.neg_tmod] at this;omega,Int.tmod_lt_of_pos x U⟩
def dig (l:List Int) (n:Nat):Int:=(l.getD n 0).tmod 10
attribute [local irreducible] J PJ aC one slT bL bE bw exT cj eP aT aH slV VT.le Ret bQ
attribute [local irreducible] aU cZ
theorem qX (r c:Nat) (l:List Int) (hr0:r≤16) (hc0:c≤16):OkM Tryz.prog 33 [one (.int .i64 r),one (.int .i64 c),jE .i8 l] (kU r c) (fun s => [gT s.1.2.1 s.1.2.2 r c s.1.1,dQ c s.1.1 (fun i j=>dig l (i*c+j))]):=by
 unfold jE
 refine OkM.enter Tryz.func33 Z Tryz.ntmps33 Z (fun w O => ?_)
 refine ae (ai ?_)
 refine bZ (T:=35) Z Z Z (fun b => ?_)
 refine Cf (aa (ae (ai (Cc Z (Cb (z9 Z Z) (Cb (vV Z Z) (Cc Z (Cb (z9 Z Z) (Cb (vV Z Z) ?_)))))))))
 refine gM (kV r c X X) Z ⟨av (by congr 1;omega),av (by congr 1;omega),Cg⟩ Z Z (fun s => ?_)
 obtain ⟨⟨bs,sv1,cap1⟩,hlen,hsv⟩:=s
 simp only at hlen hsv
 unfold kU
 refine bZ (T:=35) Z Z Z (fun b => ?_)
 refine bX 0 Z Z Z Z (Cf (aa (ae (ae (ai (Cd Z (Cf (aa (aw ?_)))))))))
 rename_i b2
 refine c6 (σ:=Nat) (fun i => [(2,slT .one l.length (fun i=>one (.int .i8 (l.getD i 0)))),(6,one (.pointer (some ⟨b2,0,none⟩))),(7,one (.pointer (some ⟨b,0,none⟩))),(8,one (.int .i64 (i:Nat)))])
  (fun i => [aT b 35 3 [(0, .one,one (.int .i64 r)),(1, .one,one (.int .i64 c)),(2, .one,one (slV sv1 r cap1))],gT sv1 cap1 r c bs,dQ c bs (fQ (dig l) c i 0),
   aT b2 35 3 (dJ #[Value.int IntKind.i64 0,Value.int IntKind.i64 0,Value.slice none 0 0] [(0,Lay.one),(1,Lay.one),(2,Lay.one)])])
  (fun i=>i≤r) (fun i=>r - i) 0 (Nat.zero_le _) BY (.keep Ca (.keep Ca (.keep (ez fun i j hi hj=>by simp [fQ]) (SubM.refl _)))) (fun i hi => ?_)
 refine ae (ae (ai (Cc Z (Cb (aj Z) (Cb (am 0 Z Z Z) (Cb (bD Z Z) (Cf (aa ?_))))))))
 refine bv Z (fun hc => ?_) (fun hc => ?_) <;> simp at hc
 ·have hir:i<r:=by omega
  obtain ⟨bo,rfl⟩:=fA hsv X
  refine ay (aa (ae (aw (ae (ai (Cd Z (Cf (aa (aw ?_)))))))))
  refine c6 (σ:=Nat) (fun j => [(2,slT .one l.length (fun i=>one (.int .i8 (l.getD i 0)))),(6,one (.pointer (some ⟨b2,0,none⟩))),(7,one (.pointer (some ⟨b,0,none⟩))),(8,one (.int .i64 (i:Nat))),(9,one (.int .i64 (j:Nat)))])
   (fun j => [aT b 35 3 [(0, .one,one (.int .i64 r)),(1, .one,one (.int .i64 c)),(2, .one,one (slV (some bo) r cap1))],gT (some bo) cap1 r c bs,dQ c bs (fQ (dig l) c i j),
   aT b2 35 3 (dJ #[Value.int IntKind.i64 0,Value.int IntKind.i64 0,Value.slice none 0 0] [(0,Lay.one),(1,Lay.one),(2,Lay.one)])])
   (fun j=>j≤c) (fun j=>c - j) 0 (Nat.zero_le _) BY (SubM.refl _) (fun j hj => ?_)
  have hm:i*c≤16*16:=Nat.mul_le_mul X hc0
  have hm2:(i:Int)*c≤256:=by omega
  have hm3:0≤(i:Int)*c:=by have:=Nat.zero_le (i*c);omega
  refine ae (ae ?_)
  refine eW (σ:=Unit) (fun _ => [(2,slT .one l.length (fun i=>one (.int .i8 (l.getD i 0)))),(6,one (.pointer (some ⟨b2,0,none⟩))),(7,one (.pointer (some ⟨b,0,none⟩))),(8,one (.int .i64 (i:Nat))),(9,one (.int .i64 (j:Nat))),(37,one (.bool (decide (j<c∧i*c+j<l.length))))])
   (fun _ => [aT b 35 3 [(0, .one,one (.int .i64 r)),(1, .one,one (.int .i64 c)),(2, .one,one (slV (some bo) r cap1))],gT (some bo) cap1 r c bs,dQ c bs (fQ (dig l) c i j),
   aT b2 35 3 (dJ #[Value.int IntKind.i64 0,Value.int IntKind.i64 0,Value.slice none 0 0] [(0,Lay.one),(1,Lay.one),(2,Lay.one)])]) (fun _=>True) ?_ (fun _ _ => ?_)
  ·refine ai (Cc Z (Cb (aj Z) (Cb (am 0 Z Z Z) (Cb (bD Z Z) (Cc Z ?_)))))
   refine mq (t:=27) Z (fun b h1 => ?_)
   rw [h1]
   cases b
   ·simp at h1
    refine sg0 Z Z Z Z (sg0 Z Z Z Z (sg0 Z Z Z Z (sg0 Z Z Z Z (sg0 Z Z Z Z (sg0 Z Z Z Z (sg0 Z Z Z Z (sg0 Z Z Z Z (sg0 Z Z Z Z (Cb (bT Z Z) ?_)))))))))
    refine Cf ?_
    refine cE () trivial (.cons Z A (.cons Z A (.cons Z A (.cons Z A (.cons Z A (.cons Z (av ?_) .nil)))))) (SubM.refl _)
    congr 1;symm;rw [decide_eq_false_iff_not]; omega
   ·simp at h1
    refine Ce (ab Z) (Ce (aj Z) (Ce (am 0 Z Z Z) ?_))
    (refine Ce (mj Z Z (aR ?_ ?_)) ?_;omega;omega)
    refine Ce (ab Z) ?_
    (refine Ce (cz Z Z (aR ?_ ?_)) ?_;omega;omega)
    refine Ce (ab Z) (Ce (a9 Z) (Ce (bD Z Z) (Cb (bh Z Z) (Cf ?_))))
    refine cE () trivial (.cons Z A (.cons Z A (.cons Z A (.cons Z A (.cons Z A (.cons Z (av ?_) .nil)))))) (SubM.refl _)
    congr 1;rw [decide_eq_decide]
    have:((i*c:Nat):Int)=(i:Int)*c:=by simp
    omega
  ·refine aa ?_
   refine bv Z (fun hc2 => ?_) (fun hc2 => ?_) <;> simp only [decide_eq_true_eq,decide_eq_false_iff_not] at hc2
   ·have hm4:((i*c:Nat):Int)=(i:Int)*c:=by simp
    refine ay (aa (ae (aw (bG 19 bH Y U (Cb (aj Z) (Cb (am 0 Z Z Z) (Cc Z ?_)))))))
    (refine Cb (ar Z Z ?_) ?_;omega)
    (refine Cb (bM 1 Z Z ?_) ?_;omega)
    refine Cc Z (Cc Z (Cc Z (Cb (aj Z) (Cb (am 0 Z Z Z) ?_))))
    (refine Cb (mj Z Z (aR ?_ ?_)) ?_;omega;omega)
    refine Cc Z ?_
    (refine Cb (cz Z Z (aR ?_ ?_)) ?_;omega;omega)
    (refine Cb (aI Z Z ?_) ?_;omega)
    refine Cb (aY Z) (Cb (z5 Z Z U Z) ?_)
    have hv:=AY (l.getD (i*c+j) 0)
    refine Cb (dc Z ?_ ?_) ?_; · omega
    ·omega
    refine Cb (ao (fN _ X X) Z ⟨A,Cg⟩) ?_
    (refine Cb (ar Z Z ?_) ?_;omega)
    refine Cf ?_
    (refine fD 2 Z Z Z (m7 ?_) ?_ Z ?_;omega;omega)
    refine Cf (aK (aa (ai (Cc Z ?_))))
    (refine Cb (cz Z Z (aR ?_ ?_)) ?_;omega;omega)
    refine Cd Z (Cf ?_)
    refine cD (s:=j) (j+1) (show _ from by omega) X BY (.keep Ca (.keep Ca (.keep (qW _ Z) (SubM.refl _))))
   ·refine a8 (ax (ax (aL (aK (aa (ai (Cc Z ?_)))))))
    (refine Cb (cz Z Z (aR ?_ ?_)) ?_;omega;omega)
    refine Cd Z (Cf ?_)
    refine cD (s:=i) (i+1) (show _ from by omega) X BY (.keep Ca (.keep Ca (.keep (ez fun q k hq hk => ?_) (SubM.refl _))))
    unfold fQ
    by_cases h:q<i∨(q=i∧k<j)
    ·rw [if_pos h,if_pos X]
    ·rw [if_neg h]
     by_cases h2:q=i
     ·subst h2;rw [if_pos X]
      have:l.length≤q*c+k:=by omega
      simp [dig,List.getD,List.getElem?_eq_none this]
     ·rw [if_neg X]
 ·have hin:i=r:=by omega
  subst hin
  refine a8 (ax (ax (aL (aa (ae (ai (Cb (bI 0 Z Z) (bX 3 Z Z Z Z (Cf ?_)))))))))
  refine aa (aG ?_)
  refine mz ⟨(bs,sv1,cap1),hlen,hsv⟩ Tryz.results33 (.cellW 3 Z Z ?_) ?_
  ·show VT.le _ (kU i c _)
   unfold kU
   exact VT.le_refl _
  ·refine .drop (.keep Ca (.keep (ez fun a b ha hb => ?_) (.drop .nil)))
   have:a<i:=by have:a<bs.length:=ha;omega
   simp [fQ,this]
theorem qY {r c:Nat} (F:Nat→Nat→Int) (s:BA r):Ent [gT s.1.2.1 s.1.2.2 r c s.1.1,dQ c s.1.1 F] (kU r c s) (cr r c F):=by
 unfold kU cr
 exact Ent.agg (eQ s.2.1 ⟨by simp,by simp,by simp⟩)
theorem sq (r c:Nat) (l:List Int) (hr0:r≤16) (hc0:c≤16):Ok Tryz.prog 33 [one (.int .i64 r),one (.int .i64 c),jE .i8 l] (cr r c (fun i j=>dig l (i*c+j))) :=
 (qX r c l hr0 hc0).ok fun s=>qY _ s
end Tor
end
section
namespace Tor
open Go Go.RowKit Go.Proofs
variable [Tor.Co.Kc]
instance {neg:Bool} {l:List Nat} : Flat (jW neg l) (.agg 2):=by unfold jW;infer_instance
theorem sr {neg:Bool} {l:List Nat} {v:Value} {h:Hp} (H:(jW neg l).p v h):l.length≤281474976710656:=by
 obtain ⟨c,_,_,_,h4⟩:=H
 obtain ⟨x,_,hp⟩:=h4 _ (List.mem_cons_of_mem _ List.mem_cons_self)
 exact fd hp
theorem nC {r c:Int} {a:List sp} {v:Value} {h:Hp} (H:(kT r c a).p v h):a.length≤2^48:=by
 obtain ⟨c,_,_,_,h4⟩:=H
 obtain ⟨x,_,hp⟩:=h4 _ (List.mem_cons_of_mem _ (List.mem_cons_of_mem _ List.mem_cons_self))
 exact fd hp
def m8 (r c:Nat) (F:Nat→Nat→Int):List sp:=(tab r c F).map (·.map lQ)
theorem xp (r c:Nat) (F:Nat→Nat→Int):VT.le (cr r c F) (kT r c (m8 r c F)):=by
 refine VT.le_trans (xm r c F) ?_
 unfold AW kT
 refine fV (fun q hq => ?_)
 rcases List.mem_cons.1 hq with rfl | hq
 ·exact ⟨_,List.mem_cons_self,A⟩
 rcases List.mem_cons.1 hq with rfl | hq
 ·exact ⟨_,List.mem_cons_of_mem _ List.mem_cons_self,A⟩
 rcases List.mem_cons.1 hq with rfl | hq
 ·refine ⟨_,List.mem_cons_of_mem _ (List.mem_cons_of_mem _ List.mem_cons_self),?_⟩
  unfold xj d8 m8
  refine VT.le_trans (fL (ψ:=fun i=>e8 (((tab r c F).map (·.map lQ)).getD i [])) (fun i hi => ?_)) (jI (by simp))
  refine VT.le_trans (xk _) (jI ?_)
  simp [List.getD,List.getElem?_eq_getElem hi]
 ·cases hq
theorem ss (r c:Nat) (F:Nat→Nat→Int):iz r c (m8 r c F)=true:=by
 unfold iz m8
 simp only [List.length_map,tab_length,Bool.and_eq_true,decide_eq_true_eq,List.all_map]
 refine ⟨⟨by omega,by omega,Cg⟩,?_⟩
 rw [List.all_eq_true]
 intro x hx
 simp only [tab,List.mem_map,List.mem_range] at hx
 obtain ⟨i,hi,rfl⟩:=hx
 simp only [jc,Function.comp,List.length_map,List.length_range,List.all_map,Bool.and_eq_true,decide_eq_true_eq]
 refine ⟨trivial,?_⟩
 rw [List.all_eq_true]
 intro y hy
 exact sn _
attribute [local irreducible] J PJ aC one slT bL bE bw exT cj eP aT aH slV VT.le Ret bQ
theorem xq (neg:Bool) (l:List Nat):Ok Tryz.prog 120 [jW neg l] (one (.bool (fm neg l))):=by
 refine Ok.enter Tryz.func120 Z Tryz.ntmps120 Z (fun w O => ?_)
 refine iR (t:=0) Z (fun _ _=>sr) (fun hl => ?_)
 unfold jW
 by_cases h0:l.length=0
 ·refine ae (ai ?_)
  refine bJ Z Z (ltN Z) (fun b => ?_)
  refine Cd Z (Cf (aa (ae (ae (ai (Cb (aj Z) (Cb (am 0 Z Z Z) (Cb (a9 Z) (Cd Z ?_)))))))))
  refine Cf (aa (ae (ai (Cc Z (Cb (dx Z Z) (Cf (aa ?_)))))))
  refine bv Z (fun hc => ?_) (fun hc => ?_) <;> simp only [decide_eq_true_eq,decide_eq_false_iff_not,ne_eq,Decidable.not_not] at hc
  ·omega
  ·refine ay (aa (ae (ai (Cb (aj Z) (Cb (am 0 Z Z Z) (Cb (c8 Z) (Cd Z (Cf (aa ?_)))))))))
   refine aG ?_
   exact aV Tryz.results120 (.tmp Z (av (by unfold fm;rw [if_pos h0])))
 ·refine ae (ai ?_)
  refine bJ Z Z (ltN Z) (fun b => ?_)
  refine Cd Z (Cf (aa (ae (ae (ai (Cb (aj Z) (Cb (am 0 Z Z Z) (Cb (a9 Z) (Cd Z ?_)))))))))
  refine Cf (aa (ae (ai (Cc Z (Cb (dx Z Z) (Cf (aa ?_)))))))
  refine bv Z (fun hc => ?_) (fun hc => ?_) <;> simp only [decide_eq_true_eq,decide_eq_false_iff_not,ne_eq,Decidable.not_not] at hc
  ·refine ae (ai (Cb (aj Z) (Cb (am 0 Z Z Z) (Cc Z ?_))))
   (refine Cb (ef Z Z (aR ?_ ?_)) ?_;omega;omega)
   (refine Cb (ej Z Z ?_ ?_) ?_;omega;omega)
   refine Cb (aY Z) (Cb (ek Z Z) (Cd Z (Cf (aa (aG (aJ ?_))))))
   refine aV Tryz.results120 (.tmp Z (av ?_))
   have e:(↑l.length - 1:Int).toNat=l.length - 1:=by omega
   unfold fm;rw [if_neg h0,e]; congr 1;rw [decide_eq_decide]; omega
  ·omega
attribute [local irreducible] aU jW
attribute [local irreducible] e8
theorem qZ (r c:Int) (a:List sp):Ok Tryz.prog 80 [kT r c a] (one (.bool (iz r c a))):=by
 refine Ok.enter Tryz.func80 Z Tryz.ntmps80 Z (fun w O => ?_)
 refine iR (t:=0) Z (fun _ _=>nC) (fun ha => ?_)
 unfold kT
 unfold d8
 refine ae (ai ?_)
 refine bJ Z Z (ltN Z) (fun b => ?_)
 refine Cd Z (Cf (aa (ae (ae (ai (Cb (aj Z) (Cb (am 0 Z Z Z) (Cb (bD Z Z) (Cc Z ?_)))))))))
 refine mq (t:=10) Z (fun bo hb => ?_)
 rw [hb]
 cases bo
 ·have e1:0≤r:=by simpa using hb
  refine Ce (aj Z) (Ce (am 0 Z Z Z) (Ce (bD Z Z) (Cb (bT Z Z) (Cc Z ?_))))
  refine mq (t:=15) Z (fun bo hb2 => ?_)
  rw [hb2]
  cases bo
  ·have e2:0≤c:=by simpa using hb2
   refine Ce (aj Z) (Ce (am 0 Z Z Z) (Ce (a9 Z) (Ce (aj Z) (Ce (am 0 Z Z Z) (Ce (ek Z Z) (Cb (bT Z Z) (Cf (aa ?_))))))))
   refine bv Z (fun hc => ?_) (fun hc => ?_) <;> simp only [decide_eq_true_eq,decide_eq_false_iff_not,ne_eq,Decidable.not_not] at hc
   ·refine ae (ai (Cd Z (Cf (aa (aG (aJ ?_))))))
    refine aV Tryz.results80 (.tmp Z (av ?_))
    simp [iz,hc]
   ·have e3:(a.length:Int)=r:=hc
    refine ay (aa (ae (ae (ai (Cb (aj Z) (Cb (am 0 Z Z Z) (Cb (a9 Z) (Cc Z (Cf ?_)))))))))
    refine aa (aw ?_)
    refine c6 (σ:=Nat) (fun i => [(1,one (.pointer (some ⟨b,0,none⟩))),(24,d8 a),(25,one (.int .i64 a.length)),(26,one (.int .i64 (i:Nat)))])
     (fun _ => [aT b 35 3 [(0, .one,one (.int .i64 r)),(1, .one,one (.int .i64 c)),(2, .one,d8 a)]])
     (fun i=>i≤a.length∧(a.take i).all (jc c)=true) (fun i=>a.length - i) 0 ⟨Nat.zero_le _,rfl⟩ BY (SubM.refl _) (fun i ⟨hi,ht⟩ => ?_)
    unfold d8
    refine ae (ai (Cb (bD Z Z) (Cf (aa (ae ?_)))))
    refine bv Z (fun hc => ?_) (fun hc => ?_) <;> simp at hc
    ·refine ay (aa (ae (aw (ae (ai ?_)))))
     (refine Cb (aI Z Z ?_) ?_;omega)
     refine Cb (aY Z) (Cd Z (Cf (aa (ae (ae (ai (Cc Z ?_)))))))
     unfold e8
     refine Cb (a9 Z) (Cb (aj Z) (Cb (am 0 Z Z Z) (Cb (ek Z Z) (Cf (aa ?_)))))
     refine bv Z (fun hc2 => ?_) (fun hc2 => ?_) <;> simp only [decide_eq_true_eq,decide_eq_false_iff_not,ne_eq,Decidable.not_not] at hc2
     ·refine ae (ai (Cd Z (Cf (aa (aG (aJ (bp (aJ (aJ ?_)))))))))
      refine bp (aJ ?_)
      refine aV Tryz.results80 (.tmp Z (av ?_))
      have:=so (p:=jc c) (d := []) hc (by simp only [jc,Bool.and_eq_false_iff]; left;simpa using hc2)
      simp [iz,this]
     ·refine iR (t:=29) Z (fun _ _=>fd) (fun hlb => ?_)
      refine ay (aa (ae (ai (Cc Z (Cb (a9 Z) (Cc Z (Cf (aa (aw ?_)))))))))
      refine c6 (σ:=Nat) (fun j => [(1,one (.pointer (some ⟨b,0,none⟩))),(24,d8 a),(25,one (.int .i64 a.length)),(26,one (.int .i64 (i:Nat))),(35,e8 (a.getD i [])),(36,one (.int .i64 (a.getD i []).length)),(37,one (.int .i64 (j:Nat)))])
       (fun _ => [aT b 35 3 [(0, .one,one (.int .i64 r)),(1, .one,one (.int .i64 c)),(2, .one,d8 a)]])
       (fun j=>j≤(a.getD i []).length∧((a.getD i []).take j).all (fun p=>fm p.1 p.2)=true) (fun j=>(a.getD i []).length - j) 0 ⟨Nat.zero_le _,rfl⟩ (by unfold d8 e8;repeat (first | exact dO.nil | refine dO.cons Z A ?_ | (refine dO.cons Z (av ?_) ?_;(congr 1;first | omega | (simp;omega) | simp)))) (by unfold d8 e8;exact SubM.refl _) (fun j ⟨hj,hu⟩ => ?_)
      unfold d8 e8
      refine ae (ai (Cb (bD Z Z) (Cf (aa (ae ?_)))))
      refine bv Z (fun hc3 => ?_) (fun hc3 => ?_) <;> simp only [decide_eq_true_eq,decide_eq_false_iff_not,Int.ofNat_lt] at hc3
      ·refine ay (aa (ae (aw (ae (ai ?_)))))
       (refine Cb (aI Z Z ?_) ?_;omega)
       refine Cb (aY Z) ?_
       refine aN (T:=28) Z (ltN Z) (fun b => ?_)
       refine az 0 Z Z Z Z Z (leN Z) Z (Cf (aa (ae (ai (Cb (am 0 Z Z Z) ?_)))))
       refine Cb (ao (xq ((a.getD i []).getD j (false, [])).1 ((a.getD i []).getD j (false, [])).2) Z ⟨A,Cg⟩) ?_
       refine Cb (c8 Z) (Cf (aa ?_))
       refine bv Z (fun hc4 => ?_) (fun hc4 => ?_)
       ·refine ae (ai (Cd Z (Cf (aa (aG (bp (aJ (aJ (bp ?_)))))))))
        refine bp (aJ (aJ (bp (aJ ?_))))
        refine aV Tryz.results80 (.tmp Z (av ?_))
        have h1:=so (p:=fun p:Bool × List Nat=>fm p.1 p.2) (d:=(false, [])) (v:=a.getD i []) hc3 (by simpa using hc4)
        have h2:=so (p:=jc c) (d := []) hc (by simp only [jc,Bool.and_eq_false_iff]; right;exact h1)
        simp [iz,h2]
       ·refine ay (aK (aa (ai ?_)))
        (refine Cb (cz Z Z (aR ?_ ?_)) ?_;omega;omega)
        refine Cc Z (Cf ?_)
        exact cD (s:=j) (j+1) ⟨by omega,ub (d:=(false, [])) hu hc3 (by simpa using hc4)⟩ (by show (a.getD i []).length - (j+1)<(a.getD i []).length - j;omega) BY (.drop (SubM.refl _))
      ·refine a8 (ax (ax (aL (aK (aa (ai ?_))))))
       (refine Cb (cz Z Z (aR ?_ ?_)) ?_;omega;omega)
       refine Cc Z (Cf ?_)
       rw [List.take_of_length_le X] at hu
       exact cD (s:=i) (i+1) ⟨by omega,ub (d := []) ht hc (by simp only [jc,Bool.and_eq_true]; exact ⟨by simpa using hc2,hu⟩)⟩ (by show a.length - (i+1)<a.length - i;omega) BY (SubM.refl _)
    ·refine a8 (ax (ax (aL (aa (ae (ai (Cd Z (Cf (aa ?_)))))))))
     refine aG ?_
     refine aV Tryz.results80 (.tmp Z (av ?_))
     rw [List.take_of_length_le X] at ht
     simp [iz,ht,e1,e2,e3]
  ·have e2 : ¬ (0≤r∧0≤c):=by simp at hb2;omega
   refine sg0 Z Z Z Z (sg0 Z Z Z Z (sg0 Z Z Z Z (sg0 Z Z Z Z (sg0 Z Z Z Z (sg0 Z Z Z Z (Cb (bh Z Z) (Cf (aa ?_))))))))
   refine bv Z (fun hc => ?_) (fun hc => ?_)
   ·refine ae (ai (Cd Z (Cf (aa (aG (aJ ?_))))))
    refine aV Tryz.results80 (.tmp Z (av ?_))
    simp only [iz]; rw [decide_eq_false X]; rfl
   ·cases hc
 ·have e1 : ¬ 0≤r:=by simpa using hb
  refine sg0 Z Z Z Z (sg0 Z Z Z Z (sg0 Z Z Z Z (Cb (bh Z Z) (Cc Z (sg0 Z Z Z Z (sg0 Z Z Z Z (sg0 Z Z Z Z (sg0 Z Z Z Z (sg0 Z Z Z Z ?_)))))))))
  refine sg0 Z Z Z Z (Cb (bh Z Z) (Cf (aa ?_)))
  refine bv Z (fun hc => ?_) (fun hc => ?_)
  ·refine ae (ai (Cd Z (Cf (aa (aG (aJ ?_))))))
   refine aV Tryz.results80 (.tmp Z (av ?_))
   simp [iz,e1]
  ·cases hc
end Tor
end
section
namespace Tor
open Go Go.RowKit Go.Proofs
variable [Tor.Co.Kc]
instance {r c:Nat} {F:Nat→Nat→Int} : Flat (cr r c F) (.agg 3):=by unfold cr;infer_instance
attribute [local irreducible] J PJ aC one slT bL bE bw exT cj eP aT aH slV VT.le Ret bQ
attribute [local irreducible] aU cr
theorem kW (r c:Nat) (F:Nat→Nat→Int):Ok Tryz.prog 80 [cr r c F] (one (.bool true)):=by
 have h:=qZ r c (m8 r c F)
 rw [ss] at h
 exact h.le ⟨xp r c F,Cg⟩ A
end Tor
end
section
namespace Tor
open Go Go.RowKit Go.Proofs
variable [Tor.Co.Kc]
attribute [local irreducible] J PJ aC one slT bL bE bw exT cj eP aT aH slV VT.le Ret bQ
theorem xr (n:Nat) (φ ψ χ:Nat→VT) [hF : ∀ i,Flat (χ i) (.agg 2)] (cl:VT) (hn:n≤1048576) (hC : ∀ i,i<n→fE Tryz.prog cl [φ i, ψ i] (χ i)):Ok Tryz.prog 146 [slT (.agg 2) n φ,slT (.agg 2) n ψ,cl] (slT (.agg 2) n χ):=by
 refine Ok.enter Tryz.func146 Z Tryz.ntmps146 Z (fun w O => ?_)
 refine ae (ai (Cd Z (Cf (aa (ae (ai (Cc Z (Cb (a9 Z) ?_))))))))
 refine cA n n Z Z Z Z (Nat.le_refl _) Z Z X Z Z (fun bz => ?_)
 refine Cd Z (Cf (aa (ae (ae (ai (Cc Z (Cb (iP Z) (Cc Z (Cf ?_)))))))))
 refine aa (aw ?_)
 refine c6 (σ:=Nat) (fun i => [(0,slT (.agg 2) n φ),(1,slT (.agg 2) n ψ),(2,cl),(7,one (slV (some bz) n n)),(13,one (.int .i64 n)),(14,one (.int .i64 (i:Nat)))])
  (fun i => [aH (some bz) 28 (.agg 2) n n (fun q=>if q<i then χ q else bQ)]) (fun i=>i≤n) (fun i=>n - i) 0 (Nat.zero_le _) BY (.keep (kn fun q hq=>by rw [if_neg X]; exact o5 _) .nil) (fun i hi => ?_)
 refine ae (ai (Cb (bD Z Z) (Cf (aa (ae ?_)))))
 refine bv Z (fun hc => ?_) (fun hc => ?_) <;> simp only [decide_eq_true_eq,decide_eq_false_iff_not,ne_eq,Decidable.not_not] at hc
 ·refine ay (aa (ae (aw (ae (ai (Cc Z (Cd Z (Cf (aa ?_)))))))))
  refine bG 13 bH Y U (Cc Z (Cc Z (Cc Z (Cc Z (Cc Z ?_)))))
  (refine Cb (aI Z Z ?_) ?_;omega)
  refine Cb (aY Z) (Cc Z (Cc Z ?_))
  (refine Cb (aI Z Z ?_) ?_;omega)
  refine Cb (aY Z) ?_
  refine Cb (lZ (hC i X) Z Z ⟨A,A,Cg⟩) ?_
  (refine Cb (ar Z Z ?_) ?_;omega)
  refine Cf ?_
  (refine au 0 Z Z Z ?_ Z ?_;omega)
  refine Cf (aK (aa (ai ?_)))
  (refine Cb (cz Z Z (aR ?_ ?_)) ?_;omega;omega)
  refine Cc Z (Cf ?_)
  refine cD (s:=i) (i+1) (show _ from by omega) (by show n - (i+1)<n - i;omega) BY (.keep (bV fun q hq => ?_) .nil)
  unfold upd
  by_cases h:q=i
  ·subst h;rw [if_pos Z,if_pos X]
  ·rw [if_neg h]
   have e:q<i+1↔q<i:=by omega
   simp only [e]
 ·have hk:i=n:=by omega
  subst hk
  refine a8 (ax (ax (aL (aa (ae (ai (Cc Z (Cd Z (Cf ?_)))))))))
  refine aa (aG (dh (t:=6) (i:=0) Z Z ?_))
  refine aV Tryz.results146 (.tmp Z (fL fun q hq => ?_))
  rw [if_pos hq]; exact VT.le_refl _
end Tor
end
section
namespace Tor
open Go Go.RowKit Go.Proofs
variable [Tor.Co.Kc]
def iL:Nat→(Nat→Int)→Int
 | 0, _ => 0
 | n + 1, f => iL n f + f n
theorem su {n B:Nat} {f:Nat→Int} (h : ∀ i,(f i).natAbs≤B):(iL n f).natAbs≤n*B:=by
 induction n with
 | zero => simp [iL]
 | succ n ih =>
  rw [iL,Nat.succ_mul]
  have:=h n
  omega
theorem xt {n k:Nat} {f:Nat→Int} (hn:n≤1048576) (h : ∀ i,(aQ (f i).natAbs).length≤k):(aQ (iL n f).natAbs).length≤k+1:=dm (by
 have h1:=su (n:=n) fun i=>Nat.le_of_lt (AD (h i))
 rw [Nat.pow_succ,Nat.mul_comm]
 exact Nat.lt_of_le_of_lt h1 (Nat.mul_lt_mul_of_pos_right X (Nat.pow_pos U)))
theorem sx {n:Nat} {f:Nat→Int} (hn:n≤1048576) (h : ∀ i,(aQ (f i).natAbs).length≤549755813888):cf (iL n f):=Nat.le_trans (xt hn h) U
attribute [local irreducible] J PJ aC one slT bL bE bw exT cj eP aT aH slV VT.le Ret bQ
attribute [local irreducible] aU
end Tor
end
section
namespace Tor
open Go Go.RowKit Go.Proofs
variable [Tor.Co.Kc]
def xu (ok:Bool) (e:Int) (r c:Nat) (F:Nat→Nat→Int):VT:=bw [cr (if ok then r else 0) (if ok then c else 0) F,one (.int .i64 (if ok then 0 else e))]
theorem q0 (F:Nat→Nat→Int):VT.le (bE 3 (dJ #[Value.int IntKind.i64 0,Value.int IntKind.i64 0,Value.slice none 0 0] [(0,Lay.one),(1,Lay.one),(2,Lay.one)])) (cr 0 0 F):=by
 unfold cr
 refine fV (fun q hq => ?_)
 rcases List.mem_cons.1 hq with rfl | hq
 ·exact ⟨_,List.mem_cons_self,A⟩
 rcases List.mem_cons.1 hq with rfl | hq
 ·exact ⟨_,List.mem_cons_of_mem _ List.mem_cons_self,A⟩
 rcases List.mem_cons.1 hq with rfl | hq
 ·exact ⟨_,List.mem_cons_of_mem _ (List.mem_cons_of_mem _ List.mem_cons_self),gL⟩
 ·cases hq
theorem ie:VT.le (bE 2 (dJ #[Value.bool false,Value.slice none 0 0] [(0,Lay.one),(1,Lay.one)])) (aU 0):=by
 unfold aU
 refine fV (fun q hq => ?_)
 rcases List.mem_cons.1 hq with rfl | hq
 ·exact ⟨_,List.mem_cons_self,A⟩
 rcases List.mem_cons.1 hq with rfl | hq
 ·exact ⟨_,List.mem_cons_of_mem _ List.mem_cons_self,gL⟩
 ·cases hq
attribute [local irreducible] J PJ aC one slT bL bE bw exT cj eP aT aH slV VT.le Ret bQ
attribute [local irreducible] aU
theorem zj (n m:Nat) (f g:Nat→Int) (hn:n≤1048576) (hm:m≤1048576) (hf : ∀ i,qB (f i)) (hg : ∀ i,qB (g i)) :
  Ok Tryz.prog 122 [ei n f,ei m g] (bw [aU (if n=m then iL n (fun k=>f k*g k) else 0),one (.int .i64 (if n=m then 0 else 50))]):=by
 unfold ei
 refine Ok.enter Tryz.func122 Z Tryz.ntmps122 Z (fun w O => ?_)
 refine ae (ai ?_)
 refine aN (T:=28) Z (ltN Z) (fun b => ?_)
 refine Cd Z (Cf (aa (ae (ae (ai (Cc Z (Cb (a9 Z) (Cc Z (Cb (a9 Z) ?_)))))))))
 refine Cb (ek Z Z) (Cf (aa ?_))
 refine bv Z (fun hc => ?_) (fun hc => ?_) <;> simp only [decide_eq_true_eq,decide_eq_false_iff_not,ne_eq,Decidable.not_not] at hc
 ·have hne : ¬ n=m:=by omega
  refine ae (ai (stB Z Z Z (BuildK.nil (az 0 Z Z Z Z Z (leN Z) Z (Cd Z (Cf (aa (aG (aJ ?_)))))))))
  refine db Tryz.results122 (.cellB 0 Z Z Z ?_) (.tmp Z (av ?_))
  ·rw [if_neg hne]; exact ie
  ·rw [if_neg hne]
 ·have he:n=m:=by omega
  subst he
  refine ay (aa (ae (ai ?_)))
  refine aN (T:=28) Z (ltN Z) (fun b => ?_)
  refine Cf (aa (ae (ae (ai (Cc Z (Cc Z ?_))))))
  rename_i b4
  refine Cb (ao (xr n (fun j=>aU (f j)) (fun j=>aU (g j)) (fun j=>aU (f j*g j)) (one (.func (.func 87) #[] #[])) hn (fun i hi=>fE.fn (f7 _ _ (mM (hf i)) (mM (hg i))))) Z ⟨A,A,A,Cg⟩) ?_
  refine Cb (a9 Z) (Cc Z (Cf (aa (aw ?_))))
  refine c6 (σ:=Nat) (fun i => [(4,one (.pointer (some ⟨b4,0,none⟩))),(6,one (.pointer (some ⟨b,0,none⟩))),(17,slT (.agg 2) n (fun j=>aU (f j*g j))),(18,one (.int .i64 n)),(19,one (.int .i64 (i:Nat)))])
   (fun i => [aT b 28 2 [(0, .agg 2,aU (iL i (fun k=>f k*g k)))],aT b4 28 2 [(0, .agg 2,one (.agg #[.bool false, .slice none 0 0]))]])
   (fun i=>i≤n) (fun i=>n - i) 0 (Nat.zero_le _) BY (.keep (yz fun q hq=>by rcases List.mem_cons.1 hq with rfl | hq;exact ⟨_,List.mem_cons_self,qV⟩;cases hq) (SubM.refl _)) (fun i hi => ?_)
  refine ae (ai (Cb (bD Z Z) (Cf (aa (ae ?_)))))
  refine bv Z (fun hc => ?_) (fun hc => ?_) <;> simp only [decide_eq_true_eq,decide_eq_false_iff_not,Int.ofNat_lt] at hc
  ·refine ay (aa (ae (aw (ae (ai ?_)))))
   (refine Cb (aI Z Z ?_) ?_;omega)
   refine Cb (aY Z) ?_
   refine aN (T:=28) Z (ltN Z) (fun b => ?_)
   refine az 0 Z Z Z Z Z (leN Z) Z (Cf (aa (ai (Cb (am 1 Z Z Z) (Cb (am 0 Z Z Z) ?_)))))
   refine Cb (ao (fZ (iL i (fun k=>f k*g k)) (f i*g i) (sx X (fun k=>qC (hf k) (hg k))) (uS (hf i) (hg i))) Z ⟨A,A,Cg⟩) ?_
   refine az 1 Z Z Z Z Z (leN Z) Z (Cf (aK (aa (ai ?_))))
   (refine Cb (cz Z Z (aR ?_ ?_)) ?_;omega;omega)
   refine Cc Z (Cf ?_)
   exact cD (s:=i) (i+1) (show _ from by omega) (by show n - (i+1)<n - i;omega) BY (.drop (.keep Ca (SubM.refl _)))
  ·have hin:i=n:=by omega
   subst hin
   refine a8 (ax (ax (aL (aa (ae (ai (Cb (am 0 Z Z Z) (az 1 Z Z Z Z Z (leN Z) Z (Cd Z ?_)))))))))
   refine Cf (aa (aG ?_))
   refine db Tryz.results122 (.cellB 1 Z Z Z ?_) (.tmp Z (av ?_))
   ·rw [if_pos Z]; exact VT.le_refl _
   ·rw [if_pos Z]
theorem AZ (n m:Nat) (f g:Nat→Int) (hn:n≤1048576) (hm:m≤1048576) (hf : ∀ i,gS (f i)) (hg : ∀ i,gS (g i)) :
  Ok Tryz.prog 122 [ei n f,ei m g] (bw [aU (if n=m then iL n (fun k=>f k*g k) else 0),one (.int .i64 (if n=m then 0 else 50))]) :=
 zj n m f g hn hm (fun i=>(hf i).L) (fun i=>(hg i).L)
end Tor
end
section
namespace Tor
open Go Go.RowKit Go.Proofs
variable [Tor.Co.Kc]
def outs (n:Nat) (l:List Int):Bool:=l.any fun x=>decide (x<0∨(n:Int)≤x)
theorem uc {n:Nat} {l:List Int} (h:outs n l=false) {i:Nat} (hi:i<l.length):0≤l.getD i 0∧l.getD i 0<n:=by
 have:=List.any_eq_false.1 h (l.getD i 0) (by simp only [List.getD,List.getElem?_eq_getElem hi,Option.getD_some]; exact List.getElem_mem hi)
 simp only [decide_eq_true_eq] at this;omega
def q7 (l m:List Int) (F:Nat→Nat→Int):Nat→Nat→Int:=fun i j=>F (l.getD i 0).toNat (m.getD j 0).toNat
def gF (F:Nat→Nat→Int) (i j:Nat):Nat→Nat→Int:=fun q k=>if q<i∨(q=i∧k<j) then F q k else 0
theorem od {T:TypeId} {c:Nat} {bs:List Nat} {F:Nat→Nat→Int} {i j:Nat} (x:Int) (hx:x=F i j) :
  Own.le (cZ T (.agg 2) c bs (iV (fun q k=>aU (gF F i j q k)) i j (aU x))) (cZ T (.agg 2) c bs (fun q k=>aU (gF F i (j+1) q k))):=by
 subst hx
 refine iU fun q k hq hk => ?_
 unfold iV gF
 by_cases h:q=i∧k=j
 ·obtain ⟨rfl,rfl⟩:=h;simp
 ·rw [if_neg h]
  have e:(q<i∨q=i∧k<j+1)↔(q<i∨q=i∧k<j):=by omega
  simp only [e]
theorem m9 {c:Nat} {bs:List Nat} {F:Nat→Nat→Int} {i:Nat} : Own.le (dQ c bs (gF F i c)) (dQ c bs (gF F (i+1) 0)):=by
 refine ez fun q k hq hk => ?_
 unfold gF
 have e:(q<i∨q=i∧k<c)↔(q<i+1∨q=i+1∧k<0):=by omega
 simp only [e]
attribute [local irreducible] J PJ aC one slT bL bE bw exT cj eP aT aH slV VT.le Ret bQ
attribute [local irreducible] aU cZ
end Tor
end
section
namespace Tor
open Go Go.RowKit Go.Proofs
variable [Tor.Co.Kc]
theorem zk {sv:Option Nat} {T:TypeId} {L:Lay} {cap n m:Nat} {φ ψ χ:Nat→VT} (hm:m=n+1) (h1 : ∀ q,q<n→φ q=χ q) (h2:ψ 0=χ n) :
  Own.le (aH sv T L cap (n+1) (fun q=>if q<n then φ q else ψ (q - n))) (aH sv T L cap m χ):=by
 subst hm
 refine bV fun q hq => ?_
 by_cases h:q<n
 ·rw [if_pos h]; exact h1 q h
 ·have:q=n:=by omega
  subst this
  rw [if_neg h,Nat.sub_self]; exact h2
theorem xv {sv:Option Nat} {T:TypeId} {L:Lay} {cap n m:Nat} {φ χ:Nat→VT} {ψ:VT} (hm:m=n+1) (h1 : ∀ q,q<n→φ q=χ q) (h2:ψ=χ n) :
  Own.le (aH sv T L cap (n+1) (fun q=>if q<n then φ q else ψ)) (aH sv T L cap m χ):=zk (ψ:=fun _=>ψ) hm h1 h2
theorem A0 {n:Nat} {l:List Int} (h : ∀ i,i<l.length→0≤l.getD i 0∧l.getD i 0<n):outs n l=false:=by
 rw [outs,List.any_eq_false]
 intro x hx
 obtain ⟨i,hi,rfl⟩:=List.getElem_of_mem hx
 have:=h i hi
 have e:l.getD i 0=l[i]:=by simp [List.getD,hi]
 rw [e] at this
 simp;omega
theorem Ae {n:Nat} {l:List Int} {i:Nat} (hi:i<l.length) (h:l.getD i 0<0∨(n:Int)≤l.getD i 0):outs n l=true:=by
 rw [outs,List.any_eq_true]
 have e:l.getD i 0=l[i]:=by simp [List.getD,hi]
 rw [e] at h
 exact ⟨l[i],List.getElem_mem hi,decide_eq_true h⟩
attribute [local irreducible] J PJ aC one slT bL bE bw exT cj eP aT aH slV VT.le Ret bQ
attribute [local irreducible] aU cZ
theorem na (l:List Int) (n:Nat) (hl:l.length≤1048576):Ok Tryz.prog 141 [jE .i64 l,one (.int .i64 n)] (one (.bool (!outs n l))):=by
 unfold jE
 refine Ok.enter Tryz.func141 Z Tryz.ntmps141 Z (fun w O => ?_)
 refine ae (ai (Cd Z (Cf (aa (ae (ae (ai (Cd Z (Cf ?_)))))))))
 refine aa (aw (cv (Γ' := [(0,_),(1,_),(4,_),(5,_)]) BW (SubM.refl _) ?_))
 refine bO (σ:=Nat) (Γk := [(0,_),(1,_)]) BW (fun i => [(5,one (.int .i64 (i:Nat)))]) (fun i M0=>M0) (fun i=>i≤l.length ∧ ∀ j,j<i→0≤l.getD j 0∧l.getD j 0<n) (fun i=>l.length - i) (0) (⟨Nat.zero_le _,fun j hj=>absurd hj (Nat.not_lt_zero _)⟩) BX (.nil) (fun i hi => ?_)
 refine cg (Γ' := [(5,_),(0,_),(1,_)]) (M' := []) Z Z (ae (ae (ai (Cc Z (Cc Z (Cb (a9 Z) (Cb (bD Z Z) (Cf (aa ?_)))))))))
 refine ku Z (fun hc => ?_) (fun hc => ?_)
 ·by_cases h1:l.getD i 0<0
  ·refine ay (aa (ae (aw (ae (ai (Cc Z (Cc Z ?_)))))))
   (refine Cb (aI Z Z ?_) ?_;omega)
   refine Cb (aY Z) (Cb (sT (by assumption) (bD Z Z)) (Cc Z (sg0 Z Z Z Z (sg0 Z Z Z Z (sg0 Z Z Z Z (sg0 Z Z Z Z (sg0 Z Z Z Z (sg0 Z Z Z Z (Cb (bh Z Z) ?_)))))))))
   refine Cf (aa (aM Z (ae (ai (Cd Z (Cf (aa (aG (bp ?_)))))))))
   refine aJ (aJ (bp (aJ ?_)))
   refine aV Tryz.results141 (.tmp Z (av (by rw [Ae (show i<l.length by omega) (.inl h1)]; rfl)))
  ·by_cases h2:(n:Int)≤l.getD i 0
   ·refine ay (aa (ae (aw (ae (ai (Cc Z (Cc Z ?_)))))))
    (refine Cb (aI Z Z ?_) ?_;omega)
    refine Cb (aY Z) (Cb (sF (by assumption) (bD Z Z)) (Cc Z (Ce (ab Z) (Ce (ab Z) ?_))))
    (refine Ce (aI Z Z ?_) ?_;omega)
    refine Ce (aY Z) (Ce (ab Z) (Ce (sT (by assumption) (eR Z Z)) (Cb (bT Z Z) (Cf (aa (aM Z (ae (ai (Cd Z ?_)))))))))
    refine Cf (aa (aG (bp (aJ (aJ (bp (aJ ?_)))))))
    refine aV Tryz.results141 (.tmp Z (av (by rw [Ae (show i<l.length by omega) (.inr h2)]; rfl)))
   ·refine ay (aa (ae (aw (ae (ai (Cc Z (Cc Z ?_)))))))
    (refine Cb (aI Z Z ?_) ?_;omega)
    refine Cb (aY Z) (Cb (sF (by assumption) (bD Z Z)) (Cc Z (Ce (ab Z) (Ce (ab Z) ?_))))
    (refine Ce (aI Z Z ?_) ?_;omega)
    refine Ce (aY Z) (Ce (ab Z) (Ce (sF (by assumption) (eR Z Z)) (Cb (bT Z Z) (Cf (aa (aD Z (ay (aK (aa ?_)))))))))
    refine ai (Cc Z ?_)
    (refine Cb (cz Z Z (aR ?_ ?_)) ?_;omega;omega)
    refine Cd Z (Cf ?_)
    refine aX (i+1) (⟨by omega,fun j hj=>(Nat.lt_succ_iff_lt_or_eq.1 hj).elim (hi.2 j) (fun e=>by subst e;omega)⟩) X BX (.nil)
 ·refine a8 (ax (ax (aL (aa (ae (ai (Cd Z (Cf (aa ?_)))))))))
  refine aG ?_
  refine aV Tryz.results141 (.tmp Z (av (by rw [A0 (fun j hj=>hi.2 j X)]; rfl)))
theorem vn (n:Nat) (hn:n≤1048576):Ok Tryz.prog 111 [one (.int .i64 n)] (slT .one n (fun i=>one (.int .i64 (i:Nat)))):=by
 refine Ok.enter Tryz.func111 Z Tryz.ntmps111 Z (fun w O => ?_)
 refine ae (ai (Cd Z (Cf (aa (ae (ai (oJ (n:=0) Z Z Z Z Z ?_)))))))
 refine PartsK.nil (fun bl => ?_)
 refine Cd Z (Cf (aa (ae (ae (ai (Cd Z (Cf (aa (aw ?_)))))))))
 refine cv (Γ' := [(0,_),(2,_),(3,_),(4,_)]) BW (SubM.refl _) ?_
 refine bO (σ:=Nat × Option Nat × Nat) (Γk := [(0,_),(2,_)]) BW (fun s => [(4,one (.int .i64 (s.1:Nat))),(3,one (slV s.2.1 s.1 s.2.2))]) (fun s M0=>(M0.set 0 (aH s.2.1 3 .one s.2.2 s.1 (fun q=>one (.int .i64 (q:Nat)))))) (fun s=>s.1≤n) (fun s=>n - s.1) ((0,some bl,0)) (Nat.zero_le _) BX (.keep (bV (fun q hq=>by omega)) (.nil)) (fun s hs => ?_)
 refine cg (Γ' := [(4,_),(3,_),(0,_),(2,_)]) (M' := [_]) Z Z ?_
 obtain ⟨i,sv,cap⟩:=s
 dsimp only at hs ⊢
 refine ae (ae (ai (Cc Z (Cc Z (Cb (bD Z Z) (Cf (aa ?_)))))))
 refine ku Z (fun hc => ?_) (fun hc => ?_)
 ·refine ay (aa (ae (aw (ai (Cc Z (Cc Z (my Z Z Z Z ?_)))))))
  (refine dB 0 Z Z Z (leN Z) ?_ ?_ Z (ltN Z) (fun sv14 cap14 => ?_);omega;omega)
  refine Cd Z (Cf (aK (aa (ai (Cc Z ?_)))))
  (refine Cb (cz Z Z (aR ?_ ?_)) ?_;omega;omega)
  refine Cd Z (Cf ?_)
  refine aX ((i+1,sv14,cap14)) X X BX (.keep (xv Z (fun _ _=>rfl) Z) (.nil))
 ·have e:i=n:=by omega
  subst e
  refine a8 (ax (ax (aL (aa (ae (ai (Cc Z (Cd Z (Cf ?_)))))))))
  refine aa (aG (dh (t:=2) (i:=0) Z Z ?_))
  refine aV Tryz.results111 (.tmp Z A)
end Tor
end
section
namespace Tor
open Go Go.RowKit Go.Proofs
variable [Tor.Co.Kc]
def gU (r c:Nat) (l:List Int):VT:=bE 3 [(0, .one,one (.int .u8 r)),(1, .one,one (.int .u8 c)),(2, .one,jE .i8 l)]
theorem BB (n:Nat):(n:Int).tmod 5=((n % 5:Nat):Int):=by
 rw [Int.tmod_eq_emod_of_nonneg X]; omega
attribute [local irreducible] J PJ aC one slT bL bE bw exT cj eP aT aH slV VT.le Ret bQ
attribute [local irreducible] aU cZ
end Tor
end
section
namespace Tor
open Go Go.RowKit Go.Proofs
variable [Tor.Co.Kc]
theorem vo {sv:Option Nat} {T:TypeId} {cap i:Nat} {h:Nat→Int} {x:Int} (hx:x=h i):Own.le (aH sv T (.agg 2) cap (i+1) (fun q=>if q<i then aU (h q) else aU x)) (aH sv T (.agg 2) cap (i+1) (fun q=>aU (h q))):=bV fun q hq=>by
 by_cases c:q<i
 ·rw [if_pos c]
 ·rw [if_neg c,hx,show q=i by omega]
attribute [local irreducible] J PJ aC one slT bL bE bw exT cj eP aT aH slV VT.le Ret bQ
attribute [local irreducible] aU cZ
end Tor
end
section
namespace Tor
def jd (j:Nat) (g:Nat→Int):Nat→Int:=fun q=>if q=j then g (j+1) else if q=j+1 then g j else g q
def vp:Nat→(Nat→Int)→Nat→Int
 | 0, g => g
 | j + 1, g => if g j < g (j + 1) then vp j (jd j g) else g
def eu:Nat→(Nat→Int)→Nat→Int
 | 0, g => g
 | i + 1, g => vp i (eu i g)
def lst (n:Nat) (g:Nat→Int):List Int:=(List.range n).map g
theorem gG (n:Nat) (g:Nat→Int):lst (n+1) g=lst n g ++ [g n]:=by unfold lst;rw [List.range_succ,List.map_append]; rfl
theorem vq {n:Nat} {g h:Nat→Int} (e : ∀ i,i<n→g i=h i):lst n g=lst n h:=List.map_congr_left fun i hi=>e i (List.mem_range.1 hi)
theorem oe {j:Nat} (g:Nat→Int) : ∀ {n:Nat},j+1<n→(lst n (jd j g)).Perm (lst n g)
 | 0, h => absurd h (Nat.not_lt_zero _)
 | n + 1, h => by
  by_cases e:n=j+1
  ·subst e
   rw [gG,gG,gG,gG,vq (g:=jd j g) (h:=g) (fun i hi=>by unfold jd;rw [if_neg X,if_neg X])]
   have e1:jd j g j=g (j+1):=by unfold jd;rw [if_pos Z]
   have e2:jd j g (j+1)=g j:=by unfold jd;rw [if_neg X,if_pos Z]
   rw [e1,e2,List.append_assoc,List.append_assoc]
   exact List.Perm.append_left _ (List.Perm.swap _ _ _)
  ·rw [gG,gG]
   have e1:jd j g n=g n:=by unfold jd;rw [if_neg X,if_neg X]
   rw [e1]
   exact (oe g X).append_right _
theorem og {n:Nat} : ∀ {j:Nat} {g:Nat→Int},j<n→(lst n (vp j g)).Perm (lst n g)
 | 0, g, _ => List.Perm.refl _
 | j + 1, g, h => by
  show (lst n (if g j<g (j+1) then vp j (jd j g) else g)).Perm _
  split
  ·exact (og X).trans (oe g h)
  ·exact List.Perm.refl _
theorem iA {n:Nat} (g:Nat→Int) : ∀ {i:Nat},i≤n→(lst n (eu i g)).Perm (lst n g)
 | 0, _ => List.Perm.refl _
 | i + 1, h => (og X).trans (iA g X)
def prZ:Nat→(Nat→Int)→Int
 | 0, _ => 1
 | n + 1, g => prZ n g * g n
def prL (l:List Int):Int:=l.foldr (fun x y=>x*y) 1
theorem zm (l:List Int) (x:Int):prL (l ++ [x])=prL l*x:=by
 induction l with
 | nil => show x * 1 = 1 * x; rw [Int.mul_one, Int.one_mul]
 | cons y l ih => show y * prL (l ++ [x]) = y * prL l * x; rw [ih, Int.mul_assoc]
theorem ud (n:Nat) (g:Nat→Int):prZ n g=prL (lst n g):=by
 induction n with
 | zero => rfl
 | succ n ih => rw [gG, zm, ← ih]; rfl
theorem xw {l m:List Int} (h:l.Perm m):prL l=prL m:=by
 induction h with
 | nil => rfl
 | cons x h ih => show x * prL _ = x * prL _; rw [ih]
 | swap x y l => show y * (x * prL l) = x * (y * prL l); rw [← Int.mul_assoc, ← Int.mul_assoc, Int.mul_comm y x]
 | trans h1 h2 ih1 ih2 => exact ih1.trans ih2
theorem xy (n:Nat) (g:Nat→Int):prZ n (eu n g)=prZ n g:=by
 rw [ud,ud]; exact xw (iA g (Nat.le_refl n))
end Tor
end
section
namespace Tor
open Go Go.RowKit Go.Proofs
variable [Tor.Co.Kc]
def eH (c:Nat) (f:Nat→Int):Nat:=(iL c (fun k=>f k*f k)).natAbs
theorem ng (x:Int):0≤x*x:=by
 rw [← Int.natAbs_mul_self (a:=x)]; exact Int.natCast_nonneg _
theorem pz (c:Nat) (f:Nat→Int):0≤iL c (fun k=>f k*f k):=by
 induction c with
 | zero => exact Int.le_refl _
 | succ c ih =>
  show 0≤iL c (fun k=>f k*f k)+f c*f c
  have:=ng (f c)
  omega
theorem ue (c:Nat) (f:Nat→Int):((eH c f:Nat):Int)=iL c (fun k=>f k*f k):=Int.natAbs_of_nonneg (pz c f)
def isq:Nat→Nat
 | 0 => 0
 | a + 1 => if (isq a + 1) * (isq a + 1) ≤ a + 1 then isq a + 1 else isq a
theorem je : ∀ a,isq a*isq a≤a∧a<(isq a+1)*(isq a+1)
 | 0 => ⟨by decide, by decide⟩
 | a + 1 => by
  obtain ⟨h1,h2⟩:=je a
  show (if (isq a+1)*(isq a+1)≤a+1 then isq a+1 else isq a)*(if (isq a+1)*(isq a+1)≤a+1 then isq a+1 else isq a)≤a+1∧a+1<((if (isq a+1)*(isq a+1)≤a+1 then isq a+1 else isq a)+1)*((if (isq a+1)*(isq a+1)≤a+1 then isq a+1 else isq a)+1)
  split
  ·rename_i h
   have:(isq a+1)*(isq a+1)<(isq a+1+1)*(isq a+1+1):=Nat.mul_lt_mul'' X X
   exact ⟨h,by omega⟩
  ·exact ⟨by omega,by omega⟩
def upN (a:Nat):Nat:=if isq a*isq a<a then isq a+1 else isq a
theorem sD (a:Nat):a≤upN a*upN a:=by
 have:=je a
 unfold upN;split <;> omega
theorem xz {a:Nat} (h:0<upN a):(upN a - 1)*(upN a - 1)<a:=by
 have h1:=je a
 unfold upN at *
 split
 ·rename_i h2;rw [Nat.add_sub_cancel]; exact h2
 ·rename_i h2
  rw [if_neg h2] at h
  have:(isq a - 1)*(isq a - 1)<isq a*isq a:=Nat.mul_lt_mul'' X X
  omega
theorem sE {a s:Nat} (h1:a≤s*s) (h2 : ∀ t,t<s→t*t<a):upN a=s:=by
 have h3:=sD a
 rcases Nat.lt_trichotomy (upN a) s with h | h | h
 ·have:=h2 _ h;omega
 ·exact h
 ·have h4:=xz (a:=a) X
  have h5:s*s≤(upN a - 1)*(upN a - 1):=Nat.mul_le_mul X X
  omega
theorem A2 {a b:Nat} (h:a≤b):upN a≤upN b:=by
 rcases Nat.lt_or_ge (upN b) (upN a) with h1 | h1
 ·have h2:=xz (a:=a) X
  have h3:=sD b
  have h5:upN b*upN b≤(upN a - 1)*(upN a - 1):=Nat.mul_le_mul X X
  omega
 ·exact h1
theorem A3 (a:Nat):isq a≤a:=by
 have h:=(je a).1
 rcases Nat.eq_zero_or_pos (isq a) with h0 | h0
 ·omega
 ·exact Nat.le_trans (Nat.le_mul_of_pos_right _ h0) h
theorem xA {x:Int} (h:x.natAbs≤2^810):cf x:=gz h (Nat.pow_lt_pow_right (a:=2) (m:=810) (n:=2048) U U)
theorem xB {a:Nat} (h:a<2^800):a≤2^810:=Nat.le_of_lt (Nat.lt_of_lt_of_le h (Nat.pow_le_pow_right (n:=2) (i:=800) (j:=810) U U))
def prN:Nat→(Nat→Nat)→Nat
 | 0, _ => 1
 | n + 1, g => prN n g * g n
theorem nh (n:Nat) (g:Nat→Nat):((prN n g:Nat):Int)=prZ n (fun i=>(g i:Int)):=by
 induction n with
 | zero => rfl
 | succ n ih => rw [prN, prZ, Int.natCast_mul, ih]
theorem pA {B n:Nat} {g:Nat→Nat} (h : ∀ i,i<n→g i≤B) : ∀ k,k≤n→prN k g≤B^k
 | 0, _ => Nat.le_refl _
 | k + 1, hk => by rw [prN, Nat.pow_succ]; exact Nat.mul_le_mul (pA h k X) (h k X)
theorem xC {B n:Nat} {g:Nat→Nat} (hB:1≤B) (hn:B^n<2^800) (h : ∀ i,i<n→g i≤B) {k:Nat} (hk:k≤n):prN k g<2^800 :=
 Nat.lt_of_le_of_lt (Nat.le_trans (pA h k hk) (Nat.pow_le_pow_right hB hk)) hn
theorem BM {B n:Nat} (hB:1≤B) (hn:B^n<2^800) (h:0<n):B<2^800:=by
 have:=Nat.pow_le_pow_right hB (show 1≤n from h)
 rw [Nat.pow_one] at this
 exact Nat.lt_of_le_of_lt this hn
theorem oh {x:Int} {n:Nat} (h:x=(n:Int)):VT.le (aU x) (aU (n:Int)):=h▸VT.le_refl _
attribute [local irreducible] J PJ aC one slT bL bE bw exT cj eP aT aH slV VT.le Ret bQ dz ed
attribute [local irreducible] aU
end Tor
end
section
namespace Tor
open Go Go.RowKit Go.Proofs
variable [Tor.Co.Kc]
def jf (r c:Nat) (F:Nat→Nat→Int) (t:Nat):Nat:=(eu r (fun i=>(eH c (F i):Int)) t).toNat
theorem q8 {r c:Nat} {F:Nat→Nat→Int} {t:Nat} (ht:t<r) : ∃ i,i<r∧eu r (fun i=>(eH c (F i):Int)) t=(eH c (F i):Int):=by
 have h1:eu r (fun i=>(eH c (F i):Int)) t∈lst r (eu r (fun i=>(eH c (F i):Int))):=by
  unfold lst;exact List.mem_map.2 ⟨t,List.mem_range.2 ht,rfl⟩
 have h2:=(iA (fun i=>(eH c (F i):Int)) (Nat.le_refl r)).mem_iff.1 h1
 unfold lst at h2
 obtain ⟨i,hi,e⟩:=List.mem_map.1 h2
 exact ⟨i,List.mem_range.1 hi,e.symm⟩
theorem oi {r c:Nat} {F:Nat→Nat→Int} {t:Nat} (ht:t<r):((jf r c F t:Nat):Int)=eu r (fun i=>(eH c (F i):Int)) t:=by
 obtain ⟨i,hi,e⟩:=q8 (c:=c) (F:=F) ht
 unfold jf;rw [e]; exact Int.toNat_of_nonneg (Int.natCast_nonneg _)
theorem zn {r c B:Nat} {F:Nat→Nat→Int} (hl : ∀ i,i<r→eH c (F i)≤B) {t:Nat} (ht:t<r):jf r c F t≤B:=by
 obtain ⟨i,hi,e⟩:=q8 (c:=c) (F:=F) ht
 have:=hl i hi
 unfold jf;rw [e]; omega
attribute [local irreducible] J PJ aC one slT bL bE bw exT cj eP aT aH slV VT.le Ret bQ dz ed
attribute [local irreducible] aU
end Tor
end
section
namespace Tor
variable [Tor.Co.Kc]
theorem sG (n:Nat) (f:Nat→Int):((iL n f:Int):Rat)=Lin.sm n (fun i=>(f i:Rat)):=by
 induction n with
 | zero => rfl
 | succ n ih => rw [iL, Lin.sm, Rat.intCast_add, ih]
theorem xD (n:Nat) (f:Nat→Int):Lin.dot n (fun k=>(f k:Rat)) (fun k=>(f k:Rat))=((eH n f:Int):Rat):=by
 rw [ue,sG]
 exact Lin.cw fun k _=>(Rat.intCast_mul _ _).symm
theorem zp (n:Nat) (f:Nat→Int):((prZ n f:Int):Rat)=Lin.pr n (fun i=>(f i:Rat)):=by
 induction n with
 | zero => rfl
 | succ n ih => rw [prZ, Lin.pr, Rat.intCast_mul, ih]
theorem zq (n:Nat) (F:Nat→Nat→Int):Lin.bY n F*Lin.bY n F≤((prN n (fun i=>eH n (F i)):Nat):Int):=by
 have h:=Lin.xi n (fun i j=>(F i j:Rat))
 rw [← Lin.dE, ← Rat.intCast_mul,Lin.m6 (g:=fun i=>(((eH n (F i):Nat):Int):Rat)) (fun i _=>xD n (F i)), ← zp, ← nh] at h
 exact Rat.intCast_le_intCast.1 h
theorem A4 {d P:Nat} (h:d*d≤P):d≤upN P:=by
 have h1:=sD P
 rcases Nat.lt_or_ge (upN P) d with h2 | h2
 ·have:=Nat.mul_lt_mul_of_lt_of_le h2 (Nat.le_of_lt h2) X
  omega
 ·exact h2
theorem A5 {x:Int} {P:Nat} (h:x*x≤(P:Int)):x.natAbs*x.natAbs≤P:=by
 rw [← Int.natAbs_mul]
 have:=ng x
 omega
theorem uf (n:Nat) (F:Nat→Nat→Int):(Lin.bY n F).natAbs≤upN (prN n (fun i=>eH n (F i))):=A4 (A5 (zq n F))
theorem q9 (r c:Nat) (F:Nat→Nat→Int):prN r (jf r c F)=prN r (fun i=>eH c (F i)):=by
 apply Int.ofNat.inj
 show ((prN r (jf r c F):Nat):Int)=((prN r (fun i=>eH c (F i)):Nat):Int)
 rw [nh,nh, ← xy r (fun i=>(eH c (F i):Int))]
 have : ∀ k,k≤r→prZ k (fun i=>(jf r c F i:Int))=prZ k (eu r (fun i=>(eH c (F i):Int))):=fun k=>by
  induction k with
  | zero => exact fun _ => rfl
  | succ k ih => intro h; rw [prZ, prZ, ih X, oi X]
 exact this r (Nat.le_refl r)
theorem xE {B c:Nat} {f:Nat→Int} (h : ∀ k,(f k).natAbs≤B):eH c f≤c*(B*B):=by
 unfold eH
 induction c with
 | zero => simp [iL]
 | succ c ih =>
  rw [iL,Nat.succ_mul]
  refine Nat.le_trans (Int.natAbs_add_le _ _) (Nat.add_le_add ih ?_)
  rw [Int.natAbs_mul]; exact Nat.mul_le_mul (h c) (h c)
end Tor
end
section
namespace Tor
open Go Go.RowKit
variable [Tor.Co.Kc]
theorem ol {α:Type} {n i:Nat} {S:Nat→Bool} (B:Nat→α) (hi:i<n) (hS:S i=false) :
  (((List.range n).filter fun q => !S q).map B).Perm (B i :: ((List.range n).filter fun q => !(if q=i then true else S q)).map B):=by
 have h1:i∈(List.range n).filter fun q => !S q:=List.mem_filter.2 ⟨List.mem_range.2 hi,by simp [hS]⟩
 refine ((List.perm_cons_erase h1).map B).trans ?_
 rw [List.map_cons]
 refine List.Perm.cons _ ?_
 have hnd:((List.range n).filter fun q => !S q).Nodup:=List.Pairwise.filter _ List.nodup_range
 rw [hnd.erase_eq_filter,List.filter_filter]
 refine List.Perm.of_eq (congrArg _ (List.filter_congr fun q _ => ?_))
 by_cases e:q=i <;> simp [e]
def rwO (T:TypeId) (L:Lay) (c n:Nat) (B C:Nat→Nat) (φ:Nat→Nat→VT) (S:Nat→Bool):Own where
 bl:=((List.range n).filter fun q => !S q).map B
 p g h := ∀ i,i<n→S i=false→(aH (some (B i)) T L (C i) c (φ i)).p g h
 loc:=fun he H hp i hi hS=>(aH (some (B i)) T L (C i) c (φ i)).loc (fun b' hb'=>he b' (by
  have:b'=B i:=by simpa [aH] using hb'
  rw [this]; exact List.mem_map.2 ⟨i,List.mem_filter.2 ⟨List.mem_range.2 hi,by simp [hS]⟩,rfl⟩)) H (hp i hi hS)
theorem j6 {T:TypeId} {L:Lay} {c n:Nat} {B C B' C':Nat→Nat} {φ ψ:Nat→Nat→VT} {S S':Nat→Bool} (hS : ∀ i,i<n→S i=S' i) (hB : ∀ i,i<n→S i=false→B i=B' i∧C i=C' i) (H : ∀ i j,i<n→S i=false→j<c→VT.le (φ i j) (ψ i j)):Own.le (rwO T L c n B C φ S) (rwO T L c n B' C' ψ S'):=by
 refine ⟨?_,fun g h hp i hi hs => ?_⟩
 ·show ((List.range n).filter fun q => !S q).map B=((List.range n).filter fun q => !S' q).map B'
  rw [List.filter_congr (q:=fun q => !S' q) (fun q hq=>by rw [hS q (List.mem_range.1 hq)])]
  refine List.map_congr_left fun q hq => ?_
  obtain ⟨h1,h2⟩:=List.mem_filter.1 hq
  have h1:=List.mem_range.1 h1
  exact (hB q h1 (by rw [hS q h1]; simpa using h2)).1
 ·have hs':S i=false:=by rw [hS i hi]; exact hs
  obtain ⟨e1,e2⟩:=hB i hi hs'
  rw [← e1, ← e2]
  exact (kn (fun q hq=>H i q hi hs' hq)).2 g h (hp i hi hs')
theorem xF {T:TypeId} {L:Lay} {c n:Nat} {B C:Nat→Nat} {φ:Nat→Nat→VT} {S:Nat→Bool} {M:Mem} (hS : ∀ i,i<n→S i=true):ConvM M (rwO T L c n B C φ S :: M):=by
 have e:((List.range n).filter fun q => !S q) = []:=List.filter_eq_nil_iff.2 fun q hq=>by simp [hS q (List.mem_range.1 hq)]
 refine ⟨?_,fun g h H o ho => ?_⟩
 ·show (aS M).Perm ((((List.range n).filter fun q => !S q).map B) ++ aS M)
  rw [e]; exact List.Perm.refl _
 ·rcases List.mem_cons.1 ho with rfl | ho
  ·intro i hi hs;rw [hS i hi] at hs;cases hs
  ·exact H o ho
theorem kX {T:TypeId} {L:Lay} {c n i:Nat} {B C:Nat→Nat} {φ:Nat→Nat→VT} {S:Nat→Bool} {M:Mem} (hi:i<n) (hS:S i=false) :
  ConvM (rwO T L c n B C φ S :: M) (aH (some (B i)) T L (C i) c (φ i) :: rwO T L c n B C φ (fun q=>if q=i then true else S q) :: M):=by
 refine ⟨?_,fun g h H o ho => ?_⟩
 ·show ((((List.range n).filter fun q => !S q).map B) ++ aS M).Perm (B i :: ((((List.range n).filter fun q => !(if q=i then true else S q)).map B) ++ aS M))
  exact (ol B hi hS).append_right _
 ·have h0:=H _ List.mem_cons_self
  rcases List.mem_cons.1 ho with rfl | ho
  ·exact h0 i hi hS
  ·rcases List.mem_cons.1 ho with rfl | ho
   ·intro q hq hs
    dsimp only at hs
    by_cases e:q=i
    ·rw [if_pos e] at hs;cases hs
    ·rw [if_neg e] at hs;exact h0 q hq hs
   ·exact H o (List.mem_cons_of_mem _ ho)
theorem kY {T:TypeId} {L:Lay} {c n i b cap:Nat} {B C:Nat→Nat} {φ:Nat→Nat→VT} {ψ:Nat→VT} {S:Nat→Bool} {M:Mem} (hi:i<n) (hS:S i=true) :
  ConvM (aH (some b) T L cap c ψ :: rwO T L c n B C φ S :: M) (rwO T L c n (fun q=>if q=i then b else B q) (fun q=>if q=i then cap else C q) (fun q=>if q=i then ψ else φ q) (fun q=>if q=i then false else S q) :: M):=by
 refine ⟨?_,fun g h H o ho => ?_⟩
 ·show (b :: ((((List.range n).filter fun q => !S q).map B) ++ aS M)).Perm ((((List.range n).filter fun q => !(if q=i then false else S q)).map (fun q=>if q=i then b else B q)) ++ aS M)
  have hp:=ol (S:=fun q=>if q=i then false else S q) (fun q=>if q=i then b else B q) hi (if_pos Z)
  have e:(((List.range n).filter fun q => !(if q=i then true else (if q=i then false else S q))).map (fun q=>if q=i then b else B q))=(((List.range n).filter fun q => !S q).map B):=by
   rw [List.filter_congr (q:=fun q => !S q) (fun q hq=>by by_cases e:q=i <;> simp [e,hS])]
   refine List.map_congr_left fun q hq => ?_
   have h2:=(List.mem_filter.1 hq).2
   by_cases e:q=i
   ·rw [e,hS] at h2;cases h2
   ·rw [if_neg e]
  rw [e,if_pos Z] at hp
  exact (hp.append_right _).symm
 ·have h0:=H _ List.mem_cons_self
  have h1:=H _ (List.mem_cons_of_mem _ List.mem_cons_self)
  rcases List.mem_cons.1 ho with rfl | ho
  ·intro q hq hs
   by_cases e:q=i
   ·subst e
    show (aH (some (if q=q then b else B q)) T L (if q=q then cap else C q) c (if q=q then ψ else φ q)).p g h
    rw [if_pos Z,if_pos Z,if_pos Z]; exact h0
   ·dsimp only at hs
    rw [if_neg e] at hs
    show (aH (some (if q=i then b else B q)) T L (if q=i then cap else C q) c (if q=i then ψ else φ q)).p g h
    rw [if_neg e,if_neg e,if_neg e]; exact h1 q hq hs
  ·exact H o (List.mem_cons_of_mem _ (List.mem_cons_of_mem _ ho))
theorem ConvM.cons {a:Own} {BV B:Mem} (h:ConvM BV B):ConvM (a :: BV) (a :: B):=⟨h.pm.append_left _,fun g k H o ho=>by
 rcases List.mem_cons.1 ho with rfl | ho
 ·exact H _ List.mem_cons_self
 ·exact h.mem g k (fun o ho=>H o (List.mem_cons_of_mem _ ho)) o ho⟩
theorem ConvM.le {a b:Own} {M:Mem} (h:Own.le a b):ConvM (a :: M) (b :: M):=⟨by show (a.bl ++ aS M).Perm (b.bl ++ aS M);rw [h.1],fun g k H o ho=>by
 rcases List.mem_cons.1 ho with rfl | ho
 ·exact h.2 _ _ (H _ List.mem_cons_self)
 ·exact H o (List.mem_cons_of_mem _ ho)⟩
theorem xG {T:TypeId} {L:Lay} {c n i k:Nat} {B C:Nat→Nat} {φ:Nat→Nat→VT} {M:Mem} (hi:i<n) (hk:k<n):ConvM (rwO T L c n B C φ (fun _=>false) :: M) (rwO T L c n (swp i k B) (swp i k C) (swp i k φ) (fun _=>false) :: M):=by
 by_cases e:i=k
 ·subst e;rw [kR,kR,kR]; exact .ofPerm (List.Perm.refl _)
 ·refine (kX hi Z).trans (.trans (ConvM.cons (kX hk (if_neg (Ne.symm e)))) (.trans (ConvM.cons (kY (i:=i) hi (by rw [if_neg e,if_pos Z]))) (.trans (kY (i:=k) hk (by rw [if_neg (Ne.symm e),if_pos Z])) (ConvM.le (j6 (fun q _ => ?_) (fun q _ _=>⟨?_,?_⟩) (fun q j _ _ _ => ?_))))))
  ·by_cases h1:q=k
   ·simp [h1]
   ·by_cases h2:q=i
    ·simp [h1,h2]
    ·simp [h1,h2]
  ·unfold swp;by_cases h1:q=k
   ·subst h1;rw [if_pos Z,if_neg (Ne.symm e),if_pos Z]
   ·by_cases h2:q=i
    ·rw [if_neg h1,if_pos h2,if_pos h2]
    ·rw [if_neg h1,if_neg h2,if_neg h2,if_neg h1]
  ·unfold swp;by_cases h1:q=k
   ·subst h1;rw [if_pos Z,if_neg (Ne.symm e),if_pos Z]
   ·by_cases h2:q=i
    ·rw [if_neg h1,if_pos h2,if_pos h2]
    ·rw [if_neg h1,if_neg h2,if_neg h2,if_neg h1]
  ·unfold swp;by_cases h1:q=k
   ·subst h1;rw [if_pos Z,if_neg (Ne.symm e),if_pos Z]; exact VT.le_refl _
   ·by_cases h2:q=i
    ·rw [if_neg h1,if_pos h2,if_pos h2]; exact VT.le_refl _
    ·rw [if_neg h1,if_neg h2,if_neg h2,if_neg h1]; exact VT.le_refl _
section
variable {P:Program} {E:Env} {D:List Deferred} {Γ:Ctx} {M:Mem} {Q:Exit→Act→World→Prop}
variable {i:Nat} {ty:TypeId} {pos:String} {af:Array Edge} {d:Option Tmp} {gd:Option (Nat × Bool)}
theorem xH {e:Exit} {i:Nat} {o:Own} {F:Prop} (hM:M[i]? = some o) (hF : ∀ g h,o.p g h→F) (h:F→PJ E D Γ M e Q):PJ E D Γ M e Q :=
 fun a w hS=>h (hF _ _ (hS.base.mem o (List.mem_of_getElem? hM))) a w hS
theorem jg {T T':TypeId} {L:Lay} [LayOf P T L] {x:Operand} {i' j c n:Nat} {B C:Nat→Nat} {φ:Nat→Nat→VT} {S:Nat→Bool} (k:Nat) (hx:aB Γ x=some (eP (B i') j L.sz)) (hM:M[k]? = some (rwO T' L c n B C φ S)) (hi:i'<n) (hS:S i'=false) (hj:j<c) :
  aC P E Γ M ⟨d, .load T x,ty,pos,af,gd⟩ (φ i' j) :=
 aC.ofRun fun a w hb hf=>by
  have h1:a.eval x = .pointer (some ⟨B i',j*L.sz,none⟩):=hf x _ (by simp [Op.operands]) hx
  obtain ⟨_,_,_,h4⟩:=dA hb hM i' hi hS
  obtain ⟨c,hc,_,he⟩:=h4 (B i') Z
  obtain ⟨v,hx',hp⟩:=he j hj
  refine ⟨v,?_,hp⟩
  simp only [execOp,h1,Instr.loadAt,Instr.sureAddr,Sem.run_bind,Sem.run_pure,Result.andThen_ok,dk hc hx']
end
end Tor
end
section
namespace Tor
open Go Go.RowKit Go.Proofs
variable [Tor.Co.Kc]
attribute [local irreducible] J PJ aC one slT bL bE bw exT cj eP aT aH slV VT.le Ret bQ dz ed
attribute [local irreducible] aU
theorem zr (p a b:Nat) (hp0:0<p) (hp:p<4294967296) (ha:a<4294967296) (hb:b<4294967296):Ok Tryz.prog 116 [one (.int .u64 p),one (.int .u64 a),one (.int .u64 b)] (one (.int .u64 (((a+b) % p:Nat):Int))):=by
 have hr:=mS (a+b) p X hp0 X
 refine Ok.enter Tryz.func116 Z Tryz.ntmps116 Z (fun w O => ?_)
 refine ae (ai (Cd Z (Cf (aa (ae (ai (Cc Z (Cc Z (Cb (d5 Z Z X) ?_)))))))))
 refine Cc Z ?_
 refine Cb (ao (hr) Z ⟨A,A,Cg⟩) ?_
 refine Cd Z (Cf (aa (aG ?_)))
 refine aV Tryz.results116 (.tmp Z A)
end Tor
end
