/-
  Theorems that the proofs of laws of this seat rest on.
  No condition.
-/
import Derived.Test.YtfaglimgjfhdfaaGreatZO6
set_option maxHeartbeats 20000000
set_option linter.unusedVariables false
set_option linter.unusedSimpArgs false
set_option linter.unusedSectionVars false
section
namespace Tor.Lin
theorem kT (x:Rat):0≤x*x:=by
 rcases Rat.le_total (a:=0) (b:=x) with h | h
 ·exact Rat.mul_nonneg h h
 ·have:=Rat.mul_nonneg (a := -x) (b := -x) (by grind) (by grind)
  grind
theorem wh {a b c d:Rat} (h:0≤a) (h1:a≤b) (h2:0≤c) (h3:c≤d):a*c≤b*d:=by
 have e1:=Rat.mul_le_mul_of_nonneg_left (c:=c) h1 h2
 have e2:=Rat.mul_le_mul_of_nonneg_left (c:=b) h3 (Rat.le_trans h h1)
 grind
theorem kU {n:Nat} {f:Nat→Rat} (h : ∀ i,i<n→0≤f i):0≤sm n f:=by
 induction n with
 | zero => exact Rat.le_refl
 | succ n ih =>
  have h1:=ih (fun i hi=>h i X)
  have h2:=h n X
  rw [sm]; grind
theorem qg {n:Nat} {f:Nat→Rat} (h : ∀ i,i<n→0≤f i) (h0:sm n f=0) : ∀ i,i<n→f i=0:=by
 induction n with
 | zero => intro i hi; omega
 | succ n ih =>
  have h1:=kU (fun i hi=>h i (show i<n+1 by omega)) (n:=n)
  have h2:=h n X
  rw [sm] at h0
  intro i hi
  by_cases e:i=n
  ·subst e;grind
  ·exact ih (fun i hi=>h i X) (by grind) i X
theorem up {n m:Nat} {f:Nat→Rat} (h:m≤n) (h0 : ∀ j,m≤j→j<n→f j=0):sm n f=sm m f:=by
  induction n with
  | zero => have : m = 0 := by omega
            rw [this]
  | succ n ih =>
    by_cases e:m=n+1
    · rw [e]
    · rw [sm,ih X (fun j h1 h2=>h0 j h1 X),h0 n X X,Rat.add_zero]
def dot (m:Nat) (u v:Nat→Rat):Rat:=sm m (fun k=>u k*v k)
theorem iK (m:Nat) (u v:Nat→Rat):dot m u v=dot m v u:=ct fun k _=>Rat.mul_comm _ _
theorem qh (m:Nat) (u:Nat→Rat):0≤dot m u u:=kU fun k _=>kT _
theorem wi {m:Nat} {u:Nat→Rat} (h:dot m u u=0) : ∀ k,k<m→u k=0:=fun k hk=>by
 have:=qg (fun i _=>kT (u i)) h k hk
 grind
def gsT (m:Nat) (AJ:Nat→Nat→Rat):Nat→Nat→Nat→Rat
 | 0 => fun _ _ => 0
 | i + 1 => fun j => if j = i then (fun k => AJ i k - sm i (fun t => dot m (AJ i) (gsT m AJ i t) / dot m (gsT m AJ i t) (gsT m AJ i t) * gsT m AJ i t k)) else gsT m AJ i j
def gsB (m:Nat) (AJ:Nat→Nat→Rat) (i:Nat):Nat→Rat:=gsT m AJ (i+1) i
def gsM (m:Nat) (AJ:Nat→Nat→Rat) (i t:Nat):Rat:=dot m (AJ i) (gsB m AJ t) / dot m (gsB m AJ t) (gsB m AJ t)
theorem wj {m:Nat} {AJ:Nat→Nat→Rat} : ∀ i j,j<i→gsT m AJ i j=gsB m AJ j
 | 0, j, h => absurd h (Nat.not_lt_zero _)
 | i + 1, j, h => by
  by_cases e:j=i
  ·rw [e]; rfl
  ·show (if j=i then _ else gsT m AJ i j)=_
   rw [if_neg e]; exact wj i j X
theorem oK (m:Nat) (AJ:Nat→Nat→Rat) (i k:Nat):gsB m AJ i k=AJ i k - sm i (fun t=>gsM m AJ i t*gsB m AJ t k):=by
 show (if i=i then (fun k=>AJ i k - sm i (fun t=>dot m (AJ i) (gsT m AJ i t) / dot m (gsT m AJ i t) (gsT m AJ i t)*gsT m AJ i t k)) else gsT m AJ i i) k=_
 rw [if_pos Z]
 show AJ i k - _=_
 congr 1
 exact ct fun t ht=>by rw [wj i t ht]; rfl
theorem mE {m n:Nat} {u v w:Nat→Rat} {f:Nat→Rat} {b:Nat→Nat→Rat} (h : ∀ k,k<m→w k=v k - sm n (fun t=>f t*b t k)):dot m u w=dot m u v - sm n (fun t=>f t*dot m u (b t)):=by
 unfold dot
 rw [ct (g:=fun k=>u k*v k - sm n (fun t=>f t*(u k*b t k))) (fun k hk=>by
  rw [h k hk]
  have:sm n (fun t=>f t*(u k*b t k))=sm n (fun t=>f t*b t k)*u k:=by
   rw [← sZ]; exact ct fun t _=>by grind
  rw [this]; grind),zN,x9]
 congr 1
 exact ct fun t _=>by
  rw [Rat.mul_comm, ← sZ]; exact ct fun k _=>by grind
theorem tc (m:Nat) (AJ:Nat→Nat→Rat) (i t:Nat):gsM m AJ i t*dot m (gsB m AJ t) (gsB m AJ t)=dot m (AJ i) (gsB m AJ t):=by
 by_cases h:dot m (gsB m AJ t) (gsB m AJ t)=0
 ·have h0:=wi h
  have e:dot m (AJ i) (gsB m AJ t)=0:=tb fun k hk=>by rw [h0 k hk]; exact Rat.mul_zero _
  rw [h,e]; exact Rat.mul_zero _
 ·unfold gsM;exact Rat.div_mul_cancel h
theorem te (m:Nat) (AJ:Nat→Nat→Rat) : ∀ i j,j<i→dot m (gsB m AJ i) (gsB m AJ j)=0:=by
 intro i
 induction i using Nat.strongRecOn with
 | _ i ih =>
  intro j hj
  rw [iK,mE (v:=AJ i) (f:=fun t=>gsM m AJ i t) (b:=gsB m AJ) (n:=i) (fun k _=>oK m AJ i k)]
  rw [iJ hj (fun t ht hne=>by
   rcases Nat.lt_trichotomy t j with h | h | h
   ·rw [ih j hj t h]; exact Rat.mul_zero _
   ·exact absurd h hne
   ·rw [iK,ih t ht j h]; exact Rat.mul_zero _),tc,iK]
  grind
theorem zO (m:Nat) (AJ:Nat→Nat→Rat) (i k:Nat):AJ i k=gsB m AJ i k+sm i (fun t=>gsM m AJ i t*gsB m AJ t k):=by
 rw [oK]; grind
theorem ya (m:Nat) (AJ:Nat→Nat→Rat) (i:Nat):dot m (AJ i) (AJ i)=dot m (gsB m AJ i) (gsB m AJ i)+sm i (fun t=>gsM m AJ i t*gsM m AJ i t*dot m (gsB m AJ t) (gsB m AJ t)):=by
 have e1:=mE (m:=m) (u:=gsB m AJ i) (v:=AJ i) (w:=gsB m AJ i) (n:=i) (f:=fun t=>gsM m AJ i t) (b:=gsB m AJ) (fun k _=>oK m AJ i k)
 rw [tb (n:=i) (fun t ht=>by rw [te m AJ i t ht]; exact Rat.mul_zero _)] at e1
 have e2:=mE (m:=m) (u:=AJ i) (v:=AJ i) (w:=gsB m AJ i) (n:=i) (f:=fun t=>gsM m AJ i t) (b:=gsB m AJ) (fun k _=>oK m AJ i k)
 have e3:dot m (gsB m AJ i) (AJ i)=dot m (AJ i) (gsB m AJ i):=iK _ _ _
 have e4:sm i (fun t=>gsM m AJ i t*dot m (AJ i) (gsB m AJ t))=sm i (fun t=>gsM m AJ i t*gsM m AJ i t*dot m (gsB m AJ t) (gsB m AJ t)):=ct fun t _=>by rw [← tc]; grind
 rw [e4] at e2
 grind
theorem At (m:Nat) (AJ:Nat→Nat→Rat) (i:Nat):dot m (gsB m AJ i) (gsB m AJ i)≤dot m (AJ i) (AJ i):=by
 have h:=ya m AJ i
 have h2:0≤sm i (fun t=>gsM m AJ i t*gsM m AJ i t*dot m (gsB m AJ t) (gsB m AJ t)):=kU fun t _=>Rat.mul_nonneg (kT _) (qh _ _)
 grind
def pr:Nat→(Nat→Rat)→Rat
 | 0, _ => 1
 | n + 1, f => pr n f * f n
theorem mF {n:Nat} {f g:Nat→Rat} (h : ∀ i,i<n→f i=g i):pr n f=pr n g:=by
 induction n with
 | zero => rfl
 | succ n ih => rw [pr, pr, ih (fun i hi => h i X), h n X]
theorem wl (n:Nat) (f:Nat→Rat):pr (n+1) f=f 0*pr n (fun i=>f (i+1)):=by
 induction n with
 | zero => show 1 * f 0 = f 0 * 1; grind
 | succ n ih => rw [pr, ih, pr]; grind
theorem uq {n:Nat} {f:Nat→Rat} (h : ∀ i,i<n→0≤f i):0≤pr n f:=by
 induction n with
 | zero => show (0 : Rat) ≤ 1; decide
 | succ n ih => exact Rat.mul_nonneg (ih fun i hi => h i X) (h n X)
theorem yb {n:Nat} {f g:Nat→Rat} (h0 : ∀ i,i<n→0≤f i) (h : ∀ i,i<n→f i≤g i):pr n f≤pr n g:=by
 induction n with
 | zero => exact Rat.le_refl
 | succ n ih => exact wh (uq fun i hi => h0 i X) (ih (fun i hi => h0 i X) fun i hi => h i X) (h0 n X) (h n X)
theorem oL : ∀ {n:Nat} {F:Nat→Nat→Rat},(∀ i j,i<j→j<n→F i j=0)→det n F=pr n (fun i=>F i i)
 | 0, _, _ => rfl
 | n + 1, F, h => by
  rw [det,iJ (Nat.succ_pos n) (fun j hj hne=>by rw [h 0 j X hj]; grind),oL (n:=n) (fun i j hij hj=>h _ _ (by unfold skip;split <;> omega) (by unfold skip;split <;> omega)),wl]
  have:sgn 0=1:=rfl
  rw [this,Rat.one_mul]
  congr 1
theorem zP (n:Nat) (AJ:Nat→Nat→Rat):det n AJ*det n AJ=pr n (fun i=>dot n (gsB n AJ i) (gsB n AJ i)):=by
 have e1:det n AJ=det n (mC n (fun i t=>if t<i then gsM n AJ i t else if t=i then 1 else 0) (gsB n AJ)):=cv fun i j hi hj=>by
  show AJ i j=sm n (fun t=>(if t<i then gsM n AJ i t else if t=i then 1 else 0)*gsB n AJ t j)
  rw [up (show i+1≤n by omega) (fun t h1 h2=>by rw [if_neg X,if_neg X]; exact Rat.zero_mul _),sm,if_neg (Nat.lt_irrefl _),if_pos Z,zO n AJ i j]
  rw [ct (f:=fun t=>(if t<i then gsM n AJ i t else if t=i then 1 else 0)*gsB n AJ t j) (g:=fun t=>gsM n AJ i t*gsB n AJ t j) (fun t ht=>by rw [if_pos ht])]
  grind
 have e2:det n (fun i t=>if t<i then gsM n AJ i t else if t=i then (1:Rat) else 0)=1:=by
  rw [oL (fun i j hij hj=>by rw [if_neg X,if_neg X])]
  rw [mF (g:=fun _=>1) (fun i _=>by rw [if_neg (Nat.lt_irrefl _),if_pos Z])]
  clear e1
  induction n with
  | zero => rfl
  | succ n ih => rw [pr, ih, Rat.one_mul]
 rw [oJ,e2,Rat.one_mul] at e1
 rw [e1]
 have e3:det n (gsB n AJ)*det n (gsB n AJ)=det n (mC n (gsB n AJ) (fun i j=>gsB n AJ j i)):=by
  rw [oJ]
  congr 1
  exact (wb n lE (gsB n AJ)).symm
 rw [e3,oL (fun i j hij hj=>by
  show sm n (fun k=>gsB n AJ i k*gsB n AJ j k)=0
  have:=te n AJ j i hij
  rw [iK] at this;exact this)]
 exact mF fun i _=>rfl
theorem wm (n:Nat) (AJ:Nat→Nat→Rat):det n AJ*det n AJ≤pr n (fun i=>dot n (AJ i) (AJ i)):=by
 rw [zP]
 exact yb (fun i _=>qh _ _) (fun i _=>At _ _ _)
end Tor.Lin
end
section
namespace Tor
open Go Go.RowKit Go.Proofs
variable [Tor.Co.Kc]
def rA (v:List Int):VT:=slT (.agg 2) v.length (fun i=>aW (v.getD i 0))
attribute [local irreducible] J PJ aB one slT bJ bB bv exT cd eP aQ aI slV VT.le Ret bN
attribute [local irreducible] aW
end Tor
end
section
namespace Tor
open Go Go.RowKit Go.Proofs
variable [Tor.Co.Kc]
def wn (a:List (List Int)):VT:=slT .one a.length (fun i=>rA (a.getD i []))
def zQ (r c:Int) (a:List (List Int)):VT:=bB 3 [(0, .one,one (.int .i64 r)),(1, .one,one (.int .i64 c)),(2, .one,wn a)]
attribute [local irreducible] J PJ aB one slT bJ bB bv exT cd eP aQ aI slV VT.le Ret bN
attribute [local irreducible] aW rA
end Tor
end
section
namespace Tor
open Go Go.RowKit Go.Proofs
variable [Tor.Co.Kc]
def eO (v:List (Bool × List Nat)):VT:=slT (.agg 2) v.length (fun i=>jC (v.getD i (false, [])).1 (v.getD i (false, [])).2)
def lg (x:Int):Bool × List Nat:=(decide (x<0),aS x.natAbs)
theorem wo (v:List Int):VT.le (rA v) (eO (v.map lg)):=by
 unfold rA eO
 refine VT.le_trans (fy (ψ:=fun i=>jC ((v.map lg).getD i (false, [])).1 ((v.map lg).getD i (false, [])).2) (fun i hi => ?_)) (by rw [List.length_map]; exact VT.le_refl _)
 simp only [List.getD,List.getElem?_map,List.getElem?_eq_getElem hi,Option.map_some,Option.getD_some]
 exact vE _
theorem kq : ∀ {l:List Nat},fK l→0<l.length→l.getD (l.length - 1) 0≠0
 | [], _, h => absurd h U
 | [d], h, _ => h
 | _ :: d :: l, h, _ => kq (l := d :: l) h (by simp)
theorem rB (x:Int):fb (lg x).1 (lg x).2=true:=by
 unfold fb lg
 simp only
 split
 ·rename_i h
  have e:=List.eq_nil_of_length_eq_zero h
  have:x.natAbs=0:=by rw [← bW x.natAbs,e]; rfl
  have : ¬ x<0:=by omega
  simp [this]
 ·rename_i h
  have:=kq (jY x.natAbs) X
  simpa using this
theorem tf {α:Type} {p:α→Bool} {v:List α} {d:α} {i:Nat} (h:(v.take i).all p=true) (hi:i<v.length) (he:p (v.getD i d)=true):(v.take (i+1)).all p=true:=by
 rw [List.take_add_one,List.all_append,h,List.getElem?_eq_getElem hi]
 simp only [List.getD,List.getElem?_eq_getElem hi,Option.getD_some] at he
 simp [he]
theorem rC {α:Type} {p:α→Bool} {v:List α} {d:α} {i:Nat} (hi:i<v.length) (he:p (v.getD i d)=false):v.all p=false:=by
 simp only [List.getD,List.getElem?_eq_getElem hi,Option.getD_some] at he
 rw [List.all_eq_false]; exact ⟨_,List.getElem_mem hi,by simp [he]⟩
attribute [local irreducible] J PJ aB one slT bJ bB bv exT cd eP aQ aI slV VT.le Ret bN
attribute [local irreducible] aW jC
end Tor
end
section
namespace Tor
open Go Go.RowKit Go.Proofs
variable [Tor.Co.Kc]
abbrev rD:=List (Bool × List Nat)
def dW (a:List rD):VT:=slT .one a.length (fun i=>eO (a.getD i []))
def kr (r c:Int) (a:List rD):VT:=bB 3 [(0, .one,one (.int .i64 r)),(1, .one,one (.int .i64 c)),(2, .one,dW a)]
def iL (c:Int) (v:rD):Bool:=decide ((v.length:Int)=c) && v.all fun p=>fb p.1 p.2
def ia (r c:Int) (a:List rD):Bool:=decide (0≤r∧0≤c∧(a.length:Int)=r) && a.all (iL c)
attribute [local irreducible] J PJ aB one slT bJ bB bv exT cd eP aQ aI slV VT.le Ret bN
attribute [local irreducible] aW jC eO
end Tor
end
section
namespace Tor
open Go Go.RowKit Go.Proofs
variable [Tor.Co.Kc]
def tab (r c:Nat) (F:Nat→Nat→Int):List (List Int):=(List.range r).map fun i=>(List.range c).map (F i)
@[simp] theorem tab_length (r c:Nat) (F:Nat→Nat→Int):(tab r c F).length=r:=by simp [tab]
theorem yc {r c i:Nat} (F:Nat→Nat→Int) (hi:i<r):(tab r c F).getD i []=(List.range c).map (F i):=by simp [tab,List.getD,hi]
theorem zR {c j:Nat} (f:Nat→Int) (hj:j<c):((List.range c).map f).getD j 0=f j:=by simp [List.getD,hj]
def d6 (c:Nat) (f:Nat→Int):VT:=slT (.agg 2) c (fun j=>aW (f j))
theorem wp (c:Nat) (f:Nat→Int):VT.le (d6 c f) (rA ((List.range c).map f)):=by
 unfold d6 rA
 refine VT.le_trans (fy (ψ:=fun j=>aW (((List.range c).map f).getD j 0)) (fun j hj => ?_)) (jk (by simp))
 rw [zR f hj]; exact VT.le_refl _
def ch (r c:Nat) (F:Nat→Nat→Int):VT:=bB 3 [(0, .one,one (.int .i64 r)),(1, .one,one (.int .i64 c)),(2, .one,slT .one r (fun i=>d6 c (F i)))]
theorem wq (r c:Nat) (F:Nat→Nat→Int):VT.le (ch r c F) (zQ r c (tab r c F)):=by
 unfold ch zQ wn
 refine fI (fun q hq => ?_)
 rcases List.mem_cons.1 hq with rfl | hq
 ·exact ⟨_,List.mem_cons_self,A⟩
 rcases List.mem_cons.1 hq with rfl | hq
 ·exact ⟨_,List.mem_cons_of_mem _ List.mem_cons_self,A⟩
 rcases List.mem_cons.1 hq with rfl | hq
 ·refine ⟨_,List.mem_cons_of_mem _ (List.mem_cons_of_mem _ List.mem_cons_self),VT.le_trans (fy (ψ:=fun i=>rA ((tab r c F).getD i [])) (fun i hi => ?_)) (jk (by simp))⟩
  rw [yc F hi]; exact wp _ _
 ·cases hq
theorem ku {r c:Nat} {F G:Nat→Nat→Int} (h : ∀ i j,i<r→j<c→F i j=G i j):VT.le (ch r c F) (ch r c G):=by
 unfold ch
 refine fI (fun q hq => ?_)
 rcases List.mem_cons.1 hq with rfl | hq
 ·exact ⟨_,List.mem_cons_self,A⟩
 rcases List.mem_cons.1 hq with rfl | hq
 ·exact ⟨_,List.mem_cons_of_mem _ List.mem_cons_self,A⟩
 rcases List.mem_cons.1 hq with rfl | hq
 ·refine ⟨_,List.mem_cons_of_mem _ (List.mem_cons_of_mem _ List.mem_cons_self),fy fun i hi=>fy fun j hj=>jk (by rw [h i j hi hj])⟩
 ·cases hq
theorem qi:VT.le (one (.agg #[.bool false, .slice none 0 0])) (aW 0):=by
 intro v h e
 have e:v = .agg #[.bool false, .slice none 0 0]:=e
 subst e
 refine ⟨_,rfl,rfl,by simp [Value.oneCell'],fun q hq => ?_⟩
 rcases List.mem_cons.1 hq with rfl | hq
 ·exact ⟨.bool false,rfl,rfl⟩
 ·rcases List.mem_cons.1 hq with rfl | hq
  ·exact ⟨.slice none 0 0,rfl,⟨none,0,rfl,Nat.le_refl _,by decide,fun i hi=>absurd hi (Nat.not_lt_zero _)⟩⟩
  ·cases hq
theorem kV {sv:Option Nat} {T:TypeId} {L:Lay} {cap n:Nat} {φ:Nat→VT} {g:RH} {h:Hp} (hp:(aI sv T L cap n φ).p g h) (he:sv=none):n=0:=by
 obtain ⟨h1,h2,h3,_⟩:=hp;have:=h3 he;omega
theorem qj {bs:List Nat} {i:Nat} (h:i<bs.length):bs[i]? = some (bs.getD i 0):=by simp [List.getD,h]
def iM (sv:Option Nat) (cap r c:Nat) (bs:List Nat):Own:=aI sv 39 .one cap r (fun q=>one (slV (some (bs.getD q 0)) c c))
def eQ (c:Nat) (bs:List Nat) (F:Nat→Nat→Int):Own:=dw 28 (.agg 2) c bs (fun q k=>aW (F q k))
theorem fk {c:Nat} {bs:List Nat} {F G:Nat→Nat→Int} (h : ∀ i j,i<bs.length→j<c→F i j=G i j):Own.le (eQ c bs F) (eQ c bs G):=lW fun i j hi hj=>by rw [h i j hi hj]
abbrev Au (r:Nat) := {s:List Nat × Option Nat × Nat // s.1.length=r∧(s.2.1=none→r=0)}
def kW (r c:Nat) (s:Au r):VT:=bB 3 [(0, .one,one (.int .i64 r)),(1, .one,one (.int .i64 c)),(2, .one,one (slV s.1.2.1 r s.1.2.2))]
theorem ja {r c:Nat} {sv:Option Nat} {cap:Nat} {bs:List Nat} {F:Nat→Nat→Int} {cs:bT} (hb:bs.length=r) (hc:(0,Lay.one,one (.int .i64 r))∈cs∧(1,Lay.one,one (.int .i64 c))∈cs∧(2,Lay.one,one (slV sv r cap))∈cs) :
  n6 [iM sv cap r c bs,eQ c bs F] cs [(0, .one,one (.int .i64 r)),(1, .one,one (.int .i64 c)),(2, .one,slT .one r (fun i=>d6 c (F i)))]:=by
 refine .cons hc.1 (Ent.refl _) (.cons hc.2.1 (Ent.refl _) (.cons hc.2.2 ?_ .nil))
 refine Ent.slE List.mem_cons_self fun q hq => ?_
 exact Ent.row (List.mem_cons_of_mem _ List.mem_cons_self) (qj X)
attribute [local irreducible] J PJ aB one slT bJ bB bv exT cd eP aQ aI slV VT.le Ret bN
attribute [local irreducible] dw
theorem jb (r c:Nat) (hr:r≤1048576) (hc:c≤1048576):OkM Tryz.prog 35 [one (.int .i64 r),one (.int .i64 c)] (kW r c) (fun s => [iM s.1.2.1 s.1.2.2 r c s.1.1,eQ c s.1.1 (fun _ _=>0)]):=by
 refine OkM.enter Tryz.func35 Z Tryz.ntmps35 Z (fun w O => ?_)
 refine ae (ai ?_)
 refine bO (T:=35) Z Z Z (fun b => ?_)
 refine AT (aa (ae (ai (u3 (n:=0) Z Z Z Z Z ?_))))
 refine PartsK.nil (fun b => ?_)
 refine AR Z (AT (aa (ae (ae (ai (AR Z (AT (aa (aw ?_)))))))))
 rename_i bc
 refine iD (ConvM.rows0 (T:=28) (L := .agg 2) (c:=c) (φ:=fun _ _=>aW 0) _) ?_
 refine cU (σ:=List Nat × Option Nat × Nat) (fun s => [(0,one (.int .i64 r)),(1,one (.int .i64 c)),(4,one (.pointer (some ⟨bc,0,none⟩))),(5,one (slV s.2.1 s.1.length s.2.2)),(6,one (.int .i64 s.1.length))])
  (fun s => [aI s.2.1 39 .one s.2.2 s.1.length (fun q=>one (slV (some (s.1.getD q 0)) c c)),aQ bc 35 3 (dt #[Value.int IntKind.i64 0,Value.int IntKind.i64 0,Value.slice none 0 0] [(0,Lay.one),(1,Lay.one),(2,Lay.one)]),eQ c s.1 (fun _ _=>0)])
  (fun s=>s.1.length≤r) (fun s=>r - s.1.length) ([],some b,0) (Nat.zero_le _) AM (.keep (bZ (fun q hq=>by omega)) (SubM.refl _)) (fun s hk => ?_)
 obtain ⟨bs,sv0,cap0⟩:=s
 simp only at hk ⊢
 refine ae (ae (ai (AQ Z (AQ Z (AP (bH Z Z) (AT (aa ?_)))))))
 refine bw Z (fun hc => ?_) (fun hc => ?_) <;> simp at hc
 ·refine az (aa (ae (aw (ai (AQ Z (AQ Z ?_))))))
  refine cx c c Z Z Z Z (Nat.le_refl _) Z Z X Z Z (fun bz => ?_)
  refine po Z Z Z Z ?_
  (refine eH 1 Z Z Z (leN Z) ?_ ?_ Z (ltN Z) (fun sv cap => ?_);omega;omega)
  refine AR Z (AT (aK (aa (ai (AQ Z ?_)))))
  (refine AP (cB Z Z (aT ?_ ?_)) ?_;omega;omega)
  refine AR Z (AT (fe (ConvM.row (k:=2) Z) (cz (s:=(bs,sv0,cap0)) (bs ++ [bz],sv,cap) (by simp;omega) (by simp;omega) (.cons Z A (.cons Z A (.cons Z A (.cons Z (sH (by simp)) (.cons Z (av (by simp)) .nil))))) ?_)))
  refine .keep (mi (by simp) (fun q hq => ?_)) (.keep AO (.keep (pp fun i j hi hj => ?_) .nil))
  ·by_cases h:q<bs.length
   ·rw [if_pos h]; simp [List.getElem?_append_left h]
   ·have:q=bs.length:=by omega
    subst this;rw [if_neg h]; simp
  ·simp only
   split
   ·exact VT.le_refl _
   ·exact qi
 ·have hlen:bs.length=r:=by omega
  subst hlen
  refine se (i:=0) (F:=sv0=none→bs.length=0) Z (fun g h hp he=>kV hp he) (fun hF => ?_)
  refine a8 (ay (ay (aM (aa (ae (ai (AQ Z (AQ Z (AQ Z ?_)))))))))
  refine stB Z Z Z (BuildK.cons Z Z Z (BuildK.cons Z Z Z (BuildK.cons Z Z Z (BuildK.nil (bR 1 Z Z Z Z (AT (aa (aH ?_))))))))
  refine lV ⟨(bs,sv0,cap0),rfl,hF⟩ Tryz.results35 (.cellW 1 Z Z A) ?_
  exact .keep AO (.drop (SubM.refl _))
end Tor
end
section
namespace Tor
open Go Go.RowKit Go.Proofs
variable [Tor.Co.Kc]
def kX (k:IntKind) (l:List Int):VT:=slT .one l.length (fun i=>one (.int k (l.getD i 0)))
theorem ib {sv:Option Nat} {r:Nat} (h:sv=none→r=0) (hr:0<r) : ∃ b,sv=some b:=by
 cases sv with
 | none => have := h Z; omega
 | some b => exact ⟨b, rfl⟩
theorem mZ (i c j:Nat):((i:Int)*c+j).toNat=i*c+j:=by
 have:((i:Int)*c+j)=((i*c+j:Nat):Int):=by simp
 rw [this,Int.toNat_natCast]
def fE (f:Nat→Int) (c i j:Nat):Nat→Nat→Int:=fun q k=>if q<i∨(q=i∧k<j) then f (q*c+k) else 0
theorem ws {l:List Int} {i:Nat} {p:Int→Prop} (h : ∀ x∈l,p x) (h0:p 0):p (l.getD i 0):=by
 rcases Nat.lt_or_ge i l.length with hi | hi
 ·simp only [List.getD,List.getElem?_eq_getElem hi,Option.getD_some]; exact h _ (List.getElem_mem hi)
 ·simp only [List.getD,List.getElem?_eq_none hi,Option.getD_none]; exact h0
theorem qk {T:TypeId} {c:Nat} {bs:List Nat} {f:Nat→Int} {i j:Nat} (x:Int) (hx:x=f (i*c+j)) :
  Own.le (dw T (.agg 2) c bs (lX (fun q k=>aW (fE f c i j q k)) i j (aW x))) (dw T (.agg 2) c bs (fun q k=>aW (fE f c i (j+1) q k))):=by
 subst hx
 refine lW fun q k hq hk => ?_
 unfold lX fE
 by_cases h:q=i∧k=j
 ·obtain ⟨rfl,rfl⟩:=h;simp
 ·rw [if_neg h]
  have e:(q<i∨q=i∧k<j+1)↔(q<i∨q=i∧k<j):=by omega
  simp only [e]
attribute [local irreducible] J PJ aB one slT bJ bB bv exT cd eP aQ aI slV VT.le Ret bN
attribute [local irreducible] aW dw
theorem wu (r c:Nat) (l:List Int) (hr0:r≤1048576) (hc0:c≤1048576) (hl : ∀ x∈l, -9223372036854775808≤x∧x≤9223372036854775807):Ok Tryz.prog 39 [one (.int .i64 r),one (.int .i64 c),kX .i64 l] (ch r c (fun i j=>l.getD (i*c+j) 0)):=by
 unfold kX
 refine Ok.enter Tryz.func39 Z Tryz.ntmps39 Z (fun w O => ?_)
 refine ae (ai ?_)
 refine bO (T:=35) Z Z Z (fun b => ?_)
 refine AT (aa (ae (ai (AQ Z (AQ Z ?_)))))
 refine fJ (jb r c hr0 hc0) Z ⟨A,A,AU⟩ Z Z (fun s => ?_)
 obtain ⟨⟨bs,sv1,cap1⟩,hlen,hsv⟩:=s
 simp only at hlen hsv
 unfold kW
 refine bO (T:=35) Z Z Z (fun b => ?_)
 refine bR 0 Z Z Z Z (AT (aa (ae (ae (ai (AR Z (AT (aa (aw ?_)))))))))
 rename_i b2
 refine cU (σ:=Nat) (fun i => [(0,one (.int .i64 r)),(1,one (.int .i64 c)),(2,slT .one l.length (fun i=>one (.int .i64 (l.getD i 0)))),(6,one (.pointer (some ⟨b2,0,none⟩))),(7,one (.pointer (some ⟨b,0,none⟩))),(8,one (.int .i64 (i:Nat)))])
  (fun i => [aQ b 35 3 [(0, .one,one (.int .i64 r)),(1, .one,one (.int .i64 c)),(2, .one,one (slV sv1 r cap1))],iM sv1 cap1 r c bs,eQ c bs (fE (fun n=>l.getD n 0) c i 0),
   aQ b2 35 3 (dt #[Value.int IntKind.i64 0,Value.int IntKind.i64 0,Value.slice none 0 0] [(0,Lay.one),(1,Lay.one),(2,Lay.one)])])
  (fun i=>i≤r) (fun i=>r - i) 0 (Nat.zero_le _) AM (.keep AO (.keep AO (.keep (fk fun i j hi hj=>by simp [fE]) (SubM.refl _)))) (fun i hi => ?_)
 refine ae (ae (ai (AQ Z (AQ Z (AP (bH Z Z) (AT (aa ?_)))))))
 refine bw Z (fun hc => ?_) (fun hc => ?_) <;> simp at hc
 ·have hir:i<r:=by omega
  obtain ⟨bo,rfl⟩:=ib hsv X
  refine az (aa (ae (aw (ae (ai (AR Z (AT (aa (aw ?_)))))))))
  refine cU (σ:=Nat) (fun j => [(0,one (.int .i64 r)),(1,one (.int .i64 c)),(2,slT .one l.length (fun i=>one (.int .i64 (l.getD i 0)))),(6,one (.pointer (some ⟨b2,0,none⟩))),(7,one (.pointer (some ⟨b,0,none⟩))),(8,one (.int .i64 (i:Nat))),(9,one (.int .i64 (j:Nat)))])
   (fun j => [aQ b 35 3 [(0, .one,one (.int .i64 r)),(1, .one,one (.int .i64 c)),(2, .one,one (slV (some bo) r cap1))],iM (some bo) cap1 r c bs,eQ c bs (fE (fun n=>l.getD n 0) c i j),
   aQ b2 35 3 (dt #[Value.int IntKind.i64 0,Value.int IntKind.i64 0,Value.slice none 0 0] [(0,Lay.one),(1,Lay.one),(2,Lay.one)])])
   (fun j=>j≤c) (fun j=>c - j) 0 (Nat.zero_le _) AM (SubM.refl _) (fun j hj => ?_)
  have hm:i*c≤1048576*1048576:=Nat.mul_le_mul X hc0
  have hm2:(i:Int)*c≤1099511627776:=by omega
  have hm3:0≤(i:Int)*c:=by have:=Nat.zero_le (i*c);omega
  refine ae (ae ?_)
  refine gU (σ:=Unit) (fun _ => [(0,one (.int .i64 r)),(1,one (.int .i64 c)),(2,slT .one l.length (fun i=>one (.int .i64 (l.getD i 0)))),(6,one (.pointer (some ⟨b2,0,none⟩))),(7,one (.pointer (some ⟨b,0,none⟩))),(8,one (.int .i64 (i:Nat))),(9,one (.int .i64 (j:Nat))),(30,one (.bool (decide (j<c∧i*c+j<l.length))))])
   (fun _ => [aQ b 35 3 [(0, .one,one (.int .i64 r)),(1, .one,one (.int .i64 c)),(2, .one,one (slV (some bo) r cap1))],iM (some bo) cap1 r c bs,eQ c bs (fE (fun n=>l.getD n 0) c i j),
   aQ b2 35 3 (dt #[Value.int IntKind.i64 0,Value.int IntKind.i64 0,Value.slice none 0 0] [(0,Lay.one),(1,Lay.one),(2,Lay.one)])]) (fun _=>True) ?_ (fun _ _ => ?_)
  ·refine ai (AQ Z (AQ Z (AP (bH Z Z) (AQ Z ?_))))
   refine nT (t:=21) Z (fun b h1 => ?_)
   rw [h1]
   cases b
   ·simp at h1
    refine sg0 Z Z Z Z (sg0 Z Z Z Z (sg0 Z Z Z Z (sg0 Z Z Z Z (sg0 Z Z Z Z (sg0 Z Z Z Z (sg0 Z Z Z Z (sg0 Z Z Z Z (AP (bY Z Z) (AT ?_)))))))))
    refine dg () trivial (.cons Z A (.cons Z A (.cons Z A (.cons Z A (.cons Z A (.cons Z A (.cons Z A (.cons Z (av ?_) .nil)))))))) (SubM.refl _)
    congr 1;symm;rw [decide_eq_false_iff_not]; omega
   ·simp at h1
    refine AS (ab Z) (AS (ab Z) ?_)
    (refine AS (lK Z Z (aT ?_ ?_)) ?_;omega;omega)
    refine AS (ab Z) ?_
    (refine AS (cB Z Z (aT ?_ ?_)) ?_;omega;omega)
    refine AS (ab Z) (AS (bh Z) (AS (bH Z Z) (AP (bP Z Z) (AT ?_))))
    refine dg () trivial (.cons Z A (.cons Z A (.cons Z A (.cons Z A (.cons Z A (.cons Z A (.cons Z A (.cons Z (av ?_) .nil)))))))) (SubM.refl _)
    congr 1;rw [decide_eq_decide]
    have:((i*c:Nat):Int)=(i:Int)*c:=by simp
    omega
  ·refine aa ?_
   refine bw Z (fun hc2 => ?_) (fun hc2 => ?_) <;> simp only [decide_eq_true_eq,decide_eq_false_iff_not] at hc2
   ·have hm4:((i*c:Nat):Int)=(i:Int)*c:=by simp
    refine az (aa (ae (aw (bG 16 bL Y U (AP (aj Z) (AP (am 0 Z Z Z) (AQ Z ?_)))))))
    (refine AP (ar Z Z ?_) ?_;omega)
    (refine AP (bQ 1 Z Z ?_) ?_;omega)
    refine AQ Z (AQ Z (AQ Z (AQ Z ?_)))
    (refine AP (lK Z Z (aT ?_ ?_)) ?_;omega;omega)
    refine AQ Z ?_
    (refine AP (cB Z Z (aT ?_ ?_)) ?_;omega;omega)
    (refine AP (aR Z Z ?_) ?_;omega)
    refine AP (bj Z) ?_
    have hv:=ws (i:=((i:Int)*c+j).toNat) hl U
    refine AP (ao (kL _ hv.1 hv.2) Z ⟨A,AU⟩) ?_
    (refine AP (ar Z Z ?_) ?_;omega)
    refine AT ?_
    (refine gE 2 Z Z Z (qj ?_) ?_ Z ?_;omega;omega)
    refine AT (aK (aa (ai (AQ Z ?_))))
    (refine AP (cB Z Z (aT ?_ ?_)) ?_;omega;omega)
    refine AR Z (AT ?_)
    refine cz (s:=j) (j+1) (show _ from by omega) X AM (.keep AO (.keep AO (.keep (qk _ (by rw [mZ])) (SubM.refl _))))
   ·refine a8 (ay (ay (aM (aK (aa (ai (AQ Z ?_)))))))
    (refine AP (cB Z Z (aT ?_ ?_)) ?_;omega;omega)
    refine AR Z (AT ?_)
    refine cz (s:=i) (i+1) (show _ from by omega) X AM (.keep AO (.keep AO (.keep (fk fun q k hq hk => ?_) (SubM.refl _))))
    unfold fE
    by_cases h:q<i∨(q=i∧k<j)
    ·rw [if_pos h,if_pos X]
    ·rw [if_neg h]
     by_cases h2:q=i
     ·subst h2;rw [if_pos X]
      have:l.length≤q*c+k:=by omega
      simp [List.getD,List.getElem?_eq_none this]
     ·rw [if_neg X]
 ·have hin:i=r:=by omega
  subst hin
  refine a8 (ay (ay (aM (aa (ae (ai (AP (bM 0 Z Z) (bR 3 Z Z Z Z (AT ?_)))))))))
  refine aa (aH ?_)
  have hperm : ∀ (x y z u:Own), [x,y,z,u].Perm ([y,z] ++ [x,u]):=fun x y z u=>(List.Perm.swap y x _).trans (List.Perm.cons y (List.Perm.swap z x _))
  refine fh [iM sv1 cap1 i c bs,eQ c bs (fE (fun n=>l.getD n 0) c i 0)] (hperm _ _ _ _) (.keep (tL.refl _) (.keep (tL.box (ja hlen ⟨by simp,by simp,by simp⟩)) .nil)) (tM.refl _) ?_
  refine aX Tryz.results39 (.cellW 1 Z Z ?_)
  exact ku fun a b ha hb=>by simp [fE,ha]
end Tor
end
section
namespace Tor
open Go Go.RowKit Go.Proofs
variable [Tor.Co.Kc]
theorem zS (x:Int) : -10<x.tmod 10∧x.tmod 10<10:=⟨by
 have:=Int.tmod_lt_of_pos (-x) (show (0:Int)<10 by decide)
 rw [Int.neg_tmod] at this;omega,Int.tmod_lt_of_pos x U⟩
def dig (l:List Int) (n:Nat):Int:=(l.getD n 0).tmod 10
attribute [local irreducible] J PJ aB one slT bJ bB bv exT cd eP aQ aI slV VT.le Ret bN
attribute [local irreducible] aW dw
theorem ql (r c:Nat) (l:List Int) (hr0:r≤16) (hc0:c≤16):OkM Tryz.prog 33 [one (.int .i64 r),one (.int .i64 c),kX .i8 l] (kW r c) (fun s => [iM s.1.2.1 s.1.2.2 r c s.1.1,eQ c s.1.1 (fun i j=>dig l (i*c+j))]):=by
 unfold kX
 refine OkM.enter Tryz.func33 Z Tryz.ntmps33 Z (fun w O => ?_)
 refine ae (ai ?_)
 refine bO (T:=35) Z Z Z (fun b => ?_)
 refine AT (aa (ae (ai (AQ Z (AP (yV Z Z) (AP (uX Z Z) (AQ Z (AP (yV Z Z) (AP (uX Z Z) ?_)))))))))
 refine fJ (jb r c X X) Z ⟨av (by congr 1;omega),av (by congr 1;omega),AU⟩ Z Z (fun s => ?_)
 obtain ⟨⟨bs,sv1,cap1⟩,hlen,hsv⟩:=s
 simp only at hlen hsv
 unfold kW
 refine bO (T:=35) Z Z Z (fun b => ?_)
 refine bR 0 Z Z Z Z (AT (aa (ae (ae (ai (AR Z (AT (aa (aw ?_)))))))))
 rename_i b2
 refine cU (σ:=Nat) (fun i => [(2,slT .one l.length (fun i=>one (.int .i8 (l.getD i 0)))),(6,one (.pointer (some ⟨b2,0,none⟩))),(7,one (.pointer (some ⟨b,0,none⟩))),(8,one (.int .i64 (i:Nat)))])
  (fun i => [aQ b 35 3 [(0, .one,one (.int .i64 r)),(1, .one,one (.int .i64 c)),(2, .one,one (slV sv1 r cap1))],iM sv1 cap1 r c bs,eQ c bs (fE (dig l) c i 0),
   aQ b2 35 3 (dt #[Value.int IntKind.i64 0,Value.int IntKind.i64 0,Value.slice none 0 0] [(0,Lay.one),(1,Lay.one),(2,Lay.one)])])
  (fun i=>i≤r) (fun i=>r - i) 0 (Nat.zero_le _) AM (.keep AO (.keep AO (.keep (fk fun i j hi hj=>by simp [fE]) (SubM.refl _)))) (fun i hi => ?_)
 refine ae (ae (ai (AQ Z (AP (aj Z) (AP (am 0 Z Z Z) (AP (bH Z Z) (AT (aa ?_))))))))
 refine bw Z (fun hc => ?_) (fun hc => ?_) <;> simp at hc
 ·have hir:i<r:=by omega
  obtain ⟨bo,rfl⟩:=ib hsv X
  refine az (aa (ae (aw (ae (ai (AR Z (AT (aa (aw ?_)))))))))
  refine cU (σ:=Nat) (fun j => [(2,slT .one l.length (fun i=>one (.int .i8 (l.getD i 0)))),(6,one (.pointer (some ⟨b2,0,none⟩))),(7,one (.pointer (some ⟨b,0,none⟩))),(8,one (.int .i64 (i:Nat))),(9,one (.int .i64 (j:Nat)))])
   (fun j => [aQ b 35 3 [(0, .one,one (.int .i64 r)),(1, .one,one (.int .i64 c)),(2, .one,one (slV (some bo) r cap1))],iM (some bo) cap1 r c bs,eQ c bs (fE (dig l) c i j),
   aQ b2 35 3 (dt #[Value.int IntKind.i64 0,Value.int IntKind.i64 0,Value.slice none 0 0] [(0,Lay.one),(1,Lay.one),(2,Lay.one)])])
   (fun j=>j≤c) (fun j=>c - j) 0 (Nat.zero_le _) AM (SubM.refl _) (fun j hj => ?_)
  have hm:i*c≤16*16:=Nat.mul_le_mul X hc0
  have hm2:(i:Int)*c≤256:=by omega
  have hm3:0≤(i:Int)*c:=by have:=Nat.zero_le (i*c);omega
  refine ae (ae ?_)
  refine gU (σ:=Unit) (fun _ => [(2,slT .one l.length (fun i=>one (.int .i8 (l.getD i 0)))),(6,one (.pointer (some ⟨b2,0,none⟩))),(7,one (.pointer (some ⟨b,0,none⟩))),(8,one (.int .i64 (i:Nat))),(9,one (.int .i64 (j:Nat))),(37,one (.bool (decide (j<c∧i*c+j<l.length))))])
   (fun _ => [aQ b 35 3 [(0, .one,one (.int .i64 r)),(1, .one,one (.int .i64 c)),(2, .one,one (slV (some bo) r cap1))],iM (some bo) cap1 r c bs,eQ c bs (fE (dig l) c i j),
   aQ b2 35 3 (dt #[Value.int IntKind.i64 0,Value.int IntKind.i64 0,Value.slice none 0 0] [(0,Lay.one),(1,Lay.one),(2,Lay.one)])]) (fun _=>True) ?_ (fun _ _ => ?_)
  ·refine ai (AQ Z (AP (aj Z) (AP (am 0 Z Z Z) (AP (bH Z Z) (AQ Z ?_)))))
   refine nT (t:=27) Z (fun b h1 => ?_)
   rw [h1]
   cases b
   ·simp at h1
    refine sg0 Z Z Z Z (sg0 Z Z Z Z (sg0 Z Z Z Z (sg0 Z Z Z Z (sg0 Z Z Z Z (sg0 Z Z Z Z (sg0 Z Z Z Z (sg0 Z Z Z Z (sg0 Z Z Z Z (AP (bY Z Z) ?_)))))))))
    refine AT ?_
    refine dg () trivial (.cons Z A (.cons Z A (.cons Z A (.cons Z A (.cons Z A (.cons Z (av ?_) .nil)))))) (SubM.refl _)
    congr 1;symm;rw [decide_eq_false_iff_not]; omega
   ·simp at h1
    refine AS (ab Z) (AS (aj Z) (AS (am 0 Z Z Z) ?_))
    (refine AS (lK Z Z (aT ?_ ?_)) ?_;omega;omega)
    refine AS (ab Z) ?_
    (refine AS (cB Z Z (aT ?_ ?_)) ?_;omega;omega)
    refine AS (ab Z) (AS (bh Z) (AS (bH Z Z) (AP (bP Z Z) (AT ?_))))
    refine dg () trivial (.cons Z A (.cons Z A (.cons Z A (.cons Z A (.cons Z A (.cons Z (av ?_) .nil)))))) (SubM.refl _)
    congr 1;rw [decide_eq_decide]
    have:((i*c:Nat):Int)=(i:Int)*c:=by simp
    omega
  ·refine aa ?_
   refine bw Z (fun hc2 => ?_) (fun hc2 => ?_) <;> simp only [decide_eq_true_eq,decide_eq_false_iff_not] at hc2
   ·have hm4:((i*c:Nat):Int)=(i:Int)*c:=by simp
    refine az (aa (ae (aw (bG 19 bL Y U (AP (aj Z) (AP (am 0 Z Z Z) (AQ Z ?_)))))))
    (refine AP (ar Z Z ?_) ?_;omega)
    (refine AP (bQ 1 Z Z ?_) ?_;omega)
    refine AQ Z (AQ Z (AQ Z (AP (aj Z) (AP (am 0 Z Z Z) ?_))))
    (refine AP (lK Z Z (aT ?_ ?_)) ?_;omega;omega)
    refine AQ Z ?_
    (refine AP (cB Z Z (aT ?_ ?_)) ?_;omega;omega)
    (refine AP (aR Z Z ?_) ?_;omega)
    refine AP (bj Z) (AP (yQ Z Z U Z) ?_)
    have hv:=zS (l.getD (i*c+j) 0)
    refine AP (d9 Z ?_ ?_) ?_; · omega
    ·omega
    refine AP (ao (kL _ X X) Z ⟨A,AU⟩) ?_
    (refine AP (ar Z Z ?_) ?_;omega)
    refine AT ?_
    (refine gE 2 Z Z Z (qj ?_) ?_ Z ?_;omega;omega)
    refine AT (aK (aa (ai (AQ Z ?_))))
    (refine AP (cB Z Z (aT ?_ ?_)) ?_;omega;omega)
    refine AR Z (AT ?_)
    refine cz (s:=j) (j+1) (show _ from by omega) X AM (.keep AO (.keep AO (.keep (qk _ Z) (SubM.refl _))))
   ·refine a8 (ay (ay (aM (aK (aa (ai (AQ Z ?_)))))))
    (refine AP (cB Z Z (aT ?_ ?_)) ?_;omega;omega)
    refine AR Z (AT ?_)
    refine cz (s:=i) (i+1) (show _ from by omega) X AM (.keep AO (.keep AO (.keep (fk fun q k hq hk => ?_) (SubM.refl _))))
    unfold fE
    by_cases h:q<i∨(q=i∧k<j)
    ·rw [if_pos h,if_pos X]
    ·rw [if_neg h]
     by_cases h2:q=i
     ·subst h2;rw [if_pos X]
      have:l.length≤q*c+k:=by omega
      simp [dig,List.getD,List.getElem?_eq_none this]
     ·rw [if_neg X]
 ·have hin:i=r:=by omega
  subst hin
  refine a8 (ay (ay (aM (aa (ae (ai (AP (bM 0 Z Z) (bR 3 Z Z Z Z (AT ?_)))))))))
  refine aa (aH ?_)
  refine lV ⟨(bs,sv1,cap1),hlen,hsv⟩ Tryz.results33 (.cellW 3 Z Z ?_) ?_
  ·show VT.le _ (kW i c _)
   unfold kW
   exact VT.le_refl _
  ·refine .drop (.keep AO (.keep (fk fun a b ha hb => ?_) (.drop .nil)))
   have:a<i:=by have:a<bs.length:=ha;omega
   simp [fE,this]
theorem qm {r c:Nat} (F:Nat→Nat→Int) (s:Au r):Ent [iM s.1.2.1 s.1.2.2 r c s.1.1,eQ c s.1.1 F] (kW r c s) (ch r c F):=by
 unfold kW ch
 exact Ent.agg (ja s.2.1 ⟨by simp,by simp,by simp⟩)
theorem mG (r c:Nat) (l:List Int) (hr0:r≤16) (hc0:c≤16):Ok Tryz.prog 33 [one (.int .i64 r),one (.int .i64 c),kX .i8 l] (ch r c (fun i j=>dig l (i*c+j))) :=
 (ql r c l hr0 hc0).ok fun s=>qm _ s
end Tor
end
section
namespace Tor
open Go Go.RowKit Go.Proofs
variable [Tor.Co.Kc]
instance {neg:Bool} {l:List Nat} : Flat (jC neg l) (.agg 2):=by unfold jC;infer_instance
theorem rE {neg:Bool} {l:List Nat} {v:Value} {h:Hp} (H:(jC neg l).p v h):l.length≤281474976710656:=by
 obtain ⟨c,_,_,_,h4⟩:=H
 obtain ⟨x,_,hp⟩:=h4 _ (List.mem_cons_of_mem _ List.mem_cons_self)
 exact eX hp
theorem m0 {r c:Int} {a:List rD} {v:Value} {h:Hp} (H:(kr r c a).p v h):a.length≤2^48:=by
 obtain ⟨c,_,_,_,h4⟩:=H
 obtain ⟨x,_,hp⟩:=h4 _ (List.mem_cons_of_mem _ (List.mem_cons_of_mem _ List.mem_cons_self))
 exact eX hp
def mH (r c:Nat) (F:Nat→Nat→Int):List rD:=(tab r c F).map (·.map lg)
theorem wv (r c:Nat) (F:Nat→Nat→Int):VT.le (ch r c F) (kr r c (mH r c F)):=by
 refine VT.le_trans (wq r c F) ?_
 unfold zQ kr
 refine fI (fun q hq => ?_)
 rcases List.mem_cons.1 hq with rfl | hq
 ·exact ⟨_,List.mem_cons_self,A⟩
 rcases List.mem_cons.1 hq with rfl | hq
 ·exact ⟨_,List.mem_cons_of_mem _ List.mem_cons_self,A⟩
 rcases List.mem_cons.1 hq with rfl | hq
 ·refine ⟨_,List.mem_cons_of_mem _ (List.mem_cons_of_mem _ List.mem_cons_self),?_⟩
  unfold wn dW mH
  refine VT.le_trans (fy (ψ:=fun i=>eO (((tab r c F).map (·.map lg)).getD i [])) (fun i hi => ?_)) (jk (by simp))
  refine VT.le_trans (wo _) (jk ?_)
  simp [List.getD,List.getElem?_eq_getElem hi]
 ·cases hq
theorem rF (r c:Nat) (F:Nat→Nat→Int):ia r c (mH r c F)=true:=by
 unfold ia mH
 simp only [List.length_map,tab_length,Bool.and_eq_true,decide_eq_true_eq,List.all_map]
 refine ⟨⟨by omega,by omega,AU⟩,?_⟩
 rw [List.all_eq_true]
 intro x hx
 simp only [tab,List.mem_map,List.mem_range] at hx
 obtain ⟨i,hi,rfl⟩:=hx
 simp only [iL,Function.comp,List.length_map,List.length_range,List.all_map,Bool.and_eq_true,decide_eq_true_eq]
 refine ⟨trivial,?_⟩
 rw [List.all_eq_true]
 intro y hy
 exact rB _
attribute [local irreducible] J PJ aB one slT bJ bB bv exT cd eP aQ aI slV VT.le Ret bN
theorem ww (neg:Bool) (l:List Nat):Ok Tryz.prog 120 [jC neg l] (one (.bool (fb neg l))):=by
 refine Ok.enter Tryz.func120 Z Tryz.ntmps120 Z (fun w O => ?_)
 refine iz (t:=0) Z (fun _ _=>rE) (fun hl => ?_)
 unfold jC
 by_cases h0:l.length=0
 ·refine ae (ai ?_)
  refine bE Z Z (ltN Z) (fun b => ?_)
  refine AR Z (AT (aa (ae (ae (ai (AP (aj Z) (AP (am 0 Z Z Z) (AP (bh Z) (AR Z ?_)))))))))
  refine AT (aa (ae (ai (AQ Z (AP (dk Z Z) (AT (aa ?_)))))))
  refine bw Z (fun hc => ?_) (fun hc => ?_) <;> simp only [decide_eq_true_eq,decide_eq_false_iff_not,ne_eq,Decidable.not_not] at hc
  ·omega
  ·refine az (aa (ae (ai (AP (aj Z) (AP (am 0 Z Z Z) (AP (dl Z) (AR Z (AT (aa ?_)))))))))
   refine aH ?_
   exact aX Tryz.results120 (.tmp Z (av (by unfold fb;rw [if_pos h0])))
 ·refine ae (ai ?_)
  refine bE Z Z (ltN Z) (fun b => ?_)
  refine AR Z (AT (aa (ae (ae (ai (AP (aj Z) (AP (am 0 Z Z Z) (AP (bh Z) (AR Z ?_)))))))))
  refine AT (aa (ae (ai (AQ Z (AP (dk Z Z) (AT (aa ?_)))))))
  refine bw Z (fun hc => ?_) (fun hc => ?_) <;> simp only [decide_eq_true_eq,decide_eq_false_iff_not,ne_eq,Decidable.not_not] at hc
  ·refine ae (ai (AP (aj Z) (AP (am 0 Z Z Z) (AQ Z ?_))))
   (refine AP (eu Z Z (aT ?_ ?_)) ?_;omega;omega)
   (refine AP (gB Z Z ?_ ?_) ?_;omega;omega)
   refine AP (bj Z) (AP (eh Z Z) (AR Z (AT (aa (aH (aL ?_))))))
   refine aX Tryz.results120 (.tmp Z (av ?_))
   have e:(↑l.length - 1:Int).toNat=l.length - 1:=by omega
   unfold fb;rw [if_neg h0,e]; congr 1;rw [decide_eq_decide]; omega
  ·omega
attribute [local irreducible] aW jC
attribute [local irreducible] eO
theorem qn (r c:Int) (a:List rD):Ok Tryz.prog 80 [kr r c a] (one (.bool (ia r c a))):=by
 refine Ok.enter Tryz.func80 Z Tryz.ntmps80 Z (fun w O => ?_)
 refine iz (t:=0) Z (fun _ _=>m0) (fun ha => ?_)
 unfold kr
 unfold dW
 refine ae (ai ?_)
 refine bE Z Z (ltN Z) (fun b => ?_)
 refine AR Z (AT (aa (ae (ae (ai (AP (aj Z) (AP (am 0 Z Z Z) (AP (bH Z Z) (AQ Z ?_)))))))))
 refine nT (t:=10) Z (fun bo hb => ?_)
 rw [hb]
 cases bo
 ·have e1:0≤r:=by simpa using hb
  refine AS (aj Z) (AS (am 0 Z Z Z) (AS (bH Z Z) (AP (bY Z Z) (AQ Z ?_))))
  refine nT (t:=15) Z (fun bo hb2 => ?_)
  rw [hb2]
  cases bo
  ·have e2:0≤c:=by simpa using hb2
   refine AS (aj Z) (AS (am 0 Z Z Z) (AS (bh Z) (AS (aj Z) (AS (am 0 Z Z Z) (AS (eh Z Z) (AP (bY Z Z) (AT (aa ?_))))))))
   refine bw Z (fun hc => ?_) (fun hc => ?_) <;> simp only [decide_eq_true_eq,decide_eq_false_iff_not,ne_eq,Decidable.not_not] at hc
   ·refine ae (ai (AR Z (AT (aa (aH (aL ?_))))))
    refine aX Tryz.results80 (.tmp Z (av ?_))
    simp [ia,hc]
   ·have e3:(a.length:Int)=r:=hc
    refine az (aa (ae (ae (ai (AP (aj Z) (AP (am 0 Z Z Z) (AP (bh Z) (AQ Z (AT ?_)))))))))
    refine aa (aw ?_)
    refine cU (σ:=Nat) (fun i => [(1,one (.pointer (some ⟨b,0,none⟩))),(24,dW a),(25,one (.int .i64 a.length)),(26,one (.int .i64 (i:Nat)))])
     (fun _ => [aQ b 35 3 [(0, .one,one (.int .i64 r)),(1, .one,one (.int .i64 c)),(2, .one,dW a)]])
     (fun i=>i≤a.length∧(a.take i).all (iL c)=true) (fun i=>a.length - i) 0 ⟨Nat.zero_le _,rfl⟩ AM (SubM.refl _) (fun i ⟨hi,ht⟩ => ?_)
    unfold dW
    refine ae (ai (AP (bH Z Z) (AT (aa (ae ?_)))))
    refine bw Z (fun hc => ?_) (fun hc => ?_) <;> simp at hc
    ·refine az (aa (ae (aw (ae (ai ?_)))))
     (refine AP (aR Z Z ?_) ?_;omega)
     refine AP (bj Z) (AR Z (AT (aa (ae (ae (ai (AQ Z ?_)))))))
     unfold eO
     refine AP (bh Z) (AP (aj Z) (AP (am 0 Z Z Z) (AP (eh Z Z) (AT (aa ?_)))))
     refine bw Z (fun hc2 => ?_) (fun hc2 => ?_) <;> simp only [decide_eq_true_eq,decide_eq_false_iff_not,ne_eq,Decidable.not_not] at hc2
     ·refine ae (ai (AR Z (AT (aa (aH (aL (bq (aL (aL ?_)))))))))
      refine bq (aL ?_)
      refine aX Tryz.results80 (.tmp Z (av ?_))
      have:=rC (p:=iL c) (d := []) hc (by simp only [iL,Bool.and_eq_false_iff]; left;simpa using hc2)
      simp [ia,this]
     ·refine iz (t:=29) Z (fun _ _=>eX) (fun hlb => ?_)
      refine az (aa (ae (ai (AQ Z (AP (bh Z) (AQ Z (AT (aa (aw ?_)))))))))
      refine cU (σ:=Nat) (fun j => [(1,one (.pointer (some ⟨b,0,none⟩))),(24,dW a),(25,one (.int .i64 a.length)),(26,one (.int .i64 (i:Nat))),(35,eO (a.getD i [])),(36,one (.int .i64 (a.getD i []).length)),(37,one (.int .i64 (j:Nat)))])
       (fun _ => [aQ b 35 3 [(0, .one,one (.int .i64 r)),(1, .one,one (.int .i64 c)),(2, .one,dW a)]])
       (fun j=>j≤(a.getD i []).length∧((a.getD i []).take j).all (fun p=>fb p.1 p.2)=true) (fun j=>(a.getD i []).length - j) 0 ⟨Nat.zero_le _,rfl⟩ (by unfold dW eO;repeat (first | exact dG.nil | refine dG.cons Z A ?_ | (refine dG.cons Z (av ?_) ?_;(congr 1;first | omega | (simp;omega) | simp)))) (by unfold dW eO;exact SubM.refl _) (fun j ⟨hj,hu⟩ => ?_)
      unfold dW eO
      refine ae (ai (AP (bH Z Z) (AT (aa (ae ?_)))))
      refine bw Z (fun hc3 => ?_) (fun hc3 => ?_) <;> simp only [decide_eq_true_eq,decide_eq_false_iff_not,Int.ofNat_lt] at hc3
      ·refine az (aa (ae (aw (ae (ai ?_)))))
       (refine AP (aR Z Z ?_) ?_;omega)
       refine AP (bj Z) ?_
       refine aU (T:=28) Z (ltN Z) (fun b => ?_)
       refine au 0 Z Z Z Z Z (leN Z) Z (AT (aa (ae (ai (AP (am 0 Z Z Z) ?_)))))
       refine AP (ao (ww ((a.getD i []).getD j (false, [])).1 ((a.getD i []).getD j (false, [])).2) Z ⟨A,AU⟩) ?_
       refine AP (dl Z) (AT (aa ?_))
       refine bw Z (fun hc4 => ?_) (fun hc4 => ?_)
       ·refine ae (ai (AR Z (AT (aa (aH (bq (aL (aL (bq ?_)))))))))
        refine bq (aL (aL (bq (aL ?_))))
        refine aX Tryz.results80 (.tmp Z (av ?_))
        have h1:=rC (p:=fun p:Bool × List Nat=>fb p.1 p.2) (d:=(false, [])) (v:=a.getD i []) hc3 (by simpa using hc4)
        have h2:=rC (p:=iL c) (d := []) hc (by simp only [iL,Bool.and_eq_false_iff]; right;exact h1)
        simp [ia,h2]
       ·refine az (aK (aa (ai ?_)))
        (refine AP (cB Z Z (aT ?_ ?_)) ?_;omega;omega)
        refine AQ Z (AT ?_)
        exact cz (s:=j) (j+1) ⟨by omega,tf (d:=(false, [])) hu hc3 (by simpa using hc4)⟩ (by show (a.getD i []).length - (j+1)<(a.getD i []).length - j;omega) AM (.drop (SubM.refl _))
      ·refine a8 (ay (ay (aM (aK (aa (ai ?_))))))
       (refine AP (cB Z Z (aT ?_ ?_)) ?_;omega;omega)
       refine AQ Z (AT ?_)
       rw [List.take_of_length_le X] at hu
       exact cz (s:=i) (i+1) ⟨by omega,tf (d := []) ht hc (by simp only [iL,Bool.and_eq_true]; exact ⟨by simpa using hc2,hu⟩)⟩ (by show a.length - (i+1)<a.length - i;omega) AM (SubM.refl _)
    ·refine a8 (ay (ay (aM (aa (ae (ai (AR Z (AT (aa ?_)))))))))
     refine aH ?_
     refine aX Tryz.results80 (.tmp Z (av ?_))
     rw [List.take_of_length_le X] at ht
     simp [ia,ht,e1,e2,e3]
  ·have e2 : ¬ (0≤r∧0≤c):=by simp at hb2;omega
   refine sg0 Z Z Z Z (sg0 Z Z Z Z (sg0 Z Z Z Z (sg0 Z Z Z Z (sg0 Z Z Z Z (sg0 Z Z Z Z (AP (bP Z Z) (AT (aa ?_))))))))
   refine bw Z (fun hc => ?_) (fun hc => ?_)
   ·refine ae (ai (AR Z (AT (aa (aH (aL ?_))))))
    refine aX Tryz.results80 (.tmp Z (av ?_))
    simp only [ia]; rw [decide_eq_false X]; rfl
   ·cases hc
 ·have e1 : ¬ 0≤r:=by simpa using hb
  refine sg0 Z Z Z Z (sg0 Z Z Z Z (sg0 Z Z Z Z (AP (bP Z Z) (AQ Z (sg0 Z Z Z Z (sg0 Z Z Z Z (sg0 Z Z Z Z (sg0 Z Z Z Z (sg0 Z Z Z Z ?_)))))))))
  refine sg0 Z Z Z Z (AP (bP Z Z) (AT (aa ?_)))
  refine bw Z (fun hc => ?_) (fun hc => ?_)
  ·refine ae (ai (AR Z (AT (aa (aH (aL ?_))))))
   refine aX Tryz.results80 (.tmp Z (av ?_))
   simp [ia,e1]
  ·cases hc
end Tor
end
section
namespace Tor
open Go Go.RowKit Go.Proofs
variable [Tor.Co.Kc]
instance {r c:Nat} {F:Nat→Nat→Int} : Flat (ch r c F) (.agg 3):=by unfold ch;infer_instance
attribute [local irreducible] J PJ aB one slT bJ bB bv exT cd eP aQ aI slV VT.le Ret bN
attribute [local irreducible] aW ch
theorem kv (r c:Nat) (F:Nat→Nat→Int):Ok Tryz.prog 80 [ch r c F] (one (.bool true)):=by
 have h:=qn r c (mH r c F)
 rw [rF] at h
 exact h.le ⟨wv r c F,AU⟩ A
end Tor
end
section
namespace Tor
open Go Go.RowKit Go.Proofs
variable [Tor.Co.Kc]
attribute [local irreducible] J PJ aB one slT bJ bB bv exT cd eP aQ aI slV VT.le Ret bN
theorem wx (n:Nat) (φ ψ χ:Nat→VT) [hF : ∀ i,Flat (χ i) (.agg 2)] (cl:VT) (hn:n≤1048576) (hC : ∀ i,i<n→fm Tryz.prog cl [φ i, ψ i] (χ i)):Ok Tryz.prog 146 [slT (.agg 2) n φ,slT (.agg 2) n ψ,cl] (slT (.agg 2) n χ):=by
 refine Ok.enter Tryz.func146 Z Tryz.ntmps146 Z (fun w O => ?_)
 refine ae (ai (AR Z (AT (aa (ae (ai (AQ Z (AP (bh Z) ?_))))))))
 refine cx n n Z Z Z Z (Nat.le_refl _) Z Z X Z Z (fun bz => ?_)
 refine AR Z (AT (aa (ae (ae (ai (AQ Z (AP (ix Z) (AQ Z (AT ?_)))))))))
 refine aa (aw ?_)
 refine cU (σ:=Nat) (fun i => [(0,slT (.agg 2) n φ),(1,slT (.agg 2) n ψ),(2,cl),(7,one (slV (some bz) n n)),(13,one (.int .i64 n)),(14,one (.int .i64 (i:Nat)))])
  (fun i => [aI (some bz) 28 (.agg 2) n n (fun q=>if q<i then χ q else bN)]) (fun i=>i≤n) (fun i=>n - i) 0 (Nat.zero_le _) AM (.keep (jR fun q hq=>by rw [if_neg X]; exact ou _) .nil) (fun i hi => ?_)
 refine ae (ai (AP (bH Z Z) (AT (aa (ae ?_)))))
 refine bw Z (fun hc => ?_) (fun hc => ?_) <;> simp only [decide_eq_true_eq,decide_eq_false_iff_not,ne_eq,Decidable.not_not] at hc
 ·refine az (aa (ae (aw (ae (ai (AQ Z (AR Z (AT (aa ?_)))))))))
  refine bG 13 bL Y U (AQ Z (AQ Z (AQ Z (AQ Z (AQ Z ?_)))))
  (refine AP (aR Z Z ?_) ?_;omega)
  refine AP (bj Z) (AQ Z (AQ Z ?_))
  (refine AP (aR Z Z ?_) ?_;omega)
  refine AP (bj Z) ?_
  refine AP (lp (hC i X) Z Z ⟨A,A,AU⟩) ?_
  (refine AP (ar Z Z ?_) ?_;omega)
  refine AT ?_
  (refine ax 0 Z Z Z ?_ Z ?_;omega)
  refine AT (aK (aa (ai ?_)))
  (refine AP (cB Z Z (aT ?_ ?_)) ?_;omega;omega)
  refine AQ Z (AT ?_)
  refine cz (s:=i) (i+1) (show _ from by omega) (by show n - (i+1)<n - i;omega) AM (.keep (bZ fun q hq => ?_) .nil)
  unfold upd
  by_cases h:q=i
  ·subst h;rw [if_pos Z,if_pos X]
  ·rw [if_neg h]
   have e:q<i+1↔q<i:=by omega
   simp only [e]
 ·have hk:i=n:=by omega
  subst hk
  refine a8 (ay (ay (aM (aa (ae (ai (AQ Z (AR Z (AT ?_)))))))))
  refine aa (aH (dX (t:=6) (i:=0) Z Z ?_))
  refine aX Tryz.results146 (.tmp Z (fy fun q hq => ?_))
  rw [if_pos hq]; exact VT.le_refl _
end Tor
end
section
namespace Tor
open Go Go.RowKit Go.Proofs
variable [Tor.Co.Kc]
def it:Nat→(Nat→Int)→Int
 | 0, _ => 0
 | n + 1, f => it n f + f n
theorem rG {n B:Nat} {f:Nat→Int} (h : ∀ i,(f i).natAbs≤B):(it n f).natAbs≤n*B:=by
 induction n with
 | zero => simp [it]
 | succ n ih =>
  rw [it,Nat.succ_mul]
  have:=h n
  omega
theorem wy {n k:Nat} {f:Nat→Int} (hn:n≤1048576) (h : ∀ i,(aS (f i).natAbs).length≤k):(aS (it n f).natAbs).length≤k+1:=db (by
 have h1:=rG (n:=n) fun i=>Nat.le_of_lt (zw (h i))
 rw [Nat.pow_succ,Nat.mul_comm]
 exact Nat.lt_of_le_of_lt h1 (Nat.mul_lt_mul_of_pos_right X (Nat.pow_pos U)))
theorem rH {n:Nat} {f:Nat→Int} (hn:n≤1048576) (h : ∀ i,(aS (f i).natAbs).length≤549755813888):ci (it n f):=Nat.le_trans (wy hn h) U
attribute [local irreducible] J PJ aB one slT bJ bB bv exT cd eP aQ aI slV VT.le Ret bN
attribute [local irreducible] aW
end Tor
end
section
namespace Tor
open Go Go.RowKit Go.Proofs
variable [Tor.Co.Kc]
def tg (ok:Bool) (e:Int) (r c:Nat) (F:Nat→Nat→Int):VT:=bv [ch (if ok then r else 0) (if ok then c else 0) F,one (.int .i64 (if ok then 0 else e))]
theorem qo (F:Nat→Nat→Int):VT.le (bB 3 (dt #[Value.int IntKind.i64 0,Value.int IntKind.i64 0,Value.slice none 0 0] [(0,Lay.one),(1,Lay.one),(2,Lay.one)])) (ch 0 0 F):=by
 unfold ch
 refine fI (fun q hq => ?_)
 rcases List.mem_cons.1 hq with rfl | hq
 ·exact ⟨_,List.mem_cons_self,A⟩
 rcases List.mem_cons.1 hq with rfl | hq
 ·exact ⟨_,List.mem_cons_of_mem _ List.mem_cons_self,A⟩
 rcases List.mem_cons.1 hq with rfl | hq
 ·exact ⟨_,List.mem_cons_of_mem _ (List.mem_cons_of_mem _ List.mem_cons_self),gq⟩
 ·cases hq
theorem gO:VT.le (bB 2 (dt #[Value.bool false,Value.slice none 0 0] [(0,Lay.one),(1,Lay.one)])) (aW 0):=by
 unfold aW
 refine fI (fun q hq => ?_)
 rcases List.mem_cons.1 hq with rfl | hq
 ·exact ⟨_,List.mem_cons_self,A⟩
 rcases List.mem_cons.1 hq with rfl | hq
 ·exact ⟨_,List.mem_cons_of_mem _ List.mem_cons_self,gq⟩
 ·cases hq
attribute [local irreducible] J PJ aB one slT bJ bB bv exT cd eP aQ aI slV VT.le Ret bN
attribute [local irreducible] aW
theorem yd (n m:Nat) (f g:Nat→Int) (hn:n≤1048576) (hm:m≤1048576) (hf : ∀ i,pT (f i)) (hg : ∀ i,pT (g i)) :
  Ok Tryz.prog 122 [d6 n f,d6 m g] (bv [aW (if n=m then it n (fun k=>f k*g k) else 0),one (.int .i64 (if n=m then 0 else 50))]):=by
 unfold d6
 refine Ok.enter Tryz.func122 Z Tryz.ntmps122 Z (fun w O => ?_)
 refine ae (ai ?_)
 refine aU (T:=28) Z (ltN Z) (fun b => ?_)
 refine AR Z (AT (aa (ae (ae (ai (AQ Z (AP (bh Z) (AQ Z (AP (bh Z) ?_)))))))))
 refine AP (eh Z Z) (AT (aa ?_))
 refine bw Z (fun hc => ?_) (fun hc => ?_) <;> simp only [decide_eq_true_eq,decide_eq_false_iff_not,ne_eq,Decidable.not_not] at hc
 ·have hne : ¬ n=m:=by omega
  refine ae (ai (stB Z Z Z (BuildK.nil (au 0 Z Z Z Z Z (leN Z) Z (AR Z (AT (aa (aH (aL ?_)))))))))
  refine c5 Tryz.results122 (.cellB 0 Z Z Z ?_) (.tmp Z (av ?_))
  ·rw [if_neg hne]; exact gO
  ·rw [if_neg hne]
 ·have he:n=m:=by omega
  subst he
  refine az (aa (ae (ai ?_)))
  refine aU (T:=28) Z (ltN Z) (fun b => ?_)
  refine AT (aa (ae (ae (ai (AQ Z (AQ Z ?_))))))
  rename_i b4
  refine AP (ao (wx n (fun j=>aW (f j)) (fun j=>aW (g j)) (fun j=>aW (f j*g j)) (one (.func (.func 87) #[] #[])) hn (fun i hi=>fm.fn (fN _ _ (ml (hf i)) (ml (hg i))))) Z ⟨A,A,A,AU⟩) ?_
  refine AP (bh Z) (AQ Z (AT (aa (aw ?_))))
  refine cU (σ:=Nat) (fun i => [(4,one (.pointer (some ⟨b4,0,none⟩))),(6,one (.pointer (some ⟨b,0,none⟩))),(17,slT (.agg 2) n (fun j=>aW (f j*g j))),(18,one (.int .i64 n)),(19,one (.int .i64 (i:Nat)))])
   (fun i => [aQ b 28 2 [(0, .agg 2,aW (it i (fun k=>f k*g k)))],aQ b4 28 2 [(0, .agg 2,one (.agg #[.bool false, .slice none 0 0]))]])
   (fun i=>i≤n) (fun i=>n - i) 0 (Nat.zero_le _) AM (.keep (xu fun q hq=>by rcases List.mem_cons.1 hq with rfl | hq;exact ⟨_,List.mem_cons_self,qi⟩;cases hq) (SubM.refl _)) (fun i hi => ?_)
  refine ae (ai (AP (bH Z Z) (AT (aa (ae ?_)))))
  refine bw Z (fun hc => ?_) (fun hc => ?_) <;> simp only [decide_eq_true_eq,decide_eq_false_iff_not,Int.ofNat_lt] at hc
  ·refine az (aa (ae (aw (ae (ai ?_)))))
   (refine AP (aR Z Z ?_) ?_;omega)
   refine AP (bj Z) ?_
   refine aU (T:=28) Z (ltN Z) (fun b => ?_)
   refine au 0 Z Z Z Z Z (leN Z) Z (AT (aa (ai (AP (am 1 Z Z Z) (AP (am 0 Z Z Z) ?_)))))
   refine AP (ao (fM (it i (fun k=>f k*g k)) (f i*g i) (rH X (fun k=>pU (hf k) (hg k))) (tX (hf i) (hg i))) Z ⟨A,A,AU⟩) ?_
   refine au 1 Z Z Z Z Z (leN Z) Z (AT (aK (aa (ai ?_))))
   (refine AP (cB Z Z (aT ?_ ?_)) ?_;omega;omega)
   refine AQ Z (AT ?_)
   exact cz (s:=i) (i+1) (show _ from by omega) (by show n - (i+1)<n - i;omega) AM (.drop (.keep AO (SubM.refl _)))
  ·have hin:i=n:=by omega
   subst hin
   refine a8 (ay (ay (aM (aa (ae (ai (AP (am 0 Z Z Z) (au 1 Z Z Z Z Z (leN Z) Z (AR Z ?_)))))))))
   refine AT (aa (aH ?_))
   refine c5 Tryz.results122 (.cellB 1 Z Z Z ?_) (.tmp Z (av ?_))
   ·rw [if_pos Z]; exact VT.le_refl _
   ·rw [if_pos Z]
theorem zT (n m:Nat) (f g:Nat→Int) (hn:n≤1048576) (hm:m≤1048576) (hf : ∀ i,jD (f i)) (hg : ∀ i,jD (g i)) :
  Ok Tryz.prog 122 [d6 n f,d6 m g] (bv [aW (if n=m then it n (fun k=>f k*g k) else 0),one (.int .i64 (if n=m then 0 else 50))]) :=
 yd n m f g hn hm (fun i=>(hf i).L) (fun i=>(hg i).L)
end Tor
end
section
namespace Tor
open Go Go.RowKit Go.Proofs
variable [Tor.Co.Kc]
def d7 (F:Nat→Nat→Int) (i j:Nat):Nat→Nat→Int:=fun q k=>if q<i∨(q=i∧k<j) then F q k else 0
theorem jc {T:TypeId} {c:Nat} {bs:List Nat} {F:Nat→Nat→Int} {i j:Nat} (x:Int) (hx:x=F i j) :
  Own.le (dw T (.agg 2) c bs (lX (fun q k=>aW (d7 F i j q k)) i j (aW x))) (dw T (.agg 2) c bs (fun q k=>aW (d7 F i (j+1) q k))):=by
 subst hx
 refine lW fun q k hq hk => ?_
 unfold lX d7
 by_cases h:q=i∧k=j
 ·obtain ⟨rfl,rfl⟩:=h;simp
 ·rw [if_neg h]
  have e:(q<i∨q=i∧k<j+1)↔(q<i∨q=i∧k<j):=by omega
  simp only [e]
theorem jI {c:Nat} {bs:List Nat} {F:Nat→Nat→Int} {i:Nat} : Own.le (eQ c bs (d7 F i c)) (eQ c bs (d7 F (i+1) 0)):=by
 refine fk fun q k hq hk => ?_
 unfold d7
 have e:(q<i∨q=i∧k<c)↔(q<i+1∨q=i+1∧k<0):=by omega
 simp only [e]
attribute [local irreducible] J PJ aB one slT bJ bB bv exT cd eP aQ aI slV VT.le Ret bN
attribute [local irreducible] aW dw
end Tor
end
section
namespace Tor
open Go Go.RowKit Go.Proofs
variable [Tor.Co.Kc]
def gz (ra:Nat) (F G:Nat→Nat→Int):Nat→Nat→Int:=fun i k=>if i<ra then F i k else G (i - ra) k
attribute [local irreducible] J PJ aB one slT bJ bB bv exT cd eP aQ aI slV VT.le Ret bN
end Tor
end
section
namespace Tor
open Go Go.RowKit Go.Proofs
variable [Tor.Co.Kc]
attribute [local irreducible] J PJ aB one slT bJ bB bv exT cd eP aQ aI slV VT.le Ret bN
attribute [local irreducible] aW dw
theorem ur (r c:Nat) (F:Nat→Nat→Int) (k:Int) (hr0:r≤1048576) (hc0:c≤1048576) (hF : ∀ i j,ci (F i j)) (hk:ci k):Ok Tryz.prog 42 [ch r c F,aW k] (ch r c (fun i j=>F i j*k)):=by
 unfold ch
 refine Ok.enter Tryz.func42 Z Tryz.ntmps42 Z (fun w O => ?_)
 refine ae (ai ?_)
 refine bE Z Z (ltN Z) (fun b => ?_)
 refine ji Z Z (ltN Z) (fun b => ?_)
 refine bO (T:=35) Z Z Z (fun b => ?_)
 refine AT (aa (ae (ai (AP (aj Z) (AP (am 2 Z Z Z) (AP (aj Z) (AP (am 2 Z Z Z) ?_)))))))
 refine fJ (jb r c hr0 hc0) Z ⟨A,A,AU⟩ Z Z (fun s => ?_)
 obtain ⟨⟨bs,sv1,cap1⟩,hlen,hsv⟩:=s
 simp only at hlen hsv
 unfold kW
 refine bO (T:=35) Z Z Z (fun b => ?_)
 refine bR 0 Z Z Z Z (AT (aa (ae (ae (ai (AR Z (AT (aa (aw ?_)))))))))
 rename_i b2 b3 b4
 refine cU (σ:=Nat) (fun i => [(2,one (.pointer (some ⟨b2,0,none⟩))),(3,one (.pointer (some ⟨b3,0,none⟩))),(4,one (.pointer (some ⟨b4,0,none⟩))),(5,one (.pointer (some ⟨b,0,none⟩))),(6,one (.int .i64 (i:Nat)))])
  (fun i => [aQ b 35 3 [(0, .one,one (.int .i64 r)),(1, .one,one (.int .i64 c)),(2, .one,one (slV sv1 r cap1))],iM sv1 cap1 r c bs,eQ c bs (d7 (fun i j=>F i j*k) i 0),
   aQ b4 35 3 (dt #[Value.int IntKind.i64 0,Value.int IntKind.i64 0,Value.slice none 0 0] [(0,Lay.one),(1,Lay.one),(2,Lay.one)]),
   aQ b3 28 2 [(0, .agg 2,aW k)],
   aQ b2 35 3 [(0, .one,one (.int .i64 r)),(1, .one,one (.int .i64 c)),(2, .one,slT .one r (fun i=>d6 c (F i)))]])
  (fun i=>i≤r) (fun i=>r - i) 0 (Nat.zero_le _) AM (.keep AO (.keep AO (.keep (fk fun i j hi hj=>by simp [d7]) (SubM.refl _)))) (fun i hi => ?_)
 refine ae (ae (ai (AQ Z (AP (aj Z) (AP (am 5 Z Z Z) (AP (bH Z Z) (AT (aa ?_))))))))
 refine bw Z (fun hc => ?_) (fun hc => ?_) <;> simp only [decide_eq_true_eq,decide_eq_false_iff_not,Int.ofNat_lt] at hc
 ·obtain ⟨bo,rfl⟩:=ib hsv X
  refine az (aa (ae (aw (ae (ai (AR Z (AT (aa (aw ?_)))))))))
  refine cU (σ:=Nat) (fun j => [(2,one (.pointer (some ⟨b2,0,none⟩))),(3,one (.pointer (some ⟨b3,0,none⟩))),(4,one (.pointer (some ⟨b4,0,none⟩))),(5,one (.pointer (some ⟨b,0,none⟩))),(6,one (.int .i64 (i:Nat))),(7,one (.int .i64 (j:Nat)))])
   (fun j => [aQ b 35 3 [(0, .one,one (.int .i64 r)),(1, .one,one (.int .i64 c)),(2, .one,one (slV (some bo) r cap1))],iM (some bo) cap1 r c bs,eQ c bs (d7 (fun i j=>F i j*k) i j),
   aQ b4 35 3 (dt #[Value.int IntKind.i64 0,Value.int IntKind.i64 0,Value.slice none 0 0] [(0,Lay.one),(1,Lay.one),(2,Lay.one)]),
   aQ b3 28 2 [(0, .agg 2,aW k)],
   aQ b2 35 3 [(0, .one,one (.int .i64 r)),(1, .one,one (.int .i64 c)),(2, .one,slT .one r (fun i=>d6 c (F i)))]])
   (fun j=>j≤c) (fun j=>c - j) 0 (Nat.zero_le _) AM (SubM.refl _) (fun j hj => ?_)
  refine ae (ae (ai (AQ Z (AP (aj Z) (AP (am 5 Z Z Z) (AP (bH Z Z) (AT (aa ?_))))))))
  refine bw Z (fun hc2 => ?_) (fun hc2 => ?_) <;> simp only [decide_eq_true_eq,decide_eq_false_iff_not,Int.ofNat_lt] at hc2
  ·refine az (aa (ae (aw (bG 17 bL Y U ?_))))
   unfold d6
   refine AP (aj Z) (AP (am 0 Z Z Z) (AQ Z ?_))
   (refine AP (ar Z Z ?_) ?_;omega)
   (refine AP (bQ 1 Z Z ?_) ?_;omega)
   refine AQ Z (AP (aj Z) (AP (am 5 Z Z Z) (AQ Z ?_)))
   (refine AP (aR Z Z ?_) ?_;omega)
   refine AP (bj Z) (AQ Z ?_)
   (refine AP (aR Z Z ?_) ?_;omega)
   refine AP (bj Z) (AP (am 4 Z Z Z) ?_)
   refine AP (ao (mj (F i j) k (hF i j) hk) Z ⟨A,A,AU⟩) ?_
   (refine AP (ar Z Z ?_) ?_;omega)
   refine AT ?_
   (refine gE 2 Z Z Z (qj ?_) ?_ Z ?_;omega;omega)
   refine AT (aK (aa (ai (AQ Z ?_))))
   (refine AP (cB Z Z (aT ?_ ?_)) ?_;omega;omega)
   refine AR Z (AT ?_)
   exact cz (s:=j) (j+1) (show _ from by omega) (by show c - (j+1)<c - j;omega) AM (.keep AO (.keep AO (.keep (jc _ Z) (SubM.refl _))))
  ·have hjm:j=c:=by omega
   subst hjm
   refine a8 (ay (ay (aM (aK (aa (ai (AQ Z ?_)))))))
   (refine AP (cB Z Z (aT ?_ ?_)) ?_;omega;omega)
   refine AR Z (AT ?_)
   exact cz (s:=i) (i+1) (show _ from by omega) (by show r - (i+1)<r - i;omega) AM (.keep AO (.keep AO (.keep jI (SubM.refl _))))
 ·have hin:i=r:=by omega
  subst hin
  refine a8 (ay (ay (aM (aa (ae (ai (AP (bM 0 Z Z) (bR 3 Z Z Z Z (AT ?_)))))))))
  refine aa (aH ?_)
  have hperm : ∀ (x y z u t s:Own), [x,y,z,u,t,s].Perm ([y,z] ++ [x,u,t,s]):=fun x y z u t s=>(List.Perm.swap y x _).trans (List.Perm.cons y (List.Perm.swap z x _))
  refine fh [iM sv1 cap1 i c bs,eQ c bs (d7 (fun i j=>F i j*k) i 0)] (hperm _ _ _ _ _ _) (.keep (tL.refl _) (.keep (tL.box (ja hlen ⟨by simp,by simp,by simp⟩)) (.keep (tL.refl _) (.keep (tL.refl _) .nil)))) (tM.refl _) ?_
  refine aX Tryz.results42 (.cellW 1 Z Z ?_)
  exact ku fun a b ha hb=>by simp [d7,ha]
end Tor
end
section
namespace Tor
open Go Go.RowKit Go.Proofs
variable [Tor.Co.Kc]
attribute [local irreducible] J PJ aB one slT bJ bB bv exT cd eP aQ aI slV VT.le Ret bN
attribute [local irreducible] aW
theorem rI (r c:Nat) (F:Nat→Nat→Int) (hr0:r≤1048576) (hc0:c≤1048576) (hF : ∀ i j,ci (F i j)):Ok Tryz.prog 14 [ch r c F] (ch r c F):=by
 unfold ch
 refine Ok.enter Tryz.func14 Z Tryz.ntmps14 Z (fun w O => ?_)
 refine ae (ai ?_)
 refine bE Z Z (ltN Z) (fun b => ?_)
 refine bO (T:=35) Z Z Z (fun b => ?_)
 refine AT (aa (ae (bG 3 bL Y U (AP (bM 1 Z Z) ?_))))
 refine AP (ao (kL 1 U U) Z ⟨A,AU⟩) ?_
 refine AP (ao ((ur r c F 1 hr0 hc0 hF kM).le (fV _) (ku (G:=F) fun i j _ _=>Int.mul_one _)) Z ⟨A,A,AU⟩) ?_
 refine AT (bR 0 Z Z Z Z (AT (aa (aH ?_))))
 exact aX Tryz.results14 (.cellW 0 Z Z A)
end Tor
end
section
namespace Tor
open Go Go.RowKit Go.Proofs
variable [Tor.Co.Kc]
def kY (r c:Nat) (l:List Int):VT:=bB 3 [(0, .one,one (.int .u8 r)),(1, .one,one (.int .u8 c)),(2, .one,kX .i8 l)]
theorem Av (n:Nat):(n:Int).tmod 5=((n % 5:Nat):Int):=by
 rw [Int.tmod_eq_emod_of_nonneg X]; omega
attribute [local irreducible] J PJ aB one slT bJ bB bv exT cd eP aQ aI slV VT.le Ret bN
attribute [local irreducible] aW dw
end Tor
end
section
namespace Tor
open Go Go.RowKit Go.Proofs
variable [Tor.Co.Kc]
theorem ut {sv:Option Nat} {T:TypeId} {cap i:Nat} {h:Nat→Int} {x:Int} (hx:x=h i):Own.le (aI sv T (.agg 2) cap (i+1) (fun q=>if q<i then aW (h q) else aW x)) (aI sv T (.agg 2) cap (i+1) (fun q=>aW (h q))):=bZ fun q hq=>by
 by_cases c:q<i
 ·rw [if_pos c]
 ·rw [if_neg c,hx,show q=i by omega]
attribute [local irreducible] J PJ aB one slT bJ bB bv exT cd eP aQ aI slV VT.le Ret bN
attribute [local irreducible] aW dw
end Tor
end
section
namespace Tor
def iN (j:Nat) (g:Nat→Int):Nat→Int:=fun q=>if q=j then g (j+1) else if q=j+1 then g j else g q
def uu:Nat→(Nat→Int)→Nat→Int
 | 0, g => g
 | j + 1, g => if g j < g (j + 1) then uu j (iN j g) else g
def d8:Nat→(Nat→Int)→Nat→Int
 | 0, g => g
 | i + 1, g => uu i (d8 i g)
def lst (n:Nat) (g:Nat→Int):List Int:=(List.range n).map g
theorem gk (n:Nat) (g:Nat→Int):lst (n+1) g=lst n g ++ [g n]:=by unfold lst;rw [List.range_succ,List.map_append]; rfl
theorem uv {n:Nat} {g h:Nat→Int} (e : ∀ i,i<n→g i=h i):lst n g=lst n h:=List.map_congr_left fun i hi=>e i (List.mem_range.1 hi)
theorem nE {j:Nat} (g:Nat→Int) : ∀ {n:Nat},j+1<n→(lst n (iN j g)).Perm (lst n g)
 | 0, h => absurd h (Nat.not_lt_zero _)
 | n + 1, h => by
  by_cases e:n=j+1
  ·subst e
   rw [gk,gk,gk,gk,uv (g:=iN j g) (h:=g) (fun i hi=>by unfold iN;rw [if_neg X,if_neg X])]
   have e1:iN j g j=g (j+1):=by unfold iN;rw [if_pos Z]
   have e2:iN j g (j+1)=g j:=by unfold iN;rw [if_neg X,if_pos Z]
   rw [e1,e2,List.append_assoc,List.append_assoc]
   exact List.Perm.append_left _ (List.Perm.swap _ _ _)
  ·rw [gk,gk]
   have e1:iN j g n=g n:=by unfold iN;rw [if_neg X,if_neg X]
   rw [e1]
   exact (nE g X).append_right _
theorem nF {n:Nat} : ∀ {j:Nat} {g:Nat→Int},j<n→(lst n (uu j g)).Perm (lst n g)
 | 0, g, _ => List.Perm.refl _
 | j + 1, g, h => by
  show (lst n (if g j<g (j+1) then uu j (iN j g) else g)).Perm _
  split
  ·exact (nF X).trans (nE g h)
  ·exact List.Perm.refl _
theorem ie {n:Nat} (g:Nat→Int) : ∀ {i:Nat},i≤n→(lst n (d8 i g)).Perm (lst n g)
 | 0, _ => List.Perm.refl _
 | i + 1, h => (nF X).trans (ie g X)
def prZ:Nat→(Nat→Int)→Int
 | 0, _ => 1
 | n + 1, g => prZ n g * g n
def prL (l:List Int):Int:=l.foldr (fun x y=>x*y) 1
theorem ye (l:List Int) (x:Int):prL (l ++ [x])=prL l*x:=by
 induction l with
 | nil => show x * 1 = 1 * x; rw [Int.mul_one, Int.one_mul]
 | cons y l ih => show y * prL (l ++ [x]) = y * prL l * x; rw [ih, Int.mul_assoc]
theorem th (n:Nat) (g:Nat→Int):prZ n g=prL (lst n g):=by
 induction n with
 | zero => rfl
 | succ n ih => rw [gk, ye, ← ih]; rfl
theorem wz {l m:List Int} (h:l.Perm m):prL l=prL m:=by
 induction h with
 | nil => rfl
 | cons x h ih => show x * prL _ = x * prL _; rw [ih]
 | swap x y l => show y * (x * prL l) = x * (y * prL l); rw [← Int.mul_assoc, ← Int.mul_assoc, Int.mul_comm y x]
 | trans h1 h2 ih1 ih2 => exact ih1.trans ih2
theorem wA (n:Nat) (g:Nat→Int):prZ n (d8 n g)=prZ n g:=by
 rw [th,th]; exact wz (ie g (Nat.le_refl n))
end Tor
end
section
namespace Tor
open Go Go.RowKit Go.Proofs
variable [Tor.Co.Kc]
def eo (c:Nat) (f:Nat→Int):Nat:=(it c (fun k=>f k*f k)).natAbs
theorem mI (x:Int):0≤x*x:=by
 rw [← Int.natAbs_mul_self (a:=x)]; exact Int.natCast_nonneg _
theorem oM (c:Nat) (f:Nat→Int):0≤it c (fun k=>f k*f k):=by
 induction c with
 | zero => exact Int.le_refl _
 | succ c ih =>
  show 0≤it c (fun k=>f k*f k)+f c*f c
  have:=mI (f c)
  omega
theorem tj (c:Nat) (f:Nat→Int):((eo c f:Nat):Int)=it c (fun k=>f k*f k):=Int.natAbs_of_nonneg (oM c f)
def isq:Nat→Nat
 | 0 => 0
 | a + 1 => if (isq a + 1) * (isq a + 1) ≤ a + 1 then isq a + 1 else isq a
theorem iO : ∀ a,isq a*isq a≤a∧a<(isq a+1)*(isq a+1)
 | 0 => ⟨by decide, by decide⟩
 | a + 1 => by
  obtain ⟨h1,h2⟩:=iO a
  show (if (isq a+1)*(isq a+1)≤a+1 then isq a+1 else isq a)*(if (isq a+1)*(isq a+1)≤a+1 then isq a+1 else isq a)≤a+1∧a+1<((if (isq a+1)*(isq a+1)≤a+1 then isq a+1 else isq a)+1)*((if (isq a+1)*(isq a+1)≤a+1 then isq a+1 else isq a)+1)
  split
  ·rename_i h
   have:(isq a+1)*(isq a+1)<(isq a+1+1)*(isq a+1+1):=Nat.mul_lt_mul'' X X
   exact ⟨h,by omega⟩
  ·exact ⟨by omega,by omega⟩
def upN (a:Nat):Nat:=if isq a*isq a<a then isq a+1 else isq a
theorem rJ (a:Nat):a≤upN a*upN a:=by
 have:=iO a
 unfold upN;split <;> omega
theorem wB {a:Nat} (h:0<upN a):(upN a - 1)*(upN a - 1)<a:=by
 have h1:=iO a
 unfold upN at *
 split
 ·rename_i h2;rw [Nat.add_sub_cancel]; exact h2
 ·rename_i h2
  rw [if_neg h2] at h
  have:(isq a - 1)*(isq a - 1)<isq a*isq a:=Nat.mul_lt_mul'' X X
  omega
theorem rK {a s:Nat} (h1:a≤s*s) (h2 : ∀ t,t<s→t*t<a):upN a=s:=by
 have h3:=rJ a
 rcases Nat.lt_trichotomy (upN a) s with h | h | h
 ·have:=h2 _ h;omega
 ·exact h
 ·have h4:=wB (a:=a) X
  have h5:s*s≤(upN a - 1)*(upN a - 1):=Nat.mul_le_mul X X
  omega
theorem zU {a b:Nat} (h:a≤b):upN a≤upN b:=by
 rcases Nat.lt_or_ge (upN b) (upN a) with h1 | h1
 ·have h2:=wB (a:=a) X
  have h3:=rJ b
  have h5:upN b*upN b≤(upN a - 1)*(upN a - 1):=Nat.mul_le_mul X X
  omega
 ·exact h1
theorem zV (a:Nat):isq a≤a:=by
 have h:=(iO a).1
 rcases Nat.eq_zero_or_pos (isq a) with h0 | h0
 ·omega
 ·exact Nat.le_trans (Nat.le_mul_of_pos_right _ h0) h
theorem wC {x:Int} (h:x.natAbs≤2^810):ci x:=gL h (Nat.pow_lt_pow_right (a:=2) (m:=810) (n:=2048) U U)
theorem wD {a:Nat} (h:a<2^800):a≤2^810:=Nat.le_of_lt (Nat.lt_of_lt_of_le h (Nat.pow_le_pow_right (n:=2) (i:=800) (j:=810) U U))
def prN:Nat→(Nat→Nat)→Nat
 | 0, _ => 1
 | n + 1, g => prN n g * g n
theorem mJ (n:Nat) (g:Nat→Nat):((prN n g:Nat):Int)=prZ n (fun i=>(g i:Int)):=by
 induction n with
 | zero => rfl
 | succ n ih => rw [prN, prZ, Int.natCast_mul, ih]
theorem oN {B n:Nat} {g:Nat→Nat} (h : ∀ i,i<n→g i≤B) : ∀ k,k≤n→prN k g≤B^k
 | 0, _ => Nat.le_refl _
 | k + 1, hk => by rw [prN, Nat.pow_succ]; exact Nat.mul_le_mul (oN h k X) (h k X)
theorem wE {B n:Nat} {g:Nat→Nat} (hB:1≤B) (hn:B^n<2^800) (h : ∀ i,i<n→g i≤B) {k:Nat} (hk:k≤n):prN k g<2^800 :=
 Nat.lt_of_le_of_lt (Nat.le_trans (oN h k hk) (Nat.pow_le_pow_right hB hk)) hn
theorem AC {B n:Nat} (hB:1≤B) (hn:B^n<2^800) (h:0<n):B<2^800:=by
 have:=Nat.pow_le_pow_right hB (show 1≤n from h)
 rw [Nat.pow_one] at this
 exact Nat.lt_of_le_of_lt this hn
theorem nG {x:Int} {n:Nat} (h:x=(n:Int)):VT.le (aW x) (aW (n:Int)):=h▸VT.le_refl _
attribute [local irreducible] J PJ aB one slT bJ bB bv exT cd eP aQ aI slV VT.le Ret bN dD ek
attribute [local irreducible] aW
end Tor
end
section
namespace Tor
open Go Go.RowKit Go.Proofs
variable [Tor.Co.Kc]
def iP (r c:Nat) (F:Nat→Nat→Int) (t:Nat):Nat:=(d8 r (fun i=>(eo c (F i):Int)) t).toNat
theorem qp {r c:Nat} {F:Nat→Nat→Int} {t:Nat} (ht:t<r) : ∃ i,i<r∧d8 r (fun i=>(eo c (F i):Int)) t=(eo c (F i):Int):=by
 have h1:d8 r (fun i=>(eo c (F i):Int)) t∈lst r (d8 r (fun i=>(eo c (F i):Int))):=by
  unfold lst;exact List.mem_map.2 ⟨t,List.mem_range.2 ht,rfl⟩
 have h2:=(ie (fun i=>(eo c (F i):Int)) (Nat.le_refl r)).mem_iff.1 h1
 unfold lst at h2
 obtain ⟨i,hi,e⟩:=List.mem_map.1 h2
 exact ⟨i,List.mem_range.1 hi,e.symm⟩
theorem nH {r c:Nat} {F:Nat→Nat→Int} {t:Nat} (ht:t<r):((iP r c F t:Nat):Int)=d8 r (fun i=>(eo c (F i):Int)) t:=by
 obtain ⟨i,hi,e⟩:=qp (c:=c) (F:=F) ht
 unfold iP;rw [e]; exact Int.toNat_of_nonneg (Int.natCast_nonneg _)
theorem yf {r c B:Nat} {F:Nat→Nat→Int} (hl : ∀ i,i<r→eo c (F i)≤B) {t:Nat} (ht:t<r):iP r c F t≤B:=by
 obtain ⟨i,hi,e⟩:=qp (c:=c) (F:=F) ht
 have:=hl i hi
 unfold iP;rw [e]; omega
attribute [local irreducible] J PJ aB one slT bJ bB bv exT cd eP aQ aI slV VT.le Ret bN dD ek
attribute [local irreducible] aW
end Tor
end
section
namespace Tor
variable [Tor.Co.Kc]
theorem rL (n:Nat) (f:Nat→Int):((it n f:Int):Rat)=Lin.sm n (fun i=>(f i:Rat)):=by
 induction n with
 | zero => rfl
 | succ n ih => rw [it, Lin.sm, Rat.intCast_add, ih]
theorem wF (n:Nat) (f:Nat→Int):Lin.dot n (fun k=>(f k:Rat)) (fun k=>(f k:Rat))=((eo n f:Int):Rat):=by
 rw [tj,rL]
 exact Lin.ct fun k _=>(Rat.intCast_mul _ _).symm
theorem yh (n:Nat) (f:Nat→Int):((prZ n f:Int):Rat)=Lin.pr n (fun i=>(f i:Rat)):=by
 induction n with
 | zero => rfl
 | succ n ih => rw [prZ, Lin.pr, Rat.intCast_mul, ih]
theorem yi (n:Nat) (F:Nat→Nat→Int):Lin.cg n F*Lin.cg n F≤((prN n (fun i=>eo n (F i)):Nat):Int):=by
 have h:=Lin.wm n (fun i j=>(F i j:Rat))
 rw [← Lin.dM, ← Rat.intCast_mul,Lin.mF (g:=fun i=>(((eo n (F i):Nat):Int):Rat)) (fun i _=>wF n (F i)), ← yh, ← mJ] at h
 exact Rat.intCast_le_intCast.1 h
theorem zW {d P:Nat} (h:d*d≤P):d≤upN P:=by
 have h1:=rJ P
 rcases Nat.lt_or_ge (upN P) d with h2 | h2
 ·have:=Nat.mul_lt_mul_of_lt_of_le h2 (Nat.le_of_lt h2) X
  omega
 ·exact h2
theorem zX {x:Int} {P:Nat} (h:x*x≤(P:Int)):x.natAbs*x.natAbs≤P:=by
 rw [← Int.natAbs_mul]
 have:=mI x
 omega
theorem tk (n:Nat) (F:Nat→Nat→Int):(Lin.cg n F).natAbs≤upN (prN n (fun i=>eo n (F i))):=zW (zX (yi n F))
theorem qr (r c:Nat) (F:Nat→Nat→Int):prN r (iP r c F)=prN r (fun i=>eo c (F i)):=by
 apply Int.ofNat.inj
 show ((prN r (iP r c F):Nat):Int)=((prN r (fun i=>eo c (F i)):Nat):Int)
 rw [mJ,mJ, ← wA r (fun i=>(eo c (F i):Int))]
 have : ∀ k,k≤r→prZ k (fun i=>(iP r c F i:Int))=prZ k (d8 r (fun i=>(eo c (F i):Int))):=fun k=>by
  induction k with
  | zero => exact fun _ => rfl
  | succ k ih => intro h; rw [prZ, prZ, ih X, nH X]
 exact this r (Nat.le_refl r)
theorem wG {B c:Nat} {f:Nat→Int} (h : ∀ k,(f k).natAbs≤B):eo c f≤c*(B*B):=by
 unfold eo
 induction c with
 | zero => simp [it]
 | succ c ih =>
  rw [it,Nat.succ_mul]
  refine Nat.le_trans (Int.natAbs_add_le _ _) (Nat.add_le_add ih ?_)
  rw [Int.natAbs_mul]; exact Nat.mul_le_mul (h c) (h c)
end Tor
end
section
namespace Tor
open Go Go.RowKit
variable [Tor.Co.Kc]
theorem nI {α:Type} {n i:Nat} {S:Nat→Bool} (B:Nat→α) (hi:i<n) (hS:S i=false) :
  (((List.range n).filter fun q => !S q).map B).Perm (B i :: ((List.range n).filter fun q => !(if q=i then true else S q)).map B):=by
 have h1:i∈(List.range n).filter fun q => !S q:=List.mem_filter.2 ⟨List.mem_range.2 hi,by simp [hS]⟩
 refine ((List.perm_cons_erase h1).map B).trans ?_
 rw [List.map_cons]
 refine List.Perm.cons _ ?_
 have hnd:((List.range n).filter fun q => !S q).Nodup:=List.Pairwise.filter _ List.nodup_range
 rw [hnd.erase_eq_filter,List.filter_filter]
 refine List.Perm.of_eq (congrArg _ (List.filter_congr fun q _ => ?_))
 by_cases e:q=i <;> simp [e]
def rwO (T:TypeId) (L:Lay) (c n:Nat) (B C:Nat→Nat) (φ:Nat→Nat→VT) (S:Nat→Bool):Own where
 bl:=((List.range n).filter fun q => !S q).map B
 p g h := ∀ i,i<n→S i=false→(aI (some (B i)) T L (C i) c (φ i)).p g h
 loc:=fun he H hp i hi hS=>(aI (some (B i)) T L (C i) c (φ i)).loc (fun b' hb'=>he b' (by
  have:b'=B i:=by simpa [aI] using hb'
  rw [this]; exact List.mem_map.2 ⟨i,List.mem_filter.2 ⟨List.mem_range.2 hi,by simp [hS]⟩,rfl⟩)) H (hp i hi hS)
theorem jJ {T:TypeId} {L:Lay} {c n:Nat} {B C B' C':Nat→Nat} {φ ψ:Nat→Nat→VT} {S S':Nat→Bool} (hS : ∀ i,i<n→S i=S' i) (hB : ∀ i,i<n→S i=false→B i=B' i∧C i=C' i) (H : ∀ i j,i<n→S i=false→j<c→VT.le (φ i j) (ψ i j)):Own.le (rwO T L c n B C φ S) (rwO T L c n B' C' ψ S'):=by
 refine ⟨?_,fun g h hp i hi hs => ?_⟩
 ·show ((List.range n).filter fun q => !S q).map B=((List.range n).filter fun q => !S' q).map B'
  rw [List.filter_congr (q:=fun q => !S' q) (fun q hq=>by rw [hS q (List.mem_range.1 hq)])]
  refine List.map_congr_left fun q hq => ?_
  obtain ⟨h1,h2⟩:=List.mem_filter.1 hq
  have h1:=List.mem_range.1 h1
  exact (hB q h1 (by rw [hS q h1]; simpa using h2)).1
 ·have hs':S i=false:=by rw [hS i hi]; exact hs
  obtain ⟨e1,e2⟩:=hB i hi hs'
  rw [← e1, ← e2]
  exact (jR (fun q hq=>H i q hi hs' hq)).2 g h (hp i hi hs')
theorem wH {T:TypeId} {L:Lay} {c n:Nat} {B C:Nat→Nat} {φ:Nat→Nat→VT} {S:Nat→Bool} {M:Mem} (hS : ∀ i,i<n→S i=true):ConvM M (rwO T L c n B C φ S :: M):=by
 have e:((List.range n).filter fun q => !S q) = []:=List.filter_eq_nil_iff.2 fun q hq=>by simp [hS q (List.mem_range.1 hq)]
 refine ⟨?_,fun g h H o ho => ?_⟩
 ·show (aV M).Perm ((((List.range n).filter fun q => !S q).map B) ++ aV M)
  rw [e]; exact List.Perm.refl _
 ·rcases List.mem_cons.1 ho with rfl | ho
  ·intro i hi hs;rw [hS i hi] at hs;cases hs
  ·exact H o ho
theorem kx {T:TypeId} {L:Lay} {c n i:Nat} {B C:Nat→Nat} {φ:Nat→Nat→VT} {S:Nat→Bool} {M:Mem} (hi:i<n) (hS:S i=false) :
  ConvM (rwO T L c n B C φ S :: M) (aI (some (B i)) T L (C i) c (φ i) :: rwO T L c n B C φ (fun q=>if q=i then true else S q) :: M):=by
 refine ⟨?_,fun g h H o ho => ?_⟩
 ·show ((((List.range n).filter fun q => !S q).map B) ++ aV M).Perm (B i :: ((((List.range n).filter fun q => !(if q=i then true else S q)).map B) ++ aV M))
  exact (nI B hi hS).append_right _
 ·have h0:=H _ List.mem_cons_self
  rcases List.mem_cons.1 ho with rfl | ho
  ·exact h0 i hi hS
  ·rcases List.mem_cons.1 ho with rfl | ho
   ·intro q hq hs
    dsimp only at hs
    by_cases e:q=i
    ·rw [if_pos e] at hs;cases hs
    ·rw [if_neg e] at hs;exact h0 q hq hs
   ·exact H o (List.mem_cons_of_mem _ ho)
theorem ky {T:TypeId} {L:Lay} {c n i b cap:Nat} {B C:Nat→Nat} {φ:Nat→Nat→VT} {ψ:Nat→VT} {S:Nat→Bool} {M:Mem} (hi:i<n) (hS:S i=true) :
  ConvM (aI (some b) T L cap c ψ :: rwO T L c n B C φ S :: M) (rwO T L c n (fun q=>if q=i then b else B q) (fun q=>if q=i then cap else C q) (fun q=>if q=i then ψ else φ q) (fun q=>if q=i then false else S q) :: M):=by
 refine ⟨?_,fun g h H o ho => ?_⟩
 ·show (b :: ((((List.range n).filter fun q => !S q).map B) ++ aV M)).Perm ((((List.range n).filter fun q => !(if q=i then false else S q)).map (fun q=>if q=i then b else B q)) ++ aV M)
  have hp:=nI (S:=fun q=>if q=i then false else S q) (fun q=>if q=i then b else B q) hi (if_pos Z)
  have e:(((List.range n).filter fun q => !(if q=i then true else (if q=i then false else S q))).map (fun q=>if q=i then b else B q))=(((List.range n).filter fun q => !S q).map B):=by
   rw [List.filter_congr (q:=fun q => !S q) (fun q hq=>by by_cases e:q=i <;> simp [e,hS])]
   refine List.map_congr_left fun q hq => ?_
   have h2:=(List.mem_filter.1 hq).2
   by_cases e:q=i
   ·rw [e,hS] at h2;cases h2
   ·rw [if_neg e]
  rw [e,if_pos Z] at hp
  exact (hp.append_right _).symm
 ·have h0:=H _ List.mem_cons_self
  have h1:=H _ (List.mem_cons_of_mem _ List.mem_cons_self)
  rcases List.mem_cons.1 ho with rfl | ho
  ·intro q hq hs
   by_cases e:q=i
   ·subst e
    show (aI (some (if q=q then b else B q)) T L (if q=q then cap else C q) c (if q=q then ψ else φ q)).p g h
    rw [if_pos Z,if_pos Z,if_pos Z]; exact h0
   ·dsimp only at hs
    rw [if_neg e] at hs
    show (aI (some (if q=i then b else B q)) T L (if q=i then cap else C q) c (if q=i then ψ else φ q)).p g h
    rw [if_neg e,if_neg e,if_neg e]; exact h1 q hq hs
  ·exact H o (List.mem_cons_of_mem _ (List.mem_cons_of_mem _ ho))
theorem ConvM.cons {a:Own} {AJ B:Mem} (h:ConvM AJ B):ConvM (a :: AJ) (a :: B):=⟨h.pm.append_left _,fun g k H o ho=>by
 rcases List.mem_cons.1 ho with rfl | ho
 ·exact H _ List.mem_cons_self
 ·exact h.mem g k (fun o ho=>H o (List.mem_cons_of_mem _ ho)) o ho⟩
theorem ConvM.le {a b:Own} {M:Mem} (h:Own.le a b):ConvM (a :: M) (b :: M):=⟨by show (a.bl ++ aV M).Perm (b.bl ++ aV M);rw [h.1],fun g k H o ho=>by
 rcases List.mem_cons.1 ho with rfl | ho
 ·exact h.2 _ _ (H _ List.mem_cons_self)
 ·exact H o (List.mem_cons_of_mem _ ho)⟩
theorem wI {T:TypeId} {L:Lay} {c n i k:Nat} {B C:Nat→Nat} {φ:Nat→Nat→VT} {M:Mem} (hi:i<n) (hk:k<n):ConvM (rwO T L c n B C φ (fun _=>false) :: M) (rwO T L c n (swp i k B) (swp i k C) (swp i k φ) (fun _=>false) :: M):=by
 by_cases e:i=k
 ·subst e;rw [mD,mD,mD]; exact .ofPerm (List.Perm.refl _)
 ·refine (kx hi Z).trans (.trans (ConvM.cons (kx hk (if_neg (Ne.symm e)))) (.trans (ConvM.cons (ky (i:=i) hi (by rw [if_neg e,if_pos Z]))) (.trans (ky (i:=k) hk (by rw [if_neg (Ne.symm e),if_pos Z])) (ConvM.le (jJ (fun q _ => ?_) (fun q _ _=>⟨?_,?_⟩) (fun q j _ _ _ => ?_))))))
  ·by_cases h1:q=k
   ·simp [h1]
   ·by_cases h2:q=i
    ·simp [h1,h2]
    ·simp [h1,h2]
  ·unfold swp;by_cases h1:q=k
   ·subst h1;rw [if_pos Z,if_neg (Ne.symm e),if_pos Z]
   ·by_cases h2:q=i
    ·rw [if_neg h1,if_pos h2,if_pos h2]
    ·rw [if_neg h1,if_neg h2,if_neg h2,if_neg h1]
  ·unfold swp;by_cases h1:q=k
   ·subst h1;rw [if_pos Z,if_neg (Ne.symm e),if_pos Z]
   ·by_cases h2:q=i
    ·rw [if_neg h1,if_pos h2,if_pos h2]
    ·rw [if_neg h1,if_neg h2,if_neg h2,if_neg h1]
  ·unfold swp;by_cases h1:q=k
   ·subst h1;rw [if_pos Z,if_neg (Ne.symm e),if_pos Z]; exact VT.le_refl _
   ·by_cases h2:q=i
    ·rw [if_neg h1,if_pos h2,if_pos h2]; exact VT.le_refl _
    ·rw [if_neg h1,if_neg h2,if_neg h2,if_neg h1]; exact VT.le_refl _
section
variable {P:Program} {E:Env} {D:List Deferred} {Γ:Ctx} {M:Mem} {Q:Exit→Act→World→Prop}
variable {i:Nat} {ty:TypeId} {pos:String} {af:Array Edge} {d:Option Tmp} {gd:Option (Nat × Bool)}
theorem wJ {e:Exit} {i:Nat} {o:Own} {F:Prop} (hM:M[i]? = some o) (hF : ∀ g h,o.p g h→F) (h:F→PJ E D Γ M e Q):PJ E D Γ M e Q :=
 fun a w hS=>h (hF _ _ (hS.base.mem o (List.mem_of_getElem? hM))) a w hS
theorem iQ {T T':TypeId} {L:Lay} [LayOf P T L] {x:Operand} {i' j c n:Nat} {B C:Nat→Nat} {φ:Nat→Nat→VT} {S:Nat→Bool} (k:Nat) (hx:aA Γ x=some (eP (B i') j L.sz)) (hM:M[k]? = some (rwO T' L c n B C φ S)) (hi:i'<n) (hS:S i'=false) (hj:j<c) :
  aB P E Γ M ⟨d, .load T x,ty,pos,af,gd⟩ (φ i' j) :=
 aB.ofRun fun a w hb hf=>by
  have h1:a.eval x = .pointer (some ⟨B i',j*L.sz,none⟩):=hf x _ (by simp [Op.operands]) hx
  obtain ⟨_,_,_,h4⟩:=dC hb hM i' hi hS
  obtain ⟨c,hc,_,he⟩:=h4 (B i') Z
  obtain ⟨v,hx',hp⟩:=he j hj
  refine ⟨v,?_,hp⟩
  simp only [execOp,h1,Instr.loadAt,Instr.sureAddr,Sem.run_bind,Sem.run_pure,Result.andThen_ok,dA hc hx']
end
end Tor
end
section
namespace Tor
open Go Go.RowKit Go.Proofs
variable [Tor.Co.Kc]
attribute [local irreducible] J PJ aB one slT bJ bB bv exT cd eP aQ aI slV VT.le Ret bN dD ek
attribute [local irreducible] aW
theorem yj (p a b:Nat) (hp0:0<p) (hp:p<4294967296) (ha:a<4294967296) (hb:b<4294967296):Ok Tryz.prog 116 [one (.int .u64 p),one (.int .u64 a),one (.int .u64 b)] (one (.int .u64 (((a+b) % p:Nat):Int))):=by
 have hr:=ms (a+b) p X hp0 X
 refine Ok.enter Tryz.func116 Z Tryz.ntmps116 Z (fun w O => ?_)
 refine ae (ai (AR Z (AT (aa (ae (ai (AQ Z (AQ Z (AP (ej Z Z X) ?_)))))))))
 refine AQ Z ?_
 refine AP (ao (hr) Z ⟨A,A,AU⟩) ?_
 refine AR Z (AT (aa (aH ?_)))
 refine aX Tryz.results116 (.tmp Z A)
end Tor
end
