/-
  Theorems that the proofs of laws of this seat rest on.
  No condition.
-/
import Derived.Test.YtamglpeiacmooaaGreatZB2
import Init
import Derived.Test.YtamglpeiacmooaaGreatProg
set_option maxHeartbeats 20000000
set_option linter.unusedVariables false
set_option linter.unusedSimpArgs false
section
set_option linter.unusedSectionVars false
namespace Tor
open Go Go.RowKit
section
variable {P:Program} {E:Env} {Γ:Ctx} {M:Mem}
theorem xi {D:List Deferred} {ops:Array Oper} {i:Nat} {ty:TypeId} {pos:String} {af:Array Edge} {os:List Oper} {K:List Deferred→Ctx→Mem→Prop} {dr:Bool} {t j:Nat} {want:Bool} {T:TypeId} {m d:Nat} {z:Array Value} {pl:List (Nat × Lay)} [hB:BuildOf P T m z pl] {parts:Array (Nat × Operand)}
  (hg:eD ops ⟨some d, .build T parts,ty,pos,af,some (j,want)⟩=some (some t,want)) (hb:bJ Γ t=some (one (.bool want)))
  (hz:(pl.all fun q=>(bP q.2 z q.1).isSome && decide (q.1+q.2.sz≤m))=true) (hap:eV (dw z pl)=true) (hd:Nat.ble (d+1) E.N=true)
  (h:BuildK Γ pl (fun C=>Run P E ops dr (i+1) D ((d,bG m C) :: Γ) M os K) (dw z pl) parts.toList):Run P E ops dr i D Γ M (⟨some d, .build T parts,ty,pos,af,some (j,want)⟩ :: os) K :=
 let ⟨_,h1,h2⟩:=h.ok;sg1 hg hb (i5 h1 hz hap) hd h2
end
end Tor
end
section
namespace Tor
open Go Go.RowKit Go.Proofs
section
variable {P:Program} {E:Env} {Γ:Ctx} {M:Mem} {D:List Deferred} {ops:Array Oper} {i:Nat} {op:Op} {ty:TypeId} {pos:String} {af:Array Edge} {os:List Oper} {K:List Deferred→Ctx→Mem→Prop}
theorem sn0 {dr:Bool} {d t j:Nat} {b want:Bool} (hg:eD ops ⟨some d,op,ty,pos,af,some (j,want)⟩=some (some t,want)) (hb:bJ Γ t=some (one (.bool b))) (hne:(b == want)=false) (hd:Nat.ble (d+1) E.N=true)
  (hi:ops[i]? = some ⟨some d,op,ty,pos,af,some (j,want)⟩) (hr:Run P E ops dr (i+1) D ((d,one undef) :: Γ) M os K):Run P E ops dr i D Γ M (⟨some d,op,ty,pos,af,some (j,want)⟩ :: os) K :=
 .step (.guardedN hg hb hne Z (ltN hd)) hr
theorem snU {dr:Bool} {d t j:Nat} {want:Bool} (hg:eD ops ⟨some d,op,ty,pos,af,some (j,want)⟩=some (some t,want)) (hb:bJ Γ t=some (one undef)) (hd:Nat.ble (d+1) E.N=true)
  (hi:ops[i]? = some ⟨some d,op,ty,pos,af,some (j,want)⟩) (hr:Run P E ops dr (i+1) D ((d,one undef) :: Γ) M os K):Run P E ops dr i D Γ M (⟨some d,op,ty,pos,af,some (j,want)⟩ :: os) K :=
 .step (.guardedU hg hb Z (ltN hd)) hr
end
end Tor
end
section
namespace Tor
open Go Go.RowKit
section
variable {P:Program} {E:Env} {ops:Array Oper}
def gb (n:Nat) (F:List Nat) (ops:Array Oper):Bool :=
 decide (n≤ops.size) && (F.all fun i=>decide (i<n)) &&
 ((List.range ops.size).all fun j =>
  (match ops[j]? with | some o=>o.after.all (fun e => !Region.binds .any e || decide (e.on<j)) | none=>true) &&
  ((List.range j).all fun i=>gN 6 ops i j || (decide (j<n) && !iA ops i j) || (F.contains i && decide (n≤j))))
theorem j5 {n:Nat} {F:List Nat} (h:gb n F ops=true) {i j:Nat} (hij:i<j) (hj:j<ops.size):gN 6 ops i j=true∨(j<n∧iA ops i j=false)∨(i∈F∧n≤j):=by
 simp only [gb,Bool.and_eq_true,List.all_eq_true,List.mem_range] at h
 have:=(h.2 j hj).2 i hij
 simp only [Bool.or_eq_true,Bool.and_eq_true,decide_eq_true_eq,Bool.not_eq_true',List.contains_iff_mem] at this
 rcases this with (h | h) | h
 ·exact .inl h
 ·exact .inr (.inl h)
 ·exact .inr (.inr h)
theorem xj {n:Nat} {F:List Nat} (h:gb n F ops=true) {j:Nat} {o:Oper} (ho:ops[j]? = some o) {e:Edge} (he:e∈o.after) (hb:Region.binds .any e=true):e.on<j:=by
 simp only [gb,Bool.and_eq_true,List.all_eq_true,List.mem_range] at h
 have hj:j<ops.size:=by
  rcases Nat.lt_or_ge j ops.size with h | h
  ·exact h
  ·rw [Array.getElem?_eq_none h] at ho;cases ho
 have:=(h.2 j hj).1
 rw [ho] at this
 simp only [Array.all_eq_true'] at this
 have:=this e he
 simpa [hb] using this
theorem ns {n:Nat} {F:List Nat} (hok:gb n F ops=true) {l:Array Bool} (hs:l.size=ops.size) {j:Nat} (hj:j<ops.size) (hl:l.getD j false=false) : ∃ i,i∈Region.ready .any ops l:=by
 induction j using Nat.strongRecOn with
 | _ j ih =>
  by_cases h:j∈Region.ready .any ops l
  ·exact ⟨j,h⟩
  ·have ho:ops[j]? = some ops[j]:=by simp [hj]
   rw [mem_ready] at h
   have h1:l.getD j true=false:=by rw [dG S true false]; exact hl
   have h2 : ¬ ∀ e∈ops[j].after,Region.binds .any e=true→l.getD e.on false=true:=fun hall=>h ⟨h1,_,ho,hall⟩
   obtain ⟨e,h2⟩:=Classical.not_forall.1 h2
   obtain ⟨he,h2⟩:=Classical.not_imp.1 h2
   obtain ⟨hb,h2⟩:=Classical.not_imp.1 h2
   have hlt:=xj hok ho he hb
   exact ih e.on hlt S (by simpa using h2)
def ja (ops:Array Oper) (rem:List Nat):List Nat:=rem.filter fun i=>rem.all fun k => !iz ops k i
def iO (P:Program) (E:Env) (ops:Array Oper) (dead:List Nat) (Γ:Ctx) (M:Mem):Prop :=
 ∀ i∈dead, ∃ o d ψ,ops[i]? = some o∧StepG P E Γ M ops o ((d, ψ) :: Γ)∧bJ Γ d=none
theorem iO.nil {Γ:Ctx} {M:Mem} : iO P E ops [] Γ M:=fun _ h=>nomatch h
def eK (P:Program) (E:Env) (ops:Array Oper) (D:List Deferred) (dead:List Nat) (Γ1:Ctx) (M1:Mem):Nat→List Nat→Ctx→Mem→Prop
 | 0, rem, Γ, M => iO P E ops dead Γ M ∧ rem = [] ∧ eS Γ Γ1 ∧ SubM M M1
 | f + 1, rem, Γ, M => iO P E ops dead Γ M ∧ ((rem = [] ∧ eS Γ Γ1 ∧ SubM M M1) ∨ (rem ≠ [] ∧ ∀ i ∈ ja ops rem, ∃ o, ops[i]? = some o ∧ Run P E ops false i D Γ M [o] (fun D' Γ' M' => D' = D ∧ eK P E ops D dead Γ1 M1 f (rem.filter (· != i)) Γ' M')))
theorem cB {D:List Deferred} {dead:List Nat} {Γ1 Γ:Ctx} {M1 M:Mem} {f:Nat} (hg:eS Γ Γ1) (hm:SubM M M1) (hd:iO P E ops dead Γ M):eK P E ops D dead Γ1 M1 f [] Γ M:=by
 cases f with
 | zero => exact ⟨hd, rfl, hg, hm⟩
 | succ f => exact ⟨hd, .inl ⟨rfl, hg, hm⟩⟩
theorem aM {D:List Deferred} {dead:List Nat} {Γ1 Γ:Ctx} {M1 M:Mem} {f:Nat} {rem rem':List Nat} {i:Nat} {o:Oper} (hr:ja ops rem = [i]) (ho:ops[i]? = some o) (he:rem.filter (· != i)=rem')
  (h:Run P E ops false i D Γ M [o] (fun D' Γ' M'=>D'=D∧eK P E ops D dead Γ1 M1 f rem' Γ' M')) (hd:iO P E ops dead Γ M):eK P E ops D dead Γ1 M1 (f+1) rem Γ M:=by
 refine ⟨hd, .inr ⟨fun e => ?_,fun j hj => ?_⟩⟩
 ·rw [e] at hr;cases hr
 ·rw [hr] at hj
  rcases List.mem_cons.1 hj with rfl | hj
  ·exact ⟨o,ho,he▸h⟩
  ·cases hj
theorem dB {D:List Deferred} {dead:List Nat} {Γ1 Γ:Ctx} {M1 M:Mem} {f:Nat} {rem rem' rem'':List Nat} {i j:Nat} {o o':Oper} (hr:ja ops rem = [i,j]) (ho:ops[i]? = some o) (ho':ops[j]? = some o') (he:rem.filter (· != i)=rem') (he':rem.filter (· != j)=rem'')
  (h:Run P E ops false i D Γ M [o] (fun D' Γ' M'=>D'=D∧eK P E ops D dead Γ1 M1 f rem' Γ' M')) (h':Run P E ops false j D Γ M [o'] (fun D' Γ' M'=>D'=D∧eK P E ops D dead Γ1 M1 f rem'' Γ' M')) (hd:iO P E ops dead Γ M):eK P E ops D dead Γ1 M1 (f+1) rem Γ M:=by
 refine ⟨hd, .inr ⟨fun e => ?_,fun k hk => ?_⟩⟩
 ·rw [e] at hr;cases hr
 ·rw [hr] at hk
  rcases List.mem_cons.1 hk with rfl | hk
  ·exact ⟨o,ho,he▸h⟩
  ·rcases List.mem_cons.1 hk with rfl | hk
   ·exact ⟨o',ho',he'▸h'⟩
   ·cases hk
theorem me {D:List Deferred} {dead:List Nat} {Γ1 Γ:Ctx} {M1 M:Mem} {f:Nat} {rem r1 r2 r3:List Nat} {i j k:Nat} {o o' o'':Oper} (hr:ja ops rem = [i,j,k]) (ho:ops[i]? = some o) (ho':ops[j]? = some o') (ho'':ops[k]? = some o'') (he:rem.filter (· != i)=r1) (he':rem.filter (· != j)=r2) (he'':rem.filter (· != k)=r3)
  (h:Run P E ops false i D Γ M [o] (fun D' Γ' M'=>D'=D∧eK P E ops D dead Γ1 M1 f r1 Γ' M')) (h':Run P E ops false j D Γ M [o'] (fun D' Γ' M'=>D'=D∧eK P E ops D dead Γ1 M1 f r2 Γ' M')) (h'':Run P E ops false k D Γ M [o''] (fun D' Γ' M'=>D'=D∧eK P E ops D dead Γ1 M1 f r3 Γ' M')) (hd:iO P E ops dead Γ M):eK P E ops D dead Γ1 M1 (f+1) rem Γ M:=by
 refine ⟨hd, .inr ⟨fun e => ?_,fun q hq => ?_⟩⟩
 ·rw [e] at hr;cases hr
 ·rw [hr] at hq
  rcases List.mem_cons.1 hq with rfl | hq
  ·exact ⟨o,ho,he▸h⟩
  ·rcases List.mem_cons.1 hq with rfl | hq
   ·exact ⟨o',ho',he'▸h'⟩
   ·rcases List.mem_cons.1 hq with rfl | hq
    ·exact ⟨o'',ho'',he''▸h''⟩
    ·cases hq
theorem Run.zero {D:List Deferred} {Γ:Ctx} {M:Mem} {os:List Oper} {i:Nat} {dr:Bool} {K:List Deferred→Ctx→Mem→Prop} (h:Run P E ops dr i D Γ M os K):os = [] → ∀ a w,St E D Γ M a w → ∃ D' Γ' M',K D' Γ' M'∧St E D' Γ' M' a w:=by
 induction h with
 | nil hK => intro _ a w hS; exact ⟨_, _, _, hK, hS⟩
 | step _ _ _ => intro e; cases e
 | conv hc _ ih => intro e a w hS; exact ih e a w (hc a w hS)
 | act _ _ _ => intro e; cases e
theorem Run.single {D:List Deferred} {Γ:Ctx} {M:Mem} {os:List Oper} {i:Nat} {dr:Bool} {K:List Deferred→Ctx→Mem→Prop} (h:Run P E ops dr i D Γ M os K) : ∀ o,os = [o]→ops[i]? = some o → ∀ (next:Act→World→Prop) (Q:Exit→Act→World→Prop),
  (∀ D' Γ' M' a w,K D' Γ' M'→St E D' Γ' M' a w→next a w) → ∀ a w,St E D Γ M a w→wpOp P ops Q i next a w:=by
 induction h with
 | nil hK => intro o e; cases e
 | @step dr i D Γ M o os K Γ' hs hr _ =>
  intro o' e ho next Q hn a w hS
  cases e
  obtain ⟨d, ψ,_,hN,rfl,hrun⟩:=hs.run ho
  refine hrun a w hS.base (hS.names _) next Q fun v w' k hv' => ?_
  obtain ⟨D', Γ',M',hK,hS'⟩:=hr.zero Z _ _ (hS.put k hN hv')
  exact hn _ _ _ _ _ hK hS'
 | conv hc _ ih => intro o e ho next Q hn a w hS; exact ih o e ho next Q hn a w (hc a w hS)
 | @act i D Γ M o os K K' hs hr _ =>
  intro o' e ho next Q hn a w hS
  cases e
  refine hs a w hS next Q fun D' Γ' M' a' w' hK hS' => ?_
  obtain ⟨D2, Γ2,M2,hK2,hS2⟩:=(hr D' Γ' M' hK).zero Z _ _ hS'
  exact hn _ _ _ _ _ hK2 hS2
theorem Lst.set {l:Array Bool} (hl:Lst ops l) {i:Nat} (hi:i∈Region.ready .any ops l):Lst ops (l.setIfInBounds i true):=by
 have hi1:=cW hi
 have hsz:=hl.size
 refine ⟨by simpa using hsz,fun j hj i' hp => ?_⟩
 rw [bw S] at hj ⊢
 split
 ·rfl
 ·split at hj
  ·rename_i h1;subst h1;exact cr hi hp
  ·exact hl.closed j hj i' hp
theorem uj {n:Nat} {F:List Nat} (hok:gb n F ops=true) {D:List Deferred} {dead:List Nat} {Γ1:Ctx} {M1:Mem} {Q:Exit→Act→World→Prop} (hQ : ∀ a w,St E D Γ1 M1 a w→Q .normal a w) :
  ∀ (fuel f:Nat) (rem:List Nat) (Γ:Ctx) (M:Mem) (l:Array Bool) (a:Act) (w:World),eK P E ops D dead Γ1 M1 f rem Γ M→Lst ops l→left ops l≤fuel →
   (∀ j,j<ops.size→l.getD j false=false→j∈rem∨j∈dead)→(∀ j∈rem,l.getD j false=false∧j<ops.size)→St E D Γ M a w→wpAny P .any ops Q fuel l a w:=by
 have fin : ∀ {f:Nat} {rem:List Nat} {Γ:Ctx} {M:Mem} {a:Act} {w:World},eK P E ops D dead Γ1 M1 f rem Γ M→rem = []→St E D Γ M a w→Q .normal a w:=by
  intro f rem Γ M a w hG e hS
  cases f with
  | zero => exact hQ _ _ (hS.sub hG.2.2.1 hG.2.2.2)
  | succ f =>
   rcases hG.2 with h | h
   ·exact hQ _ _ (hS.sub h.2.1 h.2.2)
   ·exact absurd e h.1
 have hnil : ∀ {rem:List Nat} {l:Array Bool},Lst ops l→Region.ready .any ops l = []→(∀ j∈rem,l.getD j false=false∧j<ops.size)→rem = []:=by
  intro rem l hl hr h2
  rcases rem with _ | ⟨j,rem⟩
  ·rfl
  ·obtain ⟨h3,h4⟩:=h2 j List.mem_cons_self
   obtain ⟨i,hi⟩:=ns hok hl.size h4 h3
   rw [hr] at hi;cases hi
 intro fuel
 induction fuel with
 | zero =>
  intro f rem Γ M l a w hG hl hleft h1 h2 hS
  have hr:Region.ready .any ops l = []:=by
   rw [List.eq_nil_iff_forall_not_mem]
   intro j hj
   have hlj:l.getD j false=false:=by
    have:=(mem_ready.1 hj).1
    rw [dG (by have:=hl.size;have:=cW hj;omega) true false] at this;exact this
   have:=d9 (ops:=ops) hl.size (cW hj) hlj
   omega
  exact ⟨hr,fin hG (hnil hl hr h2) hS⟩
 | succ fuel ih =>
  intro f rem Γ M l a w hG hl hleft h1 h2 hS
  refine ⟨fun hr=>fin hG (hnil hl hr h2) hS,fun i hi => ?_⟩
  have hi1:=cW hi
  have hsz:=hl.size
  have hi2:l.getD i false=false:=by
   have:=(mem_ready.1 hi).1
   rw [dG S true false] at this;exact this
  have hl':=hl.set hi
  have hleft':=d9 (ops:=ops) hsz hi1 hi2
  by_cases him:i∈rem
  ·cases f with
   | zero => rw [hG.2.1] at him; cases him
   | succ f =>
    rcases hG.2 with h | h
    ·rw [h.1] at him;cases him
    ·have hir:i∈ja ops rem:=by
      unfold ja
      refine List.mem_filter.2 ⟨him,?_⟩
      simp only [List.all_eq_true,Bool.not_eq_true']
      intro k hk
      rw [← Bool.not_eq_true]; intro hp
      have:=cr hi hp
      rw [(h2 k hk).1] at this;cases this
     obtain ⟨o,ho,hrun⟩:=h.2 i hir
     refine hrun.single o Z ho _ Q (fun D' Γ' M' a' w' hK hS' => ?_) a w hS
     obtain ⟨rfl,hG'⟩:=hK
     refine ih f _ Γ' M' _ a' w' hG' hl' S (fun j hj hlj => ?_) (fun j hj => ?_) hS'
     ·rw [bw S] at hlj
      split at hlj
      ·cases hlj
      ·rename_i hne
       rcases h1 j hj hlj with h3 | h3
       ·exact .inl (List.mem_filter.2 ⟨h3,by simpa using fun e=>hne e.symm⟩)
       ·exact .inr h3
     ·obtain ⟨h3,h4⟩:=List.mem_filter.1 hj
      have hne:i≠j:=fun e=>by simp [e] at h4
      rw [bw S,if_neg hne]
      exact h2 j h3
  ·have hid:i∈dead:=by
    rcases h1 i hi1 hi2 with h | h
    ·exact absurd h him
    ·exact h
   have hDk:iO P E ops dead Γ M:=by
    cases f with
    | zero => exact hG.1
    | succ f => exact hG.1
   obtain ⟨o,d, ψ,ho,hs,hnd⟩:=hDk i hid
   obtain ⟨d', ψ',_,hN,heq,hrun⟩:=hs.run ho
   cases heq
   refine hrun a w hS.base (hS.names _) _ Q fun v w' k hv' => ?_
   have hS':=hS.put k hN hv'
   refine ih f rem Γ M _ _ w' hG hl' S (fun j hj hlj => ?_) (fun j hj => ?_) (hS'.sub (fun t φ ht=>⟨φ,?_,W⟩) (SubM.refl _))
   ·rw [bw S] at hlj
    split at hlj
    ·cases hlj
    ·exact h1 j hj hlj
   ·have hne:i≠j:=fun e=>him (e▸hj)
    rw [bw S,if_neg hne]
    exact h2 j hj
   ·rw [bq,if_neg]
    ·exact ht
    ·intro e;subst e;rw [hnd] at ht;cases ht
def pJ:List Nat→List (List Nat)
 | [] => [[]]
 | x :: xs => (pJ xs).map (x :: ·) ++ pJ xs
theorem nt (p:Nat→Bool) : ∀ l:List Nat,l.filter p∈pJ l
 | [] => List.mem_cons_self
 | x :: xs => by
  have ih:=nt p xs
  rw [List.filter_cons]
  unfold pJ
  split
  ·exact List.mem_append.2 (.inl (List.mem_map.2 ⟨_,ih,rfl⟩))
  ·exact List.mem_append.2 (.inr ih)
def oi (P:Program) (E:Env) (ops:Array Oper) (D:List Deferred) (dead:List Nat) (Γ1:Ctx) (M1:Mem) (f n:Nat) (live:List Nat) (Γ:Ctx) (M:Mem):Prop :=
 ∀ Ab∈pJ live, ∃ Γe,eS Γ Γe∧((Ab ++ dead).all fun i=>match dstOf ops i with | some d=>(bJ Γe d).isNone | none=>true)=true∧eK P E ops D dead Γ1 M1 f (Ab ++ List.range' n (ops.size - n)) Γe M
theorem qW {n:Nat} {live dead:List Nat} (hok:gb n (live ++ dead) ops=true) {G:Nat→Ctx} {M:Mem} {D:List Deferred} (hG : ∀ j o,j<n→ops[j]? = some o→StepG P E (G j) M ops o (G (j+1)))
  {Q:Exit→Act→World→Prop} {Γ1:Ctx} {M1:Mem} {f:Nat} (hE:oi P E ops D dead Γ1 M1 f n live (G n) M) (hQ : ∀ a w,St E D Γ1 M1 a w→Q .normal a w) :
  ∀ (fuel:Nat) (l:Array Bool) (a:Act) (w:World),Lst ops l→left ops l≤fuel→Base E M w→a.tmps.size=E.N→a.defers=D→Inv E ops n G M l a w →
   (∃ i,i<n∧i ∉ live ++ dead∧l.getD i false=false)→wpAny P .any ops Q fuel l a w:=by
 have hn:n≤ops.size:=by simp only [gb,Bool.and_eq_true] at hok;exact of_decide_eq_true hok.1.1
 have hF : ∀ i∈live ++ dead,i<n:=by
  simp only [gb,Bool.and_eq_true,List.all_eq_true,decide_eq_true_eq] at hok;exact hok.1.2
 have late : ∀ {l:Array Bool},Lst ops l → ∀ {i0:Nat},i0<n→i0 ∉ live ++ dead→l.getD i0 false=false → ∀ j,n≤j→j<ops.size→l.getD j false=false:=by
  intro l hl i0 h1 h2 h3 j h4 h5
  rw [← Bool.not_eq_true]; intro hlj
  rcases j5 hok (i:=i0) (j:=j) S h5 with hp | ⟨hp,_⟩ | ⟨hp,_⟩
  ·have:=kI hl _ j hlj i0 hp;rw [this] at h3;cases h3
  ·omega
  ·exact h2 hp
 intro fuel
 induction fuel with
 | zero =>
  intro l a w hl hleft _ _ _ _ ⟨i,hi,_,hil⟩
  have:=d9 (ops:=ops) hl.size (i:=i) S hil
  omega
 | succ fuel ih =>
  intro l a w hl hleft hbase hsz hdf hinv ⟨i0,hi0,hi0F,hil0⟩
  have hls:=hl.size
  have hlt0:=late hl hi0 hi0F hil0
  refine ⟨fun hr => ?_,fun i hi => ?_⟩
  ·obtain ⟨i,hi⟩:=ns hok hls (j:=i0) S hil0
   rw [hr] at hi;cases hi
  ·have hi1:=cW hi
   have hi2:l.getD i false=false:=by
    have:=(mem_ready.1 hi).1
    rw [dG S true false] at this;exact this
   have hin:i<n:=by
    rcases Nat.lt_or_ge i n with h' | h'
    ·exact h'
    ·rcases j5 hok (i:=i0) (j:=i) S hi1 with hp | ⟨hp,_⟩ | ⟨hp,_⟩
     ·have:=pw hl hi hp;rw [this] at hil0;cases hil0
     ·omega
     ·exact absurd hp hi0F
   have ho:ops[i]? = some ops[i]:=by simp [hi1]
   obtain ⟨d, ψ,hd,hN,hΓ,hrun⟩:=(hG i _ hin ho).run ho
   have hdi:dstOf ops i=some d:=by simp [dstOf,ho,hd]
   refine hrun a w hbase (fun t φ ht hlk => ?_) _ Q fun v w' k hv' => ?_
   ·refine hinv i S t φ hlk (fun j hj hdj => ?_) (fun j hj hjs hdj => ?_)
    ·rcases j5 hok hj hi1 with hp | ⟨_,hp⟩ | ⟨_,hp⟩
     ·exact pw hl hi hp
     ·rw [eE hdj (by simpa [dD,ho] using ht)] at hp;cases hp
     ·omega
    ·rcases Nat.lt_or_ge i j with h' | h'
     ·rw [← Bool.not_eq_true]; intro hlj
      rcases j5 hok h' hjs with hp | ⟨_,hp⟩ | ⟨_,hp⟩
      ·have:=kI hl _ j hlj i hp;rw [this] at hi2;cases hi2
      ·rw [el hdj (by simpa [dD,ho] using ht)] at hp;cases hp
      ·have:=hlt0 j hp hjs;rw [hlj] at this;cases this
     ·have:j=i:=by omega
      subst this;exact hi2
   ·have hl':=hl.set hi
    have hbase':=hbase.ext k
    have hsz':(a.put (some d) v).tmps.size=E.N:=by simp [Act.put,hsz]
    have hinv':Inv E ops n G M (l.setIfInBounds i true) (a.put (some d) v) w':=by
     intro k' hk' t φ hlk hlo hhi
     by_cases htd:d=t
     ·subst htd
      have hik:i<k':=by
       rcases Nat.lt_or_ge i k' with h' | h'
       ·exact h'
       ·have:=hhi i h' hi1 hdi;rw [bw S] at this;simp at this
      have hno : ∀ j,i+1≤j→j<k'→dstOf ops j≠some d:=by
       intro j h1 h2 hdj
       have h3:=hlo j h2 hdj
       rw [bw S,if_neg S] at h3
       rcases j5 hok (i:=i) (j:=j) S S with hp | ⟨_,hp⟩ | ⟨_,hp⟩
       ·have:=kI hl _ j h3 i hp;rw [this] at hi2;cases hi2
       ·rw [fc hdi hdj] at hp;cases hp
       ·omega
      rw [eo hG hn (i:=i+1) S hk' hno,hΓ,bq,if_pos Z] at hlk
      cases hlk
      rw [ce (by rw [hsz]; exact hN)]; exact hv'
     ·rw [cd htd]
      refine φ.mono (Base.hv_ext k) (hinv k' hk' t φ hlk (fun j hj hdj => ?_) (fun j hj hjs hdj => ?_))
      ·have:=hlo j hj hdj;rw [bw S] at this
       split at this
       ·rename_i h1;subst h1;rw [hdi] at hdj;cases hdj;exact absurd Z htd
       ·exact this
      ·have:=hhi j hj hjs hdj;rw [bw S] at this
       split at this
       ·cases this
       ·exact this
    have hleft':=d9 (ops:=ops) hls hi1 hi2
    by_cases hmore : ∃ i',i'<n∧i' ∉ live ++ dead∧(l.setIfInBounds i true).getD i' false=false
    ·exact ih _ _ _ hl' S hbase' hsz' hdf hinv' hmore
    ·have hall : ∀ j,j<n→j ∉ live ++ dead→(l.setIfInBounds i true).getD j false=true:=by
      intro j hj hjF;rw [← Bool.not_eq_false]; intro h;exact hmore ⟨j,hj,hjF,h⟩
     have hlate : ∀ j,n≤j→j<ops.size→(l.setIfInBounds i true).getD j false=false:=by
      intro j hj hjs
      rw [bw S,if_neg S]
      exact hlt0 j hj hjs
     obtain ⟨Γe,hsub,hdn,hgame⟩:=hE _ (nt (fun j => !(l.setIfInBounds i true).getD j false) live)
     have hSt:St E D Γe M (a.put (some d) v) w':=by
      refine ⟨hbase',hsz',hdf,fun t φ hlk => ?_⟩
      obtain ⟨φ0,h0,hle⟩:=hsub t φ hlk
      refine hle _ _ (hinv' n (Nat.le_refl _) t φ0 h0 (fun j hj hdj => ?_) (fun j hj hjs _=>hlate j hj hjs))
      have hnotin:j ∉ (live.filter fun j => !(l.setIfInBounds i true).getD j false) ++ dead:=by
       intro hmem
       have:=List.all_eq_true.1 hdn j hmem
       rw [hdj] at this
       simp only [Option.isNone_iff_eq_none] at this
       rw [hlk] at this;cases this
      by_cases hjF:j∈live ++ dead
      ·rcases List.mem_append.1 hjF with h | h
       ·rw [← Bool.not_eq_false]; intro hf
        exact hnotin (List.mem_append.2 (.inl (List.mem_filter.2 ⟨h,by rw [hf]; rfl⟩)))
       ·exact absurd (List.mem_append.2 (.inr h)) hnotin
      ·exact hall j hj hjF
     refine uj hok hQ fuel f _ Γe M _ _ w' hgame hl' S (fun j hj hlj => ?_) (fun j hj => ?_) hSt
     ·rcases Nat.lt_or_ge j n with h | h
      ·by_cases hjF:j∈live ++ dead
       ·rcases List.mem_append.1 hjF with h' | h'
        ·exact .inl (List.mem_append.2 (.inl (List.mem_filter.2 ⟨h',by rw [hlj]; rfl⟩)))
        ·exact .inr h'
       ·rw [hall j h hjF] at hlj;cases hlj
      ·exact .inl (List.mem_append.2 (.inr (List.mem_range'_1.2 ⟨h,by omega⟩)))
     ·rcases List.mem_append.1 hj with h | h
      ·obtain ⟨h1,h2⟩:=List.mem_filter.1 h
       exact ⟨by simpa using h2,Nat.lt_of_lt_of_le (hF j (List.mem_append.2 (.inl h1))) hn⟩
      ·obtain ⟨h1,h2⟩:=List.mem_range'_1.1 h
       exact ⟨hlate j h1 S,by omega⟩
theorem qX {D:List Deferred} {Γ:Ctx} {M:Mem} {id:Nat} {Q:Exit→Act→World→Prop} (n f:Nat) (live dead:List Nat) {Γ1:Ctx} {M1:Mem} (hm:P.follows .mixedOrders=true) (hok:gb n (live ++ dead) ops=true) (h0:decide (0<n) && !(live ++ dead).contains 0=true)
  (h:Run P E ops true 0 D Γ M (ops.toList.take n) (fun D' Γ' M'=>oi P E ops D dead Γ1 M1 f n live Γ' M')) (hk:PJ E D Γ1 M1 .normal Q):J P E D Γ M (.region id ops true) Q:=by
 intro a w hS
 have hn:n≤ops.size:=by simp only [gb,Bool.and_eq_true] at hok;exact of_decide_eq_true hok.1.1
 simp only [Bool.and_eq_true,decide_eq_true_eq,Bool.not_eq_true', ← Bool.not_eq_true,List.contains_iff_mem] at h0
 refine dX hm ?_
 have k:Ext w { w with drawn:=w.drawn+1 } := ⟨rfl,rfl,rfl,Nat.le_refl _,fun _ _=>rfl⟩
 obtain ⟨G,hG0,hK,hG⟩:=h.chain Z
 have hlen:(ops.toList.take n).length=n:=by simp [hn]
 rw [hlen,Nat.zero_add] at hK
 refine qW (D:=D) hok (G:=G) (M:=M) (Q:=nrm Q) (fun j o hj ho => ?_) hK (fun a w hS=>hk a w hS) ops.size _ a _ ⟨by simp,fun j hj => ?_⟩ ?_ (hS.base.ext k) hS.sz hS.df ?_ ⟨0,h0.1,h0.2,?_⟩
 ·have:=hG j o (by rw [List.getElem?_take,if_pos hj]; simpa using ho)
  simpa using this
 ·simp [Array.getD_eq_getD_getElem?,Array.getElem?_replicate] at hj;split at hj <;> simp at hj
 ·unfold left;refine Nat.le_trans (List.length_filter_le _ _) (by simp)
 ·intro k' hk' t φ hlk hlo _
  have hno : ∀ j,0≤j→j<k'→dstOf ops j≠some t:=by
   intro j _ hj hd
   have:=hlo j hj hd
   simp [Array.getD_eq_getD_getElem?,Array.getElem?_replicate] at this;split at this <;> simp at this
  rw [eo (fun j o hj ho=>by have:=hG j o (by rw [List.getElem?_take,if_pos hj]; simpa using ho);simpa using this) hn (Nat.zero_le _) hk' hno,hG0] at hlk
  exact φ.mono (Base.hv_ext k) (hS.tm t φ hlk)
 ·simp [Array.getD_eq_getD_getElem?,Array.getElem?_replicate]; split <;> rfl
theorem uk {D:List Deferred} {dead:List Nat} {x:Nat} {Γ1 Γ Γe Γe':Ctx} {M1 M:Mem} {f n:Nat} {rem:List Nat} (hr:List.range' n (ops.size - n)=rem) (hs:eS Γ Γe) (hd:((x :: dead).all fun i=>match dstOf ops i with | some d=>(bJ Γe d).isNone | none=>true)=true)
  (hs':eS Γ Γe') (hd':(dead.all fun i=>match dstOf ops i with | some d=>(bJ Γe' d).isNone | none=>true)=true)
  (h:eK P E ops D dead Γ1 M1 f (x :: rem) Γe M) (h':eK P E ops D dead Γ1 M1 f rem Γe' M):oi P E ops D dead Γ1 M1 f n [x] Γ M:=fun Ab hS=>by
 rcases List.mem_cons.1 hS with rfl | hS
 ·exact ⟨Γe,hs,hd,hr▸h⟩
 ·rcases List.mem_cons.1 hS with rfl | hS
  ·exact ⟨Γe',hs',hd',hr▸h'⟩
  ·cases hS
theorem xk {D:List Deferred} {dead:List Nat} {x y:Nat} {Γ1 Γ Γa Γb Γc Γd:Ctx} {M1 M:Mem} {f n:Nat} {rem:List Nat} (hr:List.range' n (ops.size - n)=rem)
  (ha:eS Γ Γa) (ha':((x :: y :: dead).all fun i=>match dstOf ops i with | some d=>(bJ Γa d).isNone | none=>true)=true)
  (hb:eS Γ Γb) (hb':((x :: dead).all fun i=>match dstOf ops i with | some d=>(bJ Γb d).isNone | none=>true)=true)
  (hc:eS Γ Γc) (hc':((y :: dead).all fun i=>match dstOf ops i with | some d=>(bJ Γc d).isNone | none=>true)=true)
  (hd:eS Γ Γd) (hd':(dead.all fun i=>match dstOf ops i with | some d=>(bJ Γd d).isNone | none=>true)=true)
  (h1:eK P E ops D dead Γ1 M1 f (x :: y :: rem) Γa M) (h2:eK P E ops D dead Γ1 M1 f (x :: rem) Γb M) (h3:eK P E ops D dead Γ1 M1 f (y :: rem) Γc M) (h4:eK P E ops D dead Γ1 M1 f rem Γd M):oi P E ops D dead Γ1 M1 f n [x,y] Γ M:=fun Ab hS=>by
 rcases List.mem_cons.1 hS with rfl | hS
 ·exact ⟨Γa,ha,ha',hr▸h1⟩
 ·rcases List.mem_cons.1 hS with rfl | hS
  ·exact ⟨Γb,hb,hb',hr▸h2⟩
  ·rcases List.mem_cons.1 hS with rfl | hS
   ·exact ⟨Γc,hc,hc',hr▸h3⟩
   ·rcases List.mem_cons.1 hS with rfl | hS
    ·exact ⟨Γd,hd,hd',hr▸h4⟩
    ·cases hS
theorem gx {D:List Deferred} {Γ:Ctx} {M:Mem} {fn:Func} {R:Ending→World→Prop} (h:PJ E D Γ M .ret (bodyPost P fn R)):PJ E D Γ M .normal (bodyPost P fn R):=fun a w hS=>h a w hS
end
section
variable {P:Program} {E:Env} {ops:Array Oper}
end
end Tor
end
section
set_option linter.unusedSectionVars false
namespace Tor
open Go Go.RowKit
section
variable {P:Program} {E:Env} {D:List Deferred} {Γ:Ctx} {M:Mem} {d:Option Tmp} {ty:TypeId} {pos:String} {af:Array Edge} {gd:Option (Nat × Bool)}
theorem lH {ops:Array Oper} {i:Nat} {os:List Oper} {K:List Deferred→Ctx→Mem→Prop} {Γ':Ctx} {M':Mem} (hg:eS Γ Γ') (hm:SubM M M') (h:Run P E ops false i D Γ' M' os K):Run P E ops false i D Γ M os K := .conv (fun a w hS=>hS.sub hg hm) h
theorem aQ.le' {o:Oper} {φ ψ:VT} (h:aQ P E Γ M o φ) (hl:VT.le φ ψ):aQ P E Γ M o ψ:=fun a w hb hf next Q hn=>h a w hb hf next Q fun v w' hx hv=>hn v w' hx (hl _ _ hv)
end
end Tor
end
section
namespace Tor
def swp {α:Type} (i k:Nat) (φ:Nat→α):Nat→α:=fun q=>if q=i then φ k else if q=k then φ i else φ q
theorem ul {α:Type} {i k:Nat} (φ:Nat→α):swp i k φ k=φ i:=by
 unfold swp;by_cases h:k=i
 ·rw [if_pos h,h]
 ·rw [if_neg h,if_pos Z]
end Tor
namespace Tor.Lin
/-! ### Sums -/
/-! ### Determinants with a column that is a combination -/
end Tor.Lin
end
section
namespace Tor
structure SS where
 M:Nat→Nat→Int
 U:Nat→Nat→Int
 V:Nat→Nat→Int
 row:Nat
 col:Nat
def cQ (f:Nat→Bool):Nat→Nat
 | 0 => 0
 | n + 1 => if cQ f n < n then cQ f n else if f n then n else n + 1
theorem j6 (f:Nat→Bool) : ∀ n,cQ f n≤n
 | 0 => Nat.le_refl _
 | n + 1 => by
  have:=j6 f n
  rw [cQ]; split
  ·omega
  ·split <;> omega
theorem ij (f:Nat→Bool) : ∀ n j,j<cQ f n→f j=false
 | 0, j, h => by rw [cQ] at h; omega
 | n + 1, j, h => by
  have ih:=ij f n j
  have hl:=j6 f n
  rw [cQ] at h
  by_cases h1:cQ f n<n
  ·rw [if_pos h1] at h;exact ih h
  ·rw [if_neg h1] at h
   by_cases h2:f n=true
   ·rw [if_pos h2] at h;exact ih S
   ·rw [if_neg h2] at h
    rcases Nat.lt_or_eq_of_le (Nat.lt_succ_iff.1 h) with h3 | h3
    ·exact ih S
    ·rw [h3]; simpa using h2
theorem e6 (f:Nat→Bool) : ∀ n,cQ f n<n→f (cQ f n)=true
 | 0, h => by omega
 | n + 1, h => by
  have ih:=e6 f n
  rw [cQ] at h ⊢
  by_cases h1:cQ f n<n
  ·rw [if_pos h1]; exact ih h1
  ·rw [if_neg h1] at h ⊢
   by_cases h2:f n=true
   ·rw [if_pos h2]; exact h2
   ·rw [if_neg h2] at h;omega
theorem ol {f:Nat→Bool} {n k:Nat} (hk:k<n) (h : ∀ j,j<k→f j=false) (hf:f k=true):cQ f n=k:=by
 have h1:=ij f n
 have h2:=j6 f n
 rcases Nat.lt_trichotomy (cQ f n) k with h3 | h3 | h3
 ·have:=h _ h3
  rw [e6 f n S] at this
  cases this
 ·exact h3
 ·rw [h1 k h3] at hf;cases hf
theorem rS {f:Nat→Bool} {n:Nat} (h : ∀ j,j<n→f j=false):cQ f n=n:=by
 have h2:=j6 f n
 rcases Nat.lt_or_eq_of_le h2 with h3 | h3
 ·have:=h _ h3
  rw [e6 f n h3] at this
  cases this
 ·exact h3
def c9 (x:Nat→Int) (r:Nat):Nat→Int
 | 0 => -1
 | j + 1 => if x (r + j) ≠ 0 ∧ (c9 x r j < 0 ∨ (x (r + j)).natAbs < (x (c9 x r j).toNat).natAbs) then ((r + j : Nat) : Int) else c9 x r j
theorem dW (x:Nat→Int) (r:Nat) : ∀ j,(c9 x r j = -1 ∧ ∀ i,r≤i→i<r+j→x i=0) ∨ ∃ i:Nat,c9 x r j=(i:Int)∧r≤i∧i<r+j∧x i≠0 ∧ ∀ k,r≤k→k<r+j→x k≠0→(x i).natAbs≤(x k).natAbs
 | 0 => .inl ⟨rfl, fun i h1 h2 => by omega⟩
 | j + 1 => by
  rw [c9]
  rcases dW x r j with ⟨h1,h2⟩ | ⟨i,h1,h2,h3,h4,h5⟩
  ·rw [h1]
   by_cases h0:x (r+j)=0
   ·rw [if_neg (fun h=>h.1 h0)]
    refine .inl ⟨rfl,fun i i1 i2 => ?_⟩
    rcases Nat.lt_or_ge i (r+j) with h | h
    ·exact h2 i i1 h
    ·rw [show i=r+j by omega]; exact h0
   ·rw [if_pos ⟨h0, .inl Y⟩]
    refine .inr ⟨r+j,rfl,by omega,by omega,h0,fun k k1 k2 k3 => ?_⟩
    rcases Nat.lt_or_ge k (r+j) with h | h
    ·exact absurd (h2 k k1 h) k3
    ·rw [show k=r+j by omega]; exact Nat.le_refl _
  ·rw [h1,Int.toNat_natCast]
   by_cases h0:x (r+j)≠0∧((i:Int)<0∨(x (r+j)).natAbs<(x i).natAbs)
   ·rw [if_pos h0]
    have h6:(x (r+j)).natAbs<(x i).natAbs:=h0.2.resolve_left S
    refine .inr ⟨r+j,rfl,by omega,by omega,h0.1,fun k k1 k2 k3 => ?_⟩
    rcases Nat.lt_or_ge k (r+j) with h | h
    ·have:=h5 k k1 h k3;omega
    ·rw [show k=r+j by omega]; exact Nat.le_refl _
   ·rw [if_neg h0]
    refine .inr ⟨i,rfl,h2,by omega,h4,fun k k1 k2 k3 => ?_⟩
    rcases Nat.lt_or_ge k (r+j) with h | h
    ·exact h5 k k1 h k3
    ·rw [show k=r+j by omega] at k3 ⊢
     rcases Nat.lt_or_ge (x (r+j)).natAbs (x i).natAbs with h7 | h7
     ·exact absurd ⟨k3, .inr h7⟩ h0
     ·exact h7
def cN (r:Nat) (F:Nat→Nat→Int):Nat→Nat→Int:=fun i j=>if i=r then - F i j else F i j
def gG (r:Nat) (F:Nat→Nat→Int):Nat→Nat→Int:=fun i j=>if j=r then - F i j else F i j
def bW (k r:Nat) (q:Int) (F:Nat→Nat→Int):Nat→Nat→Int:=fun i j=>if i=k then F i j - q*F r j else F i j
def eQ (r k:Nat) (q:Int) (F:Nat→Nat→Int):Nat→Nat→Int:=fun i j=>if j=r then F i j+q*F i k else F i j
def gP (i r:Nat) (F:Nat→Nat→Int):Nat→Nat→Int:=fun a=>swp i r (F a)
def ct (x:Nat→Int) (p:Int) (r k:Nat):Bool:=decide (k≠r∧(k<r∧x k / p≠0∨r<k∧x k≠0))
def c8 (n:Nat) (s:SS):SS :=
  if c9 (fun i=>s.M i s.col) s.row (n - s.row)<0 then { s with col:=s.col+1 }
  else if c9 (fun i=>s.M i s.col) s.row (n - s.row)≠(s.row:Int) then
    { s with M:=swp (c9 (fun i=>s.M i s.col) s.row (n - s.row)).toNat s.row s.M,U:=swp (c9 (fun i=>s.M i s.col) s.row (n - s.row)).toNat s.row s.U,V:=gP (c9 (fun i=>s.M i s.col) s.row (n - s.row)).toNat s.row s.V }
  else if s.M s.row s.col<0 then { s with M:=cN s.row s.M,U:=cN s.row s.U,V:=gG s.row s.V }
  else if cQ (ct (fun i=>s.M i s.col) (s.M s.row s.col) s.row) n<n then
    { s with M:=bW (cQ (ct (fun i=>s.M i s.col) (s.M s.row s.col) s.row) n) s.row (s.M (cQ (ct (fun i=>s.M i s.col) (s.M s.row s.col) s.row) n) s.col / s.M s.row s.col) s.M
             U:=bW (cQ (ct (fun i=>s.M i s.col) (s.M s.row s.col) s.row) n) s.row (s.M (cQ (ct (fun i=>s.M i s.col) (s.M s.row s.col) s.row) n) s.col / s.M s.row s.col) s.U
             V:=eQ s.row (cQ (ct (fun i=>s.M i s.col) (s.M s.row s.col) s.row) n) (s.M (cQ (ct (fun i=>s.M i s.col) (s.M s.row s.col) s.row) n) s.col / s.M s.row s.col) s.V }
  else { s with row:=s.row+1,col:=s.col+1 }
def cR (n m:Nat) (s:SS):Bool:=decide (s.row=n∨s.col=m)
def bN (n m:Nat):Nat→SS→SS
 | 0, s => s
 | t + 1, s => if cR n m s then s else bN n m t (c8 n s)
theorem mf {n m:Nat} {s:SS} (h:cR n m s=true) : ∀ t,bN n m t s=s
 | 0 => rfl
 | t + 1 => by rw [bN, if_pos h]
theorem iP {n m:Nat} : ∀ (a b:Nat) (s:SS),bN n m (a+b) s=bN n m b (bN n m a s)
 | 0, b, s => by rw [Nat.zero_add]; rfl
 | a + 1, b, s => by
  rw [show a+1+b=a+b+1 by omega,bN,bN]
  by_cases h:cR n m s=true
  ·rw [if_pos h,if_pos h,mf h]
  ·rw [if_neg h,if_neg h]; exact iP a b _
end Tor
end
section
namespace Tor
/-! ### Products and sums over a column -/
def wtN (x:Int):Nat:=if x=0 then 1 else 3*x.natAbs
def ngN (x:Int):Nat:=if x<0 then 1 else 0
def prX (x:Nat→Int):Nat→Nat
 | 0 => 1
 | n + 1 => prX x n * wtN (x n)
def smX (g:Int→Nat) (x:Nat→Int):Nat→Nat
 | 0 => 0
 | n + 1 => smX g x n + g (x n)
def dc (x:Nat→Int) (k:Nat) (y:Int):Nat→Int:=fun i=>if i=k then y else x i
theorem jD (x:Int):0<wtN x:=by unfold wtN;split <;> omega
theorem jb (x:Nat→Int) : ∀ n,0<prX x n
 | 0 => Nat.one_pos
 | n + 1 => Nat.mul_pos (jb x n) (jD _)
theorem rT {x:Nat→Int} {k:Nat} {y:Int} : ∀ {n:Nat},n≤k→prX (dc x k y) n=prX x n
 | 0, _ => rfl
 | n + 1, h => by rw [prX, prX, rT (show n ≤ k by omega)]; unfold dc; rw [if_neg S]
theorem ik {x:Nat→Int} {k:Nat} {y:Int} : ∀ {n:Nat},k<n→prX (dc x k y) n*wtN (x k)=prX x n*wtN y
 | n + 1, h => by
  rw [prX,prX]
  rcases Nat.lt_or_eq_of_le (Nat.lt_succ_iff.1 h) with h1 | h1
  ·have ih:=ik (x:=x) (y:=y) h1
   have e:dc x k y n=x n:=by unfold dc;rw [if_neg S]
   rw [e,Nat.mul_right_comm,ih,Nat.mul_right_comm]
  ·subst h1
   have e:dc x k y k=y:=by unfold dc;rw [if_pos Z]
   rw [e,rT (Nat.le_refl _),Nat.mul_right_comm]
theorem rU {g:Int→Nat} {x:Nat→Int} {k:Nat} {y:Int} : ∀ {n:Nat},n≤k→smX g (dc x k y) n=smX g x n
 | 0, _ => rfl
 | n + 1, h => by rw [smX, smX, rU (show n ≤ k by omega)]; unfold dc; rw [if_neg S]
theorem im {g:Int→Nat} {x:Nat→Int} {k:Nat} {y:Int} : ∀ {n:Nat},k<n→smX g (dc x k y) n+g (x k)=smX g x n+g y
 | n + 1, h => by
  rw [smX,smX]
  rcases Nat.lt_or_eq_of_le (Nat.lt_succ_iff.1 h) with h1 | h1
  ·have ih:=im (g:=g) (x:=x) (y:=y) h1
   have e:dc x k y n=x n:=by unfold dc;rw [if_neg S]
   rw [e]; omega
  ·subst h1
   have e:dc x k y k=y:=by unfold dc;rw [if_pos Z]
   rw [e,rU (Nat.le_refl _)]; omega
theorem mg {x:Nat→Int} {i r:Nat} : swp i r x=dc (dc x r (x i)) i (x r):=by
 funext q;unfold swp dc
 by_cases h1:q=i
 ·rw [if_pos h1]
 ·rw [if_neg h1]
theorem om {x:Nat→Int} {r i:Nat} {y:Int} (h:i≠r):dc x r y i=x i:=by unfold dc;rw [if_neg h]
theorem rV {x:Nat→Int} {i r n:Nat} (hi:i<n) (hr:r<n) (hne:i≠r):prX (swp i r x) n=prX x n:=by
 rw [mg]
 have h1:=ik (x:=dc x r (x i)) (y:=x r) hi
 have h2:=ik (x:=x) (y:=x i) hr
 rw [om hne] at h1
 have h3:prX (dc (dc x r (x i)) i (x r)) n*wtN (x i)*wtN (x r)=prX x n*wtN (x i)*wtN (x r):=by
  rw [h1,Nat.mul_right_comm,h2,Nat.mul_right_comm]
 exact Nat.eq_of_mul_eq_mul_right (jD _) (Nat.eq_of_mul_eq_mul_right (jD _) h3)
theorem rW {g:Int→Nat} {x:Nat→Int} {i r n:Nat} (hi:i<n) (hr:r<n) (hne:i≠r):smX g (swp i r x) n=smX g x n:=by
 rw [mg]
 have h1:=im (g:=g) (x:=dc x r (x i)) (y:=x r) hi
 have h2:=im (g:=g) (x:=x) (y:=x i) hr
 rw [om hne] at h1
 omega
/-! ### One division -/
theorem oo {x p:Int} (hp:0<p) (hx:p≤x):(1+(x / p).natAbs)*wtN (x - x / p*p)≤wtN x∧(x - x / p*p).natAbs<x.natAbs∧0≤x - x / p*p:=by
 have h1:=Int.mul_ediv_add_emod x p
 have h2:=Int.emod_nonneg x (show p≠0 by omega)
 have h3:=Int.emod_lt_of_pos x hp
 have hq:1≤x / p:=Int.le_ediv_of_mul_le hp S
 rw [Int.mul_comm] at h1
 generalize x % p=t at *
 generalize x / p=q at *
 obtain ⟨a,rfl⟩:=Int.eq_ofNat_of_zero_le (show 0≤q by omega)
 obtain ⟨b,rfl⟩:=Int.eq_ofNat_of_zero_le h2
 obtain ⟨c,rfl⟩:=Int.eq_ofNat_of_zero_le (Int.le_of_lt hp)
 have e:x - (a:Int)*(c:Int)=(b:Int):=by omega
 rw [e]
 have hx2:x=((a*c+b:Nat):Int):=by rw [Int.natCast_add,Int.natCast_mul]; omega
 subst hx2
 have h4:a≤a*c:=Nat.le_mul_of_pos_right _ S
 have h5:c≤a*c:=Nat.le_mul_of_pos_left _ S
 have h6:a*b≤a*c:=Nat.mul_le_mul_left _ S
 clear h1 e
 generalize hz:a*c=z at *
 rw [Int.natAbs_natCast,Int.natAbs_natCast,Int.natAbs_natCast]
 refine ⟨?_,by omega,h2⟩
 unfold wtN
 rw [if_neg (show ¬ ((z+b:Nat):Int)=0 by omega),Int.natAbs_natCast]
 by_cases h0:(b:Int)=0
 ·rw [if_pos h0]; omega
 ·rw [if_neg h0,Int.natAbs_natCast,Nat.mul_left_comm,Nat.add_mul,Nat.one_mul]; omega
theorem rX {x p:Int} (hp:0<p) (hx:x<0):(1+(x / p).natAbs)*wtN (x - x / p*p)≤2*p.natAbs*wtN x∧0≤x - x / p*p:=by
 have h1:=Int.mul_ediv_add_emod x p
 have h2:=Int.emod_nonneg x (show p≠0 by omega)
 have h3:=Int.emod_lt_of_pos x hp
 rw [Int.mul_comm] at h1
 have hq:=Int.natAbs_ediv_le_natAbs x p
 rw [show x - x / p*p=x % p by omega]
 refine ⟨?_,h2⟩
 have h4:wtN (x % p)≤3*p.natAbs:=by unfold wtN;split <;> omega
 have h5:wtN x=3*x.natAbs:=by unfold wtN;rw [if_neg S]
 rw [h5]
 refine Nat.le_trans (Nat.mul_le_mul (show 1+(x / p).natAbs≤2*x.natAbs by omega) h4) (Nat.le_of_eq ?_)
 ac_rfl
/-! ### The bound -/
structure BndS (e:Nat) (s:SS):Prop where
 m : ∀ i j,(s.M i j).natAbs≤e
 u : ∀ i j,(s.U i j).natAbs≤e
 v : ∀ i j,(s.V i j).natAbs≤e
theorem j7 {e i r:Nat} {F:Nat→Nat→Int} (h : ∀ i j,(F i j).natAbs≤e) (a j:Nat):(swp i r F a j).natAbs≤e:=by
 unfold swp;split
 ·exact h _ _
 ·split <;> exact h _ _
theorem oq {a b q:Int} {e:Nat} (ha:a.natAbs≤e) (hb:b.natAbs≤e):(a - q*b).natAbs≤e*(1+q.natAbs):=by
 have h1:(q*b).natAbs≤e*q.natAbs:=by rw [Int.natAbs_mul,Nat.mul_comm]; exact Nat.mul_le_mul_right _ hb
 rw [Nat.mul_add]; omega
theorem vO {a b q:Int} {e:Nat} (ha:a.natAbs≤e) (hb:b.natAbs≤e):(a+q*b).natAbs≤e*(1+q.natAbs):=by
 have h1:(q*b).natAbs≤e*q.natAbs:=by rw [Int.natAbs_mul,Nat.mul_comm]; exact Nat.mul_le_mul_right _ hb
 rw [Nat.mul_add]; omega
theorem BndS.sub {e:Nat} {s:SS} (h:BndS e s) (k r:Nat) (q:Int) (a b:Nat):BndS (e*(1+q.natAbs)) { s with M:=bW k r q s.M,U:=bW k r q s.U,V:=eQ r k q s.V } := by
 have he:e≤e*(1+q.natAbs):=Nat.le_mul_of_pos_right _ S
 refine ⟨fun i j => ?_,fun i j => ?_,fun i j => ?_⟩
 ·show (bW k r q s.M i j).natAbs≤_
  unfold bW;split
  ·exact oq (h.m _ _) (h.m _ _)
  ·exact Nat.le_trans (h.m _ _) he
 ·show (bW k r q s.U i j).natAbs≤_
  unfold bW;split
  ·exact oq (h.u _ _) (h.u _ _)
  ·exact Nat.le_trans (h.u _ _) he
 ·show (eQ r k q s.V i j).natAbs≤_
  unfold eQ;split
  ·exact vO (h.v _ _) (h.v _ _)
  ·exact Nat.le_trans (h.v _ _) he
def gQ (n e:Nat) (x:Nat→Int):Nat:=(2*(e*prX x n))^2^smX ngN x n
theorem xl {n e:Nat} {x:Nat→Int} (he:1≤e):e≤gQ n e x:=by
 have h1:=jb x n
 have h2:e≤e*prX x n:=Nat.le_mul_of_pos_right _ h1
 have h3:2*(e*prX x n)≤gQ n e x:=Nat.le_self_pow (by have:=Nat.two_pow_pos (smX ngN x n);omega) _
 omega
theorem um {x:Nat→Int} {e:Nat} (he:1≤e) (h : ∀ i,(x i).natAbs≤e) : ∀ n,prX x n≤(3*e)^n
 | 0 => Nat.le_refl _
 | n + 1 => by
  rw [prX,Nat.pow_succ]
  refine Nat.mul_le_mul (um he h n) ?_
  unfold wtN;have:=h n;split <;> omega
theorem un {x:Nat→Int} : ∀ n,smX ngN x n≤n
 | 0 => Nat.le_refl _
 | n + 1 => by
  have:=un (x:=x) n
  rw [smX]; unfold ngN at *; split <;> omega
theorem rY {n e t:Nat} {x:Nat→Int} (hn:n≤4) (he:1≤e) (het:e≤2^t) (h : ∀ i,(x i).natAbs≤e):gQ n e x≤2^(80*t+144):=by
 have h1:prX x n≤(3*e)^4:=Nat.le_trans (um he h n) (Nat.pow_le_pow_right S hn)
 have h2:3*e≤2^(t+2):=by rw [Nat.pow_add]; omega
 have h3:prX x n≤2^((t+2)*4):=by rw [Nat.pow_mul]; exact Nat.le_trans h1 (Nat.pow_le_pow_left h2 4)
 have h4:2*(e*prX x n)≤2^(1+(t+(t+2)*4)):=by
  rw [Nat.pow_add 2 1,Nat.pow_add 2 t]
  exact Nat.mul_le_mul (Nat.le_refl _) (Nat.mul_le_mul het h3)
 have h5:2^smX ngN x n≤16:=Nat.le_trans (Nat.pow_le_pow_right (n:=2) Y (Nat.le_trans (un n) hn)) Y
 unfold gQ
 refine Nat.le_trans (Nat.pow_le_pow_left h4 _) (Nat.le_trans (Nat.pow_le_pow_right (Nat.two_pow_pos _) h5) ?_)
 rw [← Nat.pow_mul]
 exact Nat.pow_le_pow_right Y S
def tB:Nat→Nat
 | 0 => 464
 | c + 1 => 80 * tB c + 144
structure PotI (n:Nat) (s:SS) (e:Nat):Prop where
 one:1≤e
 bnd:BndS e s
 pot:gQ n e (fun i=>s.M i s.col)≤2^tB s.col
theorem PotI.le {n e:Nat} {s:SS} (h:PotI n s e):e≤2^tB s.col:=Nat.le_trans (xl h.one) h.pot
theorem pK {Q Q' N N':Nat} (hN:N=N'+1) (h:Q'≤2*(Q*Q)):(2*Q')^2^N'≤(2*Q)^2^N:=by
 rw [hN,Nat.pow_succ',Nat.pow_mul]
 refine Nat.pow_le_pow_left ?_ _
 rw [Nat.pow_two]
 have:2*Q*(2*Q)=2*(2*(Q*Q)):=by ac_rfl
 omega
theorem PotI.step {n:Nat} {s:SS} {e:Nat} (hn:n≤4) (hrn:s.row<n) (h:PotI n s e) : ∃ e',PotI n (c8 n s) e':=by
 have hb:=h.bnd
 have nxt : ∀ r,PotI n { s with row:=r,col:=s.col+1 } e:=fun r =>
  ⟨h.one,⟨hb.m,hb.u,hb.v⟩,rY hn h.one h.le (fun i=>hb.m i _)⟩
 unfold c8
 rcases dW (fun i=>s.M i s.col) s.row (n - s.row) with ⟨e1,h0⟩ | ⟨i,e1,i1,i2,i3,i4⟩
 ·rw [e1,if_pos Y]; exact ⟨e,nxt s.row⟩
 ·rw [e1,if_neg S,Int.toNat_natCast]
  by_cases c1:(i:Int)≠(s.row:Int)
  ·rw [if_pos c1]
   refine ⟨e,h.one,⟨j7 hb.m,j7 hb.u,fun a j => ?_⟩,?_⟩
   ·show (swp i s.row (s.V a) j).natAbs≤e
    unfold swp;split
    ·exact hb.v _ _
    ·split <;> exact hb.v _ _
   ·show gQ n e (fun a=>swp i s.row s.M a s.col)≤_
    have e2:(fun a=>swp i s.row s.M a s.col)=swp i s.row (fun a=>s.M a s.col):=by funext a;unfold swp;split;rfl;split <;> rfl
    have hp:=h.pot
    unfold gQ at *
    rw [e2,rV S hrn S,rW S hrn S]
    exact hp
  ·rw [if_neg c1]
   have hir:i=s.row:=by omega
   subst hir
   have i3:s.M s.row s.col≠0:=i3
   by_cases c2:s.M s.row s.col<0
   ·rw [if_pos c2]
    refine ⟨e,h.one,⟨fun a j => ?_,fun a j => ?_,fun a j => ?_⟩,?_⟩
    ·show (cN s.row s.M a j).natAbs≤e
     have:=hb.m a j
     unfold cN;split <;> omega
    ·show (cN s.row s.U a j).natAbs≤e
     have:=hb.u a j
     unfold cN;split <;> omega
    ·show (gG s.row s.V a j).natAbs≤e
     have:=hb.v a j
     unfold gG;split <;> omega
    ·show gQ n e (fun a=>cN s.row s.M a s.col)≤_
     have e2:(fun a=>cN s.row s.M a s.col)=dc (fun a=>s.M a s.col) s.row (-s.M s.row s.col):=by
      funext a;unfold cN dc
      by_cases ha:a=s.row
      ·rw [if_pos ha,if_pos ha,ha]
      ·rw [if_neg ha,if_neg ha]
     have hp:=h.pot
     have u1:=ik (x:=fun a=>s.M a s.col) (y := -s.M s.row s.col) hrn
     have u2:=im (g:=ngN) (x:=fun a=>s.M a s.col) (y := -s.M s.row s.col) hrn
     have w1:wtN (-s.M s.row s.col)=wtN (s.M s.row s.col):=by
      unfold wtN;rw [if_neg S,if_neg i3,Int.natAbs_neg]
     have w2:ngN (s.M s.row s.col)=1:=by unfold ngN;rw [if_pos c2]
     have w3:ngN (-s.M s.row s.col)=0:=by unfold ngN;rw [if_neg S]
     rw [w1] at u1
     have u1:=Nat.eq_of_mul_eq_mul_right (jD _) u1
     rw [w2,w3] at u2
     rw [e2]
     unfold gQ at *
     rw [u1]
     refine Nat.le_trans (Nat.pow_le_pow_right ?_ (Nat.pow_le_pow_right Y S)) hp
     have:=Nat.mul_pos h.one (jb (fun a=>s.M a s.col) n)
     omega
   ·rw [if_neg c2]
    have hpos:0<s.M s.row s.col:=by omega
    by_cases c3:cQ (ct (fun i=>s.M i s.col) (s.M s.row s.col) s.row) n<n
    ·rw [if_pos c3]
     have hnd:=of_decide_eq_true (e6 _ _ c3)
     generalize cQ (ct (fun i=>s.M i s.col) (s.M s.row s.col) s.row) n=k at *
     obtain ⟨hkr,hnd⟩:=hnd
     dsimp only at hnd
     refine ⟨e*(1+(s.M k s.col / s.M s.row s.col).natAbs),Nat.le_trans h.one (Nat.le_mul_of_pos_right _ S),hb.sub k s.row _ 0 0,?_⟩
     show gQ n _ (fun a=>bW k s.row (s.M k s.col / s.M s.row s.col) s.M a s.col)≤_
     have e2:(fun a=>bW k s.row (s.M k s.col / s.M s.row s.col) s.M a s.col)=dc (fun a=>s.M a s.col) k (s.M k s.col - s.M k s.col / s.M s.row s.col*s.M s.row s.col):=by
      funext a;unfold bW dc
      by_cases ha:a=k
      ·rw [if_pos ha,if_pos ha,ha]
      ·rw [if_neg ha,if_neg ha]
     have hp:=h.pot
     have hpe:=hb.m s.row s.col
     have u1:=ik (x:=fun a=>s.M a s.col) (y:=s.M k s.col - s.M k s.col / s.M s.row s.col*s.M s.row s.col) c3
     have u2:=im (g:=ngN) (x:=fun a=>s.M a s.col) (y:=s.M k s.col - s.M k s.col / s.M s.row s.col*s.M s.row s.col) c3
     have hP0:=jb (fun a=>s.M a s.col) n
     have hw0:=jD (s.M k s.col)
     rw [e2]
     refine Nat.le_trans ?_ hp
     unfold gQ
     try dsimp only at u1 u2
     by_cases hx:0≤s.M k s.col
     ·have hle:s.M s.row s.col≤s.M k s.col:=by
       rcases hnd with ⟨_,h2⟩ | ⟨h1,h2⟩
       ·rcases Int.lt_or_le (s.M k s.col) (s.M s.row s.col) with h3 | h3
        ·exact absurd (Int.ediv_eq_zero_of_lt hx h3) h2
        ·exact h3
       ·have:=i4 k S S h2
        try dsimp only at this
        omega
      obtain ⟨d1,d2,d3⟩:=oo hpos hle
      have g1:ngN (s.M k s.col)=0:=by unfold ngN;rw [if_neg S]
      have g2:ngN (s.M k s.col - s.M k s.col / s.M s.row s.col*s.M s.row s.col)=0:=by unfold ngN;rw [if_neg S]
      rw [g1,g2,Nat.add_zero,Nat.add_zero] at u2
      rw [u2]
      generalize s.M k s.col - s.M k s.col / s.M s.row s.col*s.M s.row s.col=y at *
      generalize (s.M k s.col / s.M s.row s.col).natAbs=q at *
      generalize prX (dc (fun a=>s.M a s.col) k y) n=A at *
      generalize prX (fun a=>s.M a s.col) n=B at *
      refine Nat.pow_le_pow_left (Nat.mul_le_mul_left 2 ?_) _
      refine Nat.le_of_mul_le_mul_right (c:=wtN (s.M k s.col)) ?_ hw0
      have:e*(1+q)*A*wtN (s.M k s.col)=e*B*((1+q)*wtN y):=by
       rw [Nat.mul_assoc,u1]; ac_rfl
      rw [this]
      exact Nat.mul_le_mul_left _ d1
     ·obtain ⟨d1,d3⟩:=rX (x:=s.M k s.col) hpos S
      have g1:ngN (s.M k s.col)=1:=by unfold ngN;rw [if_pos S]
      have g2:ngN (s.M k s.col - s.M k s.col / s.M s.row s.col*s.M s.row s.col)=0:=by unfold ngN;rw [if_neg S]
      rw [g1,g2,Nat.add_zero] at u2
      generalize s.M k s.col - s.M k s.col / s.M s.row s.col*s.M s.row s.col=y at *
      generalize (s.M k s.col / s.M s.row s.col).natAbs=q at *
      generalize prX (dc (fun a=>s.M a s.col) k y) n=A at *
      generalize prX (fun a=>s.M a s.col) n=B at *
      refine pK u2.symm ?_
      refine Nat.le_of_mul_le_mul_right (c:=wtN (s.M k s.col)) ?_ hw0
      have e3:e*(1+q)*A*wtN (s.M k s.col)=e*B*((1+q)*wtN y):=by
       rw [Nat.mul_assoc,u1]; ac_rfl
      rw [e3]
      refine Nat.le_trans (Nat.mul_le_mul_left _ d1) ?_
      have e4:2*(e*B*(e*B))*wtN (s.M k s.col)=e*B*(2*(e*B)*wtN (s.M k s.col)):=by ac_rfl
      rw [e4]
      refine Nat.mul_le_mul_left _ (Nat.mul_le_mul_right _ (Nat.mul_le_mul_left 2 (Nat.le_trans hpe (Nat.le_mul_of_pos_right _ hP0))))
    ·rw [if_neg c3]; exact ⟨e,nxt (s.row+1)⟩
end Tor
end
section
set_option maxRecDepth 100000
namespace Tor
open Go Go.Proofs
instance:LayOf Tryz.prog 2 (.one):=⟨by kernel_rfl,by kernel_rfl⟩
instance:LayOf Tryz.prog 3 (.one):=⟨by kernel_rfl,by kernel_rfl⟩
instance:LayOf Tryz.prog 4 (.one):=⟨by kernel_rfl,by kernel_rfl⟩
instance:LayOf Tryz.prog 5 (.one):=⟨by kernel_rfl,by kernel_rfl⟩
instance:LayOf Tryz.prog 22 (.one):=⟨by kernel_rfl,by kernel_rfl⟩
instance:LayOf Tryz.prog 24 (.agg 3):=⟨by kernel_rfl,by kernel_rfl⟩
instance:LayOf Tryz.prog 25 (.one):=⟨by kernel_rfl,by kernel_rfl⟩
instance:LayOf Tryz.prog 27 (.one):=⟨by kernel_rfl,by kernel_rfl⟩
instance:LayOf Tryz.prog 29 (.agg 3):=⟨by kernel_rfl,by kernel_rfl⟩
instance:LayOf Tryz.prog 32 (.agg 15):=⟨by kernel_rfl,by kernel_rfl⟩
instance:LayOf Tryz.prog 43 (.agg 9):=⟨by kernel_rfl,by kernel_rfl⟩
instance:LayOf Tryz.prog 53 (.one):=⟨by kernel_rfl,by kernel_rfl⟩
instance:LayOf Tryz.prog 55 (.agg 2):=⟨by kernel_rfl,by kernel_rfl⟩
instance:LayOf Tryz.prog 57 (.one):=⟨by kernel_rfl,by kernel_rfl⟩
instance:LayOf Tryz.prog 90 (.one):=⟨by kernel_rfl,by kernel_rfl⟩
instance:LayOf Tryz.prog 94 (.one):=⟨by kernel_rfl,by kernel_rfl⟩
instance:LayOf Tryz.prog 95 (.agg 5):=⟨by kernel_rfl,by kernel_rfl⟩
instance:LayOf Tryz.prog 104 (.agg 2):=⟨by kernel_rfl,by kernel_rfl⟩
instance:IntOf Tryz.prog 2 .i64:=⟨by kernel_rfl⟩
instance:IntOf Tryz.prog 3 .i64:=⟨by kernel_rfl⟩
instance:BoolOf Tryz.prog 4:=⟨by kernel_rfl⟩
instance:IntOf Tryz.prog 5 .u8:=⟨by kernel_rfl⟩
instance:SliceOf Tryz.prog 22 25:=⟨by kernel_rfl⟩
instance:FieldOf Tryz.prog 24 0 0 (.one):=FieldOf.by_info (ft:=5) inferInstance X Y
instance:FieldOf Tryz.prog 24 1 1 (.one):=FieldOf.by_info (ft:=5) inferInstance X Y
instance:FieldOf Tryz.prog 24 2 2 (.one):=FieldOf.by_info (ft:=22) inferInstance X Y
instance:IntOf Tryz.prog 25 .i8:=⟨by kernel_rfl⟩
instance:SliceOf Tryz.prog 27 57:=⟨by kernel_rfl⟩
instance:FieldOf Tryz.prog 29 0 0 (.one):=FieldOf.by_info (ft:=3) inferInstance X Y
instance:FieldOf Tryz.prog 29 1 1 (.one):=FieldOf.by_info (ft:=3) inferInstance X Y
instance:FieldOf Tryz.prog 29 2 2 (.one):=FieldOf.by_info (ft:=27) inferInstance X Y
instance:FieldOf Tryz.prog 32 0 0 (.agg 3):=FieldOf.by_info (ft:=29) inferInstance X Y
instance:FieldOf Tryz.prog 32 1 3 (.agg 3):=FieldOf.by_info (ft:=29) inferInstance X Y
instance:FieldOf Tryz.prog 32 2 6 (.agg 3):=FieldOf.by_info (ft:=29) inferInstance X Y
instance:FieldOf Tryz.prog 32 3 9 (.agg 3):=FieldOf.by_info (ft:=29) inferInstance X Y
instance:FieldOf Tryz.prog 32 4 12 (.one):=FieldOf.by_info (ft:=3) inferInstance X Y
instance:FieldOf Tryz.prog 32 5 13 (.one):=FieldOf.by_info (ft:=3) inferInstance X Y
instance:FieldOf Tryz.prog 32 6 14 (.one):=FieldOf.by_info (ft:=4) inferInstance X Y
instance:FieldOf Tryz.prog 43 0 0 (.agg 3):=FieldOf.by_info (ft:=29) inferInstance X Y
instance:FieldOf Tryz.prog 43 1 3 (.agg 3):=FieldOf.by_info (ft:=29) inferInstance X Y
instance:FieldOf Tryz.prog 43 2 6 (.agg 3):=FieldOf.by_info (ft:=29) inferInstance X Y
instance:SliceOf Tryz.prog 52 29:=⟨by kernel_rfl⟩
instance:SliceOf Tryz.prog 53 90:=⟨by kernel_rfl⟩
instance:FieldOf Tryz.prog 55 0 0 (.one):=FieldOf.by_info (ft:=4) inferInstance X Y
instance:FieldOf Tryz.prog 55 1 1 (.one):=FieldOf.by_info (ft:=53) inferInstance X Y
instance:SliceOf Tryz.prog 57 55:=⟨by kernel_rfl⟩
instance:SliceOf Tryz.prog 61 2:=⟨by kernel_rfl⟩
instance:FieldOf Tryz.prog 79 0 0 (.agg 3):=FieldOf.by_info (ft:=29) inferInstance X Y
instance:FieldOf Tryz.prog 79 1 3 (.agg 3):=FieldOf.by_info (ft:=29) inferInstance X Y
instance:FieldOf Tryz.prog 79 2 6 (.agg 3):=FieldOf.by_info (ft:=29) inferInstance X Y
instance:IntOf Tryz.prog 89 .u64:=⟨by kernel_rfl⟩
instance:IntOf Tryz.prog 90 .u32:=⟨by kernel_rfl⟩
instance:ArrayOf Tryz.prog 95 5 94:=⟨by kernel_rfl⟩
instance:SliceOf Tryz.prog 103 104:=⟨by kernel_rfl⟩
instance:ArrayOf Tryz.prog 104 2 3:=⟨by kernel_rfl⟩
instance:SliceOf Tryz.prog 108 4:=⟨by kernel_rfl⟩
instance:SliceOf Tryz.prog 110 55:=⟨by kernel_rfl⟩
instance:ZeroOf Tryz.prog 2 (.int .i64 0) 8:=⟨by kernel_rfl⟩
instance:ZeroOf Tryz.prog 3 (.int .i64 0) 8:=⟨by kernel_rfl⟩
instance:ZeroOf Tryz.prog 4 (.bool false) 1:=⟨by kernel_rfl⟩
instance zf28:Flat (one (.agg #[.int .i64 0, .int .i64 0, .slice none 0 0])) (.agg 3):=jP Y X
instance:ZeroOf Tryz.prog 29 (.agg #[.int .i64 0, .int .i64 0, .slice none 0 0]) 40:=⟨by kernel_rfl⟩
instance zf31:Flat (one (.agg #[.int .i64 0, .int .i64 0, .slice none 0 0, .int .i64 0, .int .i64 0, .slice none 0 0, .int .i64 0, .int .i64 0, .slice none 0 0, .int .i64 0, .int .i64 0, .slice none 0 0, .int .i64 0, .int .i64 0, .bool false])) (.agg 15):=jP Y X
instance:ZeroOf Tryz.prog 32 (.agg #[.int .i64 0, .int .i64 0, .slice none 0 0, .int .i64 0, .int .i64 0, .slice none 0 0, .int .i64 0, .int .i64 0, .slice none 0 0, .int .i64 0, .int .i64 0, .slice none 0 0, .int .i64 0, .int .i64 0, .bool false]) 184:=⟨by kernel_rfl⟩
instance:ZeroOf Tryz.prog 43 (.agg #[.int .i64 0, .int .i64 0, .slice none 0 0, .int .i64 0, .int .i64 0, .slice none 0 0, .int .i64 0, .int .i64 0, .slice none 0 0]) 120:=⟨by kernel_rfl⟩
instance zf54:Flat (one (.agg #[.bool false, .slice none 0 0])) (.agg 2):=jP Y X
instance:ZeroOf Tryz.prog 55 (.agg #[.bool false, .slice none 0 0]) 32:=⟨by kernel_rfl⟩
instance:ZeroOf Tryz.prog 57 (.slice none 0 0) 24:=⟨by kernel_rfl⟩
instance:ZeroOf Tryz.prog 79 (.agg #[.int .i64 0, .int .i64 0, .slice none 0 0, .int .i64 0, .int .i64 0, .slice none 0 0, .int .i64 0, .int .i64 0, .slice none 0 0]) 120:=⟨by kernel_rfl⟩
instance:ZeroOf Tryz.prog 90 (.int .u32 0) 4:=⟨by kernel_rfl⟩
instance:ZeroOf Tryz.prog 95 (.agg #[.nilFunc, .nilFunc, .nilFunc, .nilFunc, .nilFunc]) 40:=⟨by kernel_rfl⟩
instance zf104:Flat (one (.agg #[.int .i64 0, .int .i64 0])) (.agg 2):=jP Y X
instance:ZeroOf Tryz.prog 104 (.agg #[.int .i64 0, .int .i64 0]) 16:=⟨by kernel_rfl⟩
instance:BuildOf Tryz.prog 29 3 #[.int .i64 0, .int .i64 0, .slice none 0 0] [(0, .one),(1, .one),(2, .one)]:=BuildOf.by_struct (by':=40) inferInstance Z X X
instance:BuildOf Tryz.prog 32 15 #[.int .i64 0, .int .i64 0, .slice none 0 0, .int .i64 0, .int .i64 0, .slice none 0 0, .int .i64 0, .int .i64 0, .slice none 0 0, .int .i64 0, .int .i64 0, .slice none 0 0, .int .i64 0, .int .i64 0, .bool false] [(0, .agg 3),(3, .agg 3),(6, .agg 3),(9, .agg 3),(12, .one),(13, .one),(14, .one)]:=BuildOf.by_struct (by':=184) inferInstance Z X X
instance:BuildOf Tryz.prog 43 9 #[.int .i64 0, .int .i64 0, .slice none 0 0, .int .i64 0, .int .i64 0, .slice none 0 0, .int .i64 0, .int .i64 0, .slice none 0 0] [(0, .agg 3),(3, .agg 3),(6, .agg 3)]:=BuildOf.by_struct (by':=120) inferInstance Z X X
instance:BuildOf Tryz.prog 55 2 #[.bool false, .slice none 0 0] [(0, .one),(1, .one)]:=BuildOf.by_struct (by':=32) inferInstance Z X X
instance:BuildOf Tryz.prog 79 9 #[.int .i64 0, .int .i64 0, .slice none 0 0, .int .i64 0, .int .i64 0, .slice none 0 0, .int .i64 0, .int .i64 0, .slice none 0 0] [(0, .agg 3),(3, .agg 3),(6, .agg 3)]:=BuildOf.by_struct (by':=120) inferInstance Z X X
instance:BuildOf Tryz.prog 95 5 #[.nilFunc, .nilFunc, .nilFunc, .nilFunc, .nilFunc] [(0, .one),(1, .one),(2, .one),(3, .one),(4, .one)]:=BuildOf.by_array (by':=40) (n:=5) (e:=94) (L := .one) inferInstance inferInstance inferInstance Z X Z Y
instance:BuildOf Tryz.prog 104 2 #[.int .i64 0, .int .i64 0] [(0, .one),(1, .one)]:=BuildOf.by_array (by':=16) (n:=2) (e:=3) (L := .one) inferInstance inferInstance inferInstance Z X Z Y
instance:Fn Tryz.prog 8:=Fn.of Tryz.func8 H Z
instance:Fn Tryz.prog 9:=Fn.of Tryz.func9 H Z
instance:Fn Tryz.prog 10:=Fn.of Tryz.func10 H Z
instance:Fn Tryz.prog 11:=Fn.of Tryz.func11 H Z
instance:Fn Tryz.prog 12:=Fn.of Tryz.func12 H Z
instance:Fn Tryz.prog 13:=Fn.of Tryz.func13 H Z
instance:Fn Tryz.prog 15:=Fn.of Tryz.func15 H Z
instance:Fn Tryz.prog 19:=Fn.of Tryz.func19 H Z
instance:Fn Tryz.prog 20:=Fn.of Tryz.func20 H Z
instance:Fn Tryz.prog 21:=Fn.of Tryz.func21 H Z
instance:Fn Tryz.prog 22:=Fn.of Tryz.func22 H Z
instance:Fn Tryz.prog 23:=Fn.of Tryz.func23 H Z
instance:Fn Tryz.prog 24:=Fn.of Tryz.func24 H Z
instance:Fn Tryz.prog 25:=Fn.of Tryz.func25 H Z
instance:Fn Tryz.prog 26:=Fn.of Tryz.func26 H Z
instance:Fn Tryz.prog 27:=Fn.of Tryz.func27 H Z
instance:Fn Tryz.prog 28:=Fn.of Tryz.func28 H Z
instance:Fn Tryz.prog 29:=Fn.of Tryz.func29 H Z
instance:Fn Tryz.prog 30:=Fn.of Tryz.func30 H Z
instance:Fn Tryz.prog 31:=Fn.of Tryz.func31 H Z
instance:Fn Tryz.prog 32:=Fn.of Tryz.func32 H Z
instance:Fn Tryz.prog 33:=Fn.of Tryz.func33 H Z
instance:Fn Tryz.prog 34:=Fn.of Tryz.func34 H Z
instance:Fn Tryz.prog 35:=Fn.of Tryz.func35 H Z
instance:Fn Tryz.prog 37:=Fn.of Tryz.func37 H Z
instance:Fn Tryz.prog 38:=Fn.of Tryz.func38 H Z
instance:Fn Tryz.prog 39:=Fn.of Tryz.func39 H Z
instance:Fn Tryz.prog 41:=Fn.of Tryz.func41 H Z
instance:Fn Tryz.prog 43:=Fn.of Tryz.func43 H Z
instance:Fn Tryz.prog 44:=Fn.of Tryz.func44 H Z
instance:Fn Tryz.prog 45:=Fn.of Tryz.func45 H Z
instance:Fn Tryz.prog 46:=Fn.of Tryz.func46 H Z
instance:Fn Tryz.prog 47:=Fn.of Tryz.func47 H Z
instance:Fn Tryz.prog 48:=Fn.of Tryz.func48 H Z
instance:Fn Tryz.prog 49:=Fn.of Tryz.func49 H Z
instance:Fn Tryz.prog 50:=Fn.of Tryz.func50 H Z
instance:Fn Tryz.prog 51:=Fn.of Tryz.func51 H Z
instance:Fn Tryz.prog 52:=Fn.of Tryz.func52 H Z
instance:Fn Tryz.prog 53:=Fn.of Tryz.func53 H Z
instance:Fn Tryz.prog 54:=Fn.of Tryz.func54 H Z
instance:Fn Tryz.prog 55:=Fn.of Tryz.func55 H Z
instance:Fn Tryz.prog 56:=Fn.of Tryz.func56 H Z
instance:Fn Tryz.prog 57:=Fn.of Tryz.func57 H Z
instance:Fn Tryz.prog 58:=Fn.of Tryz.func58 H Z
instance:Fn Tryz.prog 59:=Fn.of Tryz.func59 H Z
instance:Fn Tryz.prog 60:=Fn.of Tryz.func60 H Z
instance:Fn Tryz.prog 61:=Fn.of Tryz.func61 H Z
instance:Fn Tryz.prog 62:=Fn.of Tryz.func62 H Z
instance:Fn Tryz.prog 63:=Fn.of Tryz.func63 H Z
instance:Fn Tryz.prog 64:=Fn.of Tryz.func64 H Z
instance:Fn Tryz.prog 65:=Fn.of Tryz.func65 H Z
instance:Fn Tryz.prog 66:=Fn.of Tryz.func66 H Z
instance:Fn Tryz.prog 67:=Fn.of Tryz.func67 H Z
instance:Fn Tryz.prog 68:=Fn.of Tryz.func68 H Z
instance:Fn Tryz.prog 69:=Fn.of Tryz.func69 H Z
instance:Fn Tryz.prog 70:=Fn.of Tryz.func70 H Z
instance:Fn Tryz.prog 73:=Fn.of Tryz.func73 H Z
instance:Fn Tryz.prog 74:=Fn.of Tryz.func74 H Z
instance:Fn Tryz.prog 75:=Fn.of Tryz.func75 H Z
instance:Fn Tryz.prog 76:=Fn.of Tryz.func76 H Z
instance:Fn Tryz.prog 77:=Fn.of Tryz.func77 H Z
instance:Fn Tryz.prog 78:=Fn.of Tryz.func78 H Z
instance:Fn Tryz.prog 79:=Fn.of Tryz.func79 H Z
instance:Fn Tryz.prog 80:=Fn.of Tryz.func80 H Z
instance:Fn Tryz.prog 81:=Fn.of Tryz.func81 H Z
instance:Fn Tryz.prog 82:=Fn.of Tryz.func82 H Z
instance:Fn Tryz.prog 83:=Fn.of Tryz.func83 H Z
instance:Fn Tryz.prog 84:=Fn.of Tryz.func84 H Z
instance:Fn Tryz.prog 85:=Fn.of Tryz.func85 H Z
instance:Fn Tryz.prog 86:=Fn.of Tryz.func86 H Z
instance:Fn Tryz.prog 87:=Fn.of Tryz.func87 H Z
instance:Fn Tryz.prog 88:=Fn.of Tryz.func88 H Z
instance:Fn Tryz.prog 89:=Fn.of Tryz.func89 H Z
instance:Fn Tryz.prog 90:=Fn.of Tryz.func90 H Z
instance:Fn Tryz.prog 91:=Fn.of Tryz.func91 H Z
instance:Fn Tryz.prog 92:=Fn.of Tryz.func92 H Z
instance:Fn Tryz.prog 93:=Fn.of Tryz.func93 H Z
instance:Fn Tryz.prog 94:=Fn.of Tryz.func94 H Z
instance:Fn Tryz.prog 95:=Fn.of Tryz.func95 H Z
instance:Fn Tryz.prog 96:=Fn.of Tryz.func96 H Z
instance:Fn Tryz.prog 97:=Fn.of Tryz.func97 H Z
instance:Fn Tryz.prog 98:=Fn.of Tryz.func98 H Z
instance:Fn Tryz.prog 99:=Fn.of Tryz.func99 H Z
instance:Fn Tryz.prog 100:=Fn.of Tryz.func100 H Z
instance:Fn Tryz.prog 101:=Fn.of Tryz.func101 H Z
instance:Fn Tryz.prog 102:=Fn.of Tryz.func102 H Z
instance:Fn Tryz.prog 103:=Fn.of Tryz.func103 H Z
instance:Fn Tryz.prog 105:=Fn.of Tryz.func105 H Z
instance:Fn Tryz.prog 106:=Fn.of Tryz.func106 H Z
instance:Fn Tryz.prog 107:=Fn.of Tryz.func107 H Z
instance:Fn Tryz.prog 108:=Fn.of Tryz.func108 H Z
instance:Fn Tryz.prog 109:=Fn.of Tryz.func109 H Z
instance:Fn Tryz.prog 110:=Fn.of Tryz.func110 H Z
instance:Fn Tryz.prog 111:=Fn.of Tryz.func111 H Z
instance:Fn Tryz.prog 112:=Fn.of Tryz.func112 H Z
instance:Fn Tryz.prog 113:=Fn.of Tryz.func113 H Z
instance:Fn Tryz.prog 114:=Fn.of Tryz.func114 H Z
instance:Fn Tryz.prog 115:=Fn.of Tryz.func115 H Z
instance:Fn Tryz.prog 116:=Fn.of Tryz.func116 H Z
instance:Fn Tryz.prog 117:=Fn.of Tryz.func117 H Z
instance:Fn Tryz.prog 118:=Fn.of Tryz.func118 H Z
instance:Fn Tryz.prog 119:=Fn.of Tryz.func119 H Z
instance:Fn Tryz.prog 120:=Fn.of Tryz.func120 H Z
instance:Fn Tryz.prog 121:=Fn.of Tryz.func121 H Z
instance:Fn Tryz.prog 122:=Fn.of Tryz.func122 H Z
instance:Fn Tryz.prog 123:=Fn.of Tryz.func123 H Z
instance:Fn Tryz.prog 124:=Fn.of Tryz.func124 H Z
instance:Fn Tryz.prog 125:=Fn.of Tryz.func125 H Z
instance:Fn Tryz.prog 126:=Fn.of Tryz.func126 H Z
instance:Fn Tryz.prog 127:=Fn.of Tryz.func127 H Z
theorem aV:Tryz.prog.follows .mixedOrders=true:=by kernel_rfl
end Tor
end
section
namespace Tor
def lv:List Nat→Nat
 | [] => 0
 | d :: l => d + 4294967296 * lv l
def bB (l:List Nat):Prop := ∀ d∈l,d<4294967296
def fS:List Nat→Prop
 | [] => True
 | [d] => d ≠ 0
 | _ :: d :: l => fS (d :: l)
def ln:Nat→Nat→List Nat
 | 0, _ => []
 | f + 1, n => if n = 0 then [] else n % 4294967296 :: ln f (n / 4294967296)
def aK (n:Nat):List Nat:=ln n n
theorem pL : ∀ (f n:Nat),n≤f → ∀ g,n≤g→ln f n=ln g n
 | 0, n, h, g, hg => by
  have:n=0:=by omega
  subst this;cases g <;> simp [ln]
 | f + 1, n, h, 0, hg => by
  have:n=0:=by omega
  subst this;simp [ln]
 | f + 1, n, h, g + 1, hg => by
  simp only [ln]
  split
  ·rfl
  ·rw [pL f (n / 4294967296) S g S]
theorem gR:aK 0 = []:=rfl
theorem gc {n:Nat} (h:n≠0):aK n=n % 4294967296 :: aK (n / 4294967296):=by
 unfold aK
 obtain ⟨m,rfl⟩ : ∃ m,n=m+1:=⟨n - 1,by omega⟩
 rw [ln,if_neg h,pL m _ S ((m+1) / 4294967296) (Nat.le_refl _)]
theorem bU (n:Nat):lv (aK n)=n:=by
 induction n using Nat.strongRecOn with
 | _ n ih =>
  by_cases h:n=0
  ·subst h;rfl
  ·rw [gc h,lv,ih _ S]; omega
theorem bh (n:Nat):bB (aK n):=by
 induction n using Nat.strongRecOn with
 | _ n ih =>
  by_cases h:n=0
  ·subst h;intro d hd;cases hd
  ·rw [gc h]; intro d hd
   rcases List.mem_cons.1 hd with rfl | hd
   ·omega
   ·exact ih _ S d hd
theorem bB.tail {d:Nat} {l:List Nat} (h:bB (d :: l)):bB l:=fun x hx=>h x (List.mem_cons_of_mem _ hx)
theorem bB.head {d:Nat} {l:List Nat} (h:bB (d :: l)):d<4294967296:=h d List.mem_cons_self
theorem uo : ∀ {l:List Nat},l ≠ []→fS l→0<lv l
 | [], h, _ => absurd Z h
 | [d], _, h => by have h : d ≠ 0 := h; simp only [lv]; omega
 | d :: e :: l, _, h => by have := uo (l := e :: l) (by simp) h; simp only [lv] at *; omega
theorem fS.tail {d:Nat} : ∀ {l:List Nat},fS (d :: l)→fS l
 | [], _ => trivial
 | _ :: _, h => h
theorem rZ : ∀ {l:List Nat},bB l→fS l→aK (lv l)=l
 | [], _, _ => rfl
 | d :: l, hl, ht => by
  have h0:lv (d :: l)≠0:=by have:=uo (l:=d :: l) (by simp) ht;omega
  have hd:=hl.head
  rw [gc h0]
  simp only [lv]
  rw [show (d+4294967296*lv l) % 4294967296=d by omega,show (d+4294967296*lv l) / 4294967296=lv l by omega,rZ hl.tail ht.tail]
theorem j8 (n:Nat):fS (aK n):=by
 induction n using Nat.strongRecOn with
 | _ n ih =>
  by_cases h:n=0
  ·subst h;trivial
  ·rw [gc h]
   have:=ih (n / 4294967296) S
   by_cases h2:n / 4294967296=0
   ·rw [h2,gR]; show n % 4294967296≠0;omega
   ·rw [gc h2] at this ⊢; exact this
theorem fk (l m:List Nat):lv (l ++ m)=lv l+4294967296^l.length*lv m:=by
 induction l with
 | nil => simp [lv]
 | cons d l ih =>
  simp only [List.cons_append,lv,ih,List.length_cons,Nat.pow_succ,Nat.mul_add]
  have:4294967296*(4294967296^l.length*lv m)=4294967296^l.length*4294967296*lv m:=by
   rw [← Nat.mul_assoc,Nat.mul_comm 4294967296]
  omega
theorem gf : ∀ {l:List Nat},bB l→lv l<4294967296^l.length
 | [], _ => by simp [lv]
 | d :: l, h => by
  have:=gf h.tail
  have hd:=h.head
  simp only [lv,List.length_cons,Nat.pow_succ]
  have h2:lv l+1≤4294967296^l.length:=this
  have:=Nat.mul_le_mul_right 4294967296 h2
  omega
theorem mh {l:List Nat} {k:Nat} (h:k<l.length):l.take (k+1)=l.take k ++ [l.getD k 0]:=by
 rw [List.take_add_one]; simp [List.getD,h]
theorem bI {l:List Nat} {k:Nat} (h:k<l.length):lv (l.take (k+1))=lv (l.take k)+4294967296^k*l.getD k 0:=by
 rw [mh h,fk,List.length_take_of_le S]; simp [lv]
theorem bk {l:List Nat} (h:bB l) (k:Nat):l.getD k 0<4294967296:=by
 by_cases hk:k<l.length
 ·have:l.getD k 0=l[k]:=by simp [List.getD,hk]
  rw [this]; exact h _ (List.getElem_mem hk)
 ·have:l.getD k 0=0:=by simp [List.getD,List.getElem?_eq_none (Nat.le_of_not_lt hk)]
  omega
theorem jc (l:List Nat) (x q:Nat):(l ++ [x]).getD q 0=if q=l.length then x else l.getD q 0:=by
 simp only [List.getD,List.getElem?_append]
 by_cases h:q<l.length
 ·rw [if_pos h,if_neg S]
 ·rw [if_neg h]
  by_cases h2:q=l.length
  ·subst h2;simp
  ·rw [if_neg h2,List.getElem?_eq_none (by simp;omega),List.getElem?_eq_none S]
theorem bB.take {l:List Nat} (h:bB l) (k:Nat):bB (l.take k):=fun d hd=>h d (List.mem_of_mem_take hd)
def gg (l:List Nat):Nat→Nat
 | 0 => 0
 | n + 1 => if l.getD n 0 = 0 then gg l n else n + 1
theorem ot {l:List Nat} : ∀ {n:Nat},n<l.length→l.getD n 0≠0→fS (l.take (n+1)):=by
  induction l with
  | nil => intro n h; simp at h
  | cons d l ih =>
    intro n h h0
    cases n with
    | zero => simp at h0 ⊢; exact h0
    | succ n =>
      have:=ih (n:=n) (by simpa using h) (by simpa using h0)
      rw [List.take_succ_cons]
      cases hl:l.take (n+1) with
      | nil => rw [List.take_eq_nil_iff] at hl; rcases hl with hl | hl
               · omega
               · subst hl;simp at h
      | cons e r => rw [hl] at this; exact this
theorem nu {l:List Nat} (hl:bB l) : ∀ {n:Nat},n≤l.length→lv l=lv (l.take n)→l.take (gg l n)=aK (lv l)
 | 0, _, h => by rw [gg, h]; simp [lv, gR]
 | n + 1, hn, h => by
  rw [gg]
  split
  ·rename_i h0
   refine nu hl S ?_
   rw [h,bI S,h0]; simp
  ·rename_i h0
   rw [h]
   exact (rZ (hl.take _) (ot S h0)).symm
theorem mi {l:List Nat} (hl:bB l):l.take (gg l l.length)=aK (lv l):=nu hl (Nat.le_refl _) (by rw [List.take_length])
theorem di : ∀ {k n:Nat},n<4294967296^k→(aK n).length≤k
  | 0, n, h => by have : n = 0 := by simpa using h
                  subst this;simp [gR]
  | k + 1, n, h => by
    by_cases h0:n=0
    · subst h0;simp [gR]
    · rw [gc h0,List.length_cons]
      have:n / 4294967296<4294967296^k:=by
        rw [Nat.pow_succ] at h
        exact Nat.div_lt_of_lt_mul (by rw [Nat.mul_comm]; exact h)
      have:=di this
      omega
theorem dC (n:Nat):n<4294967296^(aK n).length:=by
 have:=gf (bh n);rwa [bU] at this
theorem pM {a b:Nat} (h:aK a=aK b):a=b:=by rw [← bU a, ← bU b,h]
theorem fE (l:List Nat) (k:Nat) (hk:k≤l.length):lv l=lv (l.take k)+4294967296^k*lv (l.drop k):=by
 have h:=fk (l.take k) (l.drop k)
 rwa [List.take_append_drop,List.length_take_of_le hk] at h
theorem fl {l:List Nat} {k:Nat} (h:k<l.length):l.drop k=l.getD k 0 :: l.drop (k+1):=by
 rw [List.drop_eq_getElem_cons h]; simp [List.getD,h]
theorem ou {l m:List Nat} (hl:bB l) (hm:bB m) (hn:l.length=m.length) {i:Nat} (hi:i<l.length) (hd:l.drop (i+1)=m.drop (i+1)) (hlt:l.getD i 0<m.getD i 0):lv l<lv m:=by
 have e1:=fl hi
 have e2:=fl (hn▸hi:i<m.length)
 rw [fE l i S,fE m i S,e1,e2,hd]
 simp only [lv]
 have h1:=gf (hl.take i)
 rw [List.length_take_of_le S] at h1
 generalize 4294967296^i=B at *
 generalize lv (m.drop (i+1))=t
 have h2:B*(l.getD i 0+4294967296*t)+B≤B*(m.getD i 0+4294967296*t):=by
  rw [← Nat.mul_succ]; exact Nat.mul_le_mul_left B S
 omega
theorem gH {a b:Nat} (h:(aK a).length<(aK b).length):a<b:=by
 rcases Nat.lt_or_ge a b with h' | h'
 ·exact h'
 ·have h1:b<4294967296^(aK a).length:=Nat.lt_of_le_of_lt h' (dC a)
  have:=di h1;omega
theorem co {a b:Nat} (h:a≤b):(aK a).length≤(aK b).length:=di (Nat.lt_of_le_of_lt h (dC b))
def ev (a b:Int):Int:=if a<b then -1 else if b<a then 1 else 0
def kP (a b:Nat):Int:=if a<b then -1 else if b<a then 1 else 0
theorem dA {l:List Nat} {k v q:Nat} (h:k<l.length):(l.set k v).getD q 0=if q=k then v else l.getD q 0:=by
 simp only [List.getD,List.getElem?_set]
 by_cases e:k=q
 ·subst e;simp [h]
 ·rw [if_neg e,if_neg (fun h=>e h.symm)]
theorem fJ {l:List Nat} : ∀ {k v:Nat},k<l.length→lv (l.set k v)+4294967296^k*l.getD k 0=lv l+4294967296^k*v:=by
 induction l with
 | nil => intro k v h; simp at h
 | cons d l ih =>
  intro k v h
  cases k with
  | zero => simp [lv]; omega
  | succ k =>
   have:=ih (k:=k) (v:=v) (by simpa using h)
   simp only [List.set_cons_succ,lv,List.getD_cons_succ,Nat.pow_succ]
   have e1:4294967296^k*4294967296*l.getD k 0=4294967296*(4294967296^k*l.getD k 0):=by rw [Nat.mul_comm (4294967296^k),Nat.mul_assoc]
   have e2:4294967296^k*4294967296*v=4294967296*(4294967296^k*v):=by rw [Nat.mul_comm (4294967296^k),Nat.mul_assoc]
   rw [e1,e2]; omega
theorem bB.set {l:List Nat} (h:bB l) {k v:Nat} (hv:v<4294967296):bB (l.set k v):=fun d hd=>by
 rcases List.mem_or_eq_of_mem_set hd with h' | h'
 ·exact h d h'
 ·omega
theorem lI {a b c d:Nat} (ha:a<4294967296) (hb:b<4294967296) (hc:c<4294967296) (hd:d<4294967296):d+(a*b+c)<18446744073709551616∧a*b<18446744073709551616∧a*b+c<18446744073709551616:=by
 have:a*b≤4294967295*4294967295:=Nat.mul_le_mul S S
 omega
end Tor
end
section
namespace Tor
open Go Go.RowKit Go.Proofs
abbrev cg (l:List Nat):VT:=slT .one l.length (fun i=>one (.int .u32 (l.getD i 0)))
def kQ (v:Nat):VT:=exT fun l:List Nat=>cE (bB l∧lv l=v) (cg l)
def m0 (v:Nat):VT:=exT fun l:List Nat=>cE (bB l∧lv l=v∧l.length≤4398046511104) (cg l)
def bm (x:Int):VT:=bG 2 [(0, .one,one (.bool (decide (x<0)))),(1, .one,cg (aK x.natAbs))]
instance {x:Int} : Flat (bm x) (.agg 2):=by unfold bm;infer_instance
theorem gy {l:List Nat} {v:Nat} (h:bB l) (hv:lv l=v) (hl:l.length≤4398046511104):VT.le (cg l) (m0 v):=l7 l (jT ⟨h,hv,hl⟩ W)
theorem fA {l:List Nat} {v:Nat} (h:bB l) (hv:lv l=v):VT.le (cg l) (kQ v):=l7 l (jT ⟨h,hv⟩ W)
theorem cU (n:Nat):VT.le (cg (aK n)) (kQ n):=fA (bh n) (bU n)
theorem j9 {l l':List Nat} (h:l=l'):VT.le (cg l) (cg l'):=h▸VT.le_refl _
theorem vP {neg:Bool} {v:Nat} (h:v≠0):VT.le (bG 2 [(0, .one,one (.bool neg)),(1, .one,cg (aK v))]) (bm (if neg then -(v:Int) else v)):=by
 refine ej (fun q hq => ?_)
 simp only [List.mem_cons,List.not_mem_nil,or_false] at hq
 rcases hq with rfl | rfl
 ·have e:decide ((if neg then -(v:Int) else v)<0)=neg:=by cases neg <;> simp <;> omega
  exact ⟨_,List.mem_cons_self,jt (by rw [e])⟩
 ·refine ⟨_,List.mem_cons_of_mem _ List.mem_cons_self,j9 ?_⟩
  cases neg <;> simp
theorem nv:VT.le (bG 2 [(0, .one,one (.bool false)),(1, .one,one (.slice none 0 0))]) (bm 0):=by
 refine ej (fun q hq => ?_)
 simp only [List.mem_cons,List.not_mem_nil,or_false] at hq
 rcases hq with rfl | rfl
 ·exact ⟨_,List.mem_cons_self,jt (by simp)⟩
 ·exact ⟨_,List.mem_cons_of_mem _ List.mem_cons_self,gu⟩
theorem bY {x y:Int} (h:x=y):VT.le (bm x) (bm y):=h▸VT.le_refl _
attribute [local irreducible] J PJ aQ one slT cA bG bZ exT cE eP aX a8 slV VT.le Ret bS
theorem dE (v:Nat):Ok Tryz.prog 108 [kQ v] (cg (aK v)):=by
 refine Ok.enter Tryz.func108 Z Tryz.ntmps108 Z (fun w O => ?_)
 refine w5 (t:=0) Z (fun l=>t3 (t:=0) Z (fun ⟨hL,hv⟩=>gC (t:=0) Z (fun _ _=>et) (fun hb => ?_)))
 subst hv
 refine ah (aj (An Z (Ap (aa (rF (ah (aj (Am Z (Al (be Z) ?_)))))))))
 refine An Z (Ap (aa (ah (rE (aa (ah (ar ?_)))))))
 refine cO (σ:=Nat) (fun n => [(0,cg l),(3,one (.int .i64 n))]) (fun _ => []) (fun n=>n≤l.length∧gg l n=gg l l.length) (fun n=>n) l.length ⟨Nat.le_refl _,rfl⟩ Ai (SubM.refl _) (fun n ⟨hn,ht⟩ => ?_)
 have hd:=mi hL
 refine ah (ah (aj (Am Z (Al (dS Z Z) (Ap (aa ?_))))))
 refine a5 Z (fun hc => ?_) (fun hc => ?_) <;> simp at hc
 ·obtain ⟨n,rfl⟩ : ∃ m,n=m+1:=⟨n - 1,by omega⟩
  refine au (aa (ar (ah (aj (Am Z (Am Z ?_))))))
  (refine Al (ey Z Z (aR ?_ ?_)) ?_;omega;omega)
  (refine Al (ed Z Z ?_ ?_) ?_;omega;omega)
  refine Al (aH Z) (Ap (aa (ar (ah (aj (Al (cj Z Z) (An Z (Ap (aa ?_)))))))))
  refine a5 Z (fun hc => ?_) (fun hc => ?_) <;> simp at hc
  ·refine aj (Am Z ?_)
   (refine Al (ey Z Z (aR ?_ ?_)) ?_;omega;omega)
   refine An Z (Ap (aD (aD ?_)))
   have h0:l.getD n 0=0:=by simpa using hc
   refine bM n ⟨by omega,by rw [← ht,gg,if_pos h0]⟩ S Ai (SubM.refl _)
  ·refine aU (dg Z (dg Z (av (aC (aa (ah (aj (Am Z (Am Z ?_)))))))))
   refine Am Z ?_
   (refine Al (fx Z Z Z Z (fun _=>rfl) ?_ ?_ ?_ ?_) ?_;omega;omega;omega;omega)
   refine An Z (Ap (aa (aG (jM ?_))))
   have h0 : ¬ l.getD n 0=0:=by simpa using hc
   rw [← ht,gg,if_neg h0] at hd
   refine aP Tryz.results108 (.tmp Z (VT.le_trans (cL ?_ ?_) (j9 hd)))
   ·simp;omega
   ·intro i hi;simp at hi ⊢; rw [List.getElem?_take_of_lt S]
 ·subst hc
  refine aU (av (av (aC (aa (ah (aj (Am Z (Am Z (Am Z ?_)))))))))
  (refine Al (fx Z Z Z Z (fun _=>rfl) ?_ ?_ ?_ ?_) ?_;omega;omega;omega;omega)
  refine An Z (Ap (aa (aG (jM ?_))))
  rw [← ht,gg] at hd
  refine aP Tryz.results108 (.tmp Z (VT.le_trans (cL ?_ ?_) (j9 hd)))
  ·simp
  ·intro i hi;simp at hi
end Tor
end
