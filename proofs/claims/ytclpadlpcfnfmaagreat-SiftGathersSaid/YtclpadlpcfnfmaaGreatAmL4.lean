import Derived.Test.YtclpadlpcfnfmaaGreatAmL3
import Derived.Tactics
import Derived.LoopN
section
/- Guards; regions in the text's order. -/
namespace Go.AM
open Go.RowKit (Below)
set_option linter.unusedSectionVars false
variable [Lay]
section
variable {P : Program} {B : Bd} {ok0 : Nat → Nat → Prop} {w0 w w' : World} {g g' : G} {σ σ1 τ : St} {a : Act} {o : Oper} {E : Env} {ops : Array Oper} {R : Type}
def GTo (E:Env) (ops:Array Oper) (o:Oper) (σ σ':St):Prop:=
 match o.guard with
 | none=>GQ E σ o σ'
 | some (j,want)=>match cB ops j with
  | none=>σ' = σ.BO o.dst .none
  | some s=>match σ.t s with
   | .none=>σ' = σ.BO o.dst .none
   | .dat .bool b _=>if b=want then GQ E σ o σ' else σ' = σ.BO o.dst .none
   | _=>False
theorem vO {s:Nat} {x:AV} (h:σ.t s=x):σ.BO (some s) x = σ:=by
 have:EK σ.t s x = σ.t:=by
  funext i
  rw [AK]
  by_cases hi:i=s
  ·subst hi;rw [if_pos rfl,h]
  ·rw [if_neg hi]
 unfold St.BO
 dsimp only
 rw [this]
theorem fZ {k:St→Option R} {r:R} (h:evG E ops o σ k=some r):∃ σ',GTo E ops o σ σ'∧k σ'=some r:=by
 unfold evG at h
 unfold GTo
 split at h
 ·rename_i hg;rw [hg];exact Rk h
 ·rename_i j want hg
  rw [hg]
  dsimp only
  split at h
  ·rename_i hs;rw [hs];exact ⟨_,rfl,h⟩
  ·rename_i s hs
   rw [hs]
   dsimp only
   split at h
   ·rename_i hv;rw [hv];exact ⟨_,rfl,h⟩
   ·rename_i b gs hv
    rw [hv]
    dsimp only
    cases b <;> cases want <;> dsimp only [cond_true,cond_false] at h <;> rw [vO hv] at h
    ·exact Rk h
    ·exact ⟨_,rfl,h⟩
    ·exact ⟨_,rfl,h⟩
    ·exact Rk h
   ·cases h
def Xe (E:Env) (ops:Array Oper):List Oper→St→St→Prop
 | [],σ,τ=>τ = σ
 | o :: r,σ,τ=>∃ σ1,GTo E ops o σ σ1∧Xe E ops r σ1 τ
theorem Xf:∀ {l:List Oper} {σ:St} {k:St→Option R} {r:R},Wq E ops l σ k=some r→∃ τ,Xe E ops l σ τ∧k τ = some r
 | [],σ,_,_,h=>⟨σ,rfl,h⟩
 | o :: l,σ,k,r,h=>by
  obtain ⟨σ1,h1,h2⟩:=fZ (k:=fun σ'=>Wq E ops l σ' k) h
  obtain ⟨τ,h3,h4⟩:=Xf h2
  exact ⟨τ,⟨σ1,h1,h3⟩,h4⟩
theorem ga (tmps:Array Value) {j s:Nat} (h:cB ops j=some s):yielded ops tmps j=(match tmps.getD s undef with | .bool b=>some b | _=>none):=by
 unfold yielded
 have h':(ops[j]?).bind (fun (o:Oper)=>o.dst)=some s:=h
 rw [h',Option.bind_some,Array.getD_eq_getD_getElem?]
 cases tmps[s]? with
 | none=>rfl
 | some v=>cases v <;> rfl
theorem gb (tmps:Array Value) {j:Nat} (h:cB ops j=none):yielded ops tmps j=none:=by
 unfold yielded
 have h':(ops[j]?).bind (fun (o:Oper)=>o.dst)=none:=h
 rw [h']
 rfl
theorem GTo.cases (hI:Inv B ok0 w0 g σ a w) {σ':St} (h:GTo E ops o σ σ'):
  (Region.wanted o (yielded ops a.tmps)=true∧GQ E σ o σ')∨(Region.wanted o (yielded ops a.tmps)=false∧σ' = σ.BO o.dst .none):=by
 unfold GTo at h
 unfold Region.wanted
 split at h
 ·rename_i hg;rw [hg];exact .inl ⟨rfl,h⟩
 ·rename_i j want hg
  rw [hg]
  dsimp only
  split at h
  ·rename_i hs
   rw [gb _ hs]
   exact .inr ⟨rfl,h⟩
  ·rename_i s hs
   rw [ga _ hs]
   have hr:=hI.slots s
   split at h
   ·rename_i hv
    rw [hv] at hr
    rw [show a.tmps.getD s undef=undef from hr]
    exact .inr ⟨rfl,h⟩
   ·rename_i b gs hv
    rw [hv] at hr
    rw [of_bool hr]
    dsimp only
    split at h
    ·rename_i he;subst he;exact .inl ⟨by simp,h⟩
    ·rename_i he;exact .inr ⟨by simpa using he,h⟩
   ·exact h.elim
theorem GTo.wp (hE:EnvOk P E) (hC:Em P E) (hI:Inv B ok0 w0 g σ a w) (hd:∀ d,o.dst=some d→d<a.tmps.size) {σ':St} (h:GTo E ops o σ σ') {next:Act→World→Prop} {Q:Exit→Act→World→Prop}
  (hn:∀ g' a' w',Inv B ok0 w0 g' σ' a' w'→a'.tmps.size=a.tmps.size→next a' w'):
  if Region.wanted o (yielded ops a.tmps) then o.wp P a w next Q∨(o.asks P a w∧LetsOut Q) else next (a.put o.dst undef) w:=by
 rcases h.cases hI with ⟨hw,h⟩ | ⟨hw,h⟩
 ·rw [hw,if_pos rfl]
  exact .inl (Zb8 hE hC hI hd h hn)
 ·rw [hw]
  simp only [Bool.false_eq_true,if_false]
  subst h
  exact hn g _ _ (hI.put (av:= .none) rfl hd) (Iu _ _ _)
theorem Xe.wp (hE:EnvOk P E) (hC:Em P E) {Q:Exit→Act→World→Prop}:∀ {l:List Oper} {σ:St} {g:G} {a:Act} {w:World},Inv B ok0 w0 g σ a w→(∀ o∈l,∀ d,o.dst=some d→d<a.tmps.size)→
  Xe E ops l σ τ→(∀ g' a' w',Inv B ok0 w0 g' τ a' w'→a'.tmps.size=a.tmps.size→Q .normal a' w')→wpList P ops Q l a w
 | [],σ,g,a,w,hI,_,h,hq=>by cases h;exact hq g a w hI rfl
 | o :: l,σ,g,a,w,hI,hd,⟨σ1,h1,h2⟩,hq=>by
  unfold wpList
  exact h1.wp hE hC hI (hd o (List.mem_cons_self ..)) fun g' a' w' hI' hs=>
   Xe.wp hE hC hI' (fun o' ho' d hd'=>by rw [hs];exact hd o' (List.mem_cons_of_mem _ ho') d hd') h2 fun g2 a2 w2 hI2 hs2=>hq g2 a2 w2 hI2 (hs2.trans hs)
def Xg (n:Nat) (ops:Array Oper):Bool:=ops.toList.all fun o=>match o.dst with | some d=>decide (d<n) | none=>true
def EA (n:Nat):Code→Bool
 | .region _ ops _=>Xg n ops
 | .seq x y=>EA n x && EA n y
 | .cond _ x y=>EA n x && EA n y
 | .block _ c=>EA n c
 | .loop c=>EA n c
 | _=>true
theorem Xh {n:Nat} (h:Xg n ops=true):∀ o∈ops.toList,∀ d,o.dst=some d→d<n:=by
 intro o ho d hd
 have:=List.all_eq_true.1 h o ho
 rw [hd] at this
 exact of_decide_eq_true this
theorem vP (hE:EnvOk P E) (hC:Em P E) {Q:Exit→Act→World→Prop} (hI:Inv B ok0 w0 g σ a w) {id:Nat} (hn:Xg a.tmps.size ops=true) {k:St→Option R} {r:R} (h:Wq E ops ops.toList σ k=some r)
  (hq:∀ τ,k τ = some r→∀ g' a' w',Inv B ok0 w0 g' τ a' w'→a'.tmps.size=a.tmps.size→Q .normal a' w'):(Code.region id ops false).wp P Q a w:=by
 obtain ⟨τ,h1,h2⟩:=Xf h
 exact wp_region_list (h1.wp hE hC hI (Xh hn) (hq τ h2))
end
end Go.AM
end

section
/- Code: what the evaluator answers, the machine does. -/
namespace Go.AM
open Go.RowKit (Below)
set_option linter.unusedSectionVars false
variable [Lay]
section
variable {P : Program} {B : Bd} {ok0 : Nat → Nat → Prop} {w0 : World} {E : Env} {R : Type} {n : Nat}
def Ex.out:Ex→Exit
 | .normal=> .normal
 | .exit id=> .exit id
 | .ret=> .ret
def KOk (B:Bd) (ok0:Nat→Nat→Prop) (w0:World) (n:Nat) (k:K R) (r:R) (Q:Exit→Act→World→Prop):Prop:=
 ∀ e σ,k e σ = some r→∀ g a w,Inv B ok0 w0 g σ a w→a.tmps.size=n→Q e.out a w
def Zeh (P:Program) (B:Bd) (ok0:Nat→Nat→Prop) (w0:World) (R:Type) (n:Nat) (dr:Array Oper→St→(St→Option R)→Option R):Prop:=
 ∀ ops σ k r id Q g a w,Xg n ops=true→dr ops σ k=some r→Inv B ok0 w0 g σ a w→a.tmps.size=n→
  (∀ τ,k τ = some r→∀ g' a' w',Inv B ok0 w0 g' τ a' w'→a'.tmps.size=n→Q .normal a' w')→(Code.region id ops true).wp P Q a w
def Job.code:Job→Code
 | .loop c=>c
 | .tail c=>c
def JWp (P:Program) (m:Nat) (Q:Exit→Act→World→Prop) (a:Act) (w:World):Job→Prop
 | .loop c=>Code.rounds P c Q m a w
 | .tail c=>c.wp P Q a w
def Zsv (P:Program) (B:Bd) (ok0:Nat→Nat→Prop) (w0:World) (R:Type) (n m:Nat) (jb:Job→Nat→St→K R→Option R):Prop:=
 ∀ j b σ k r Q g a w,EA n j.code=true→jb j b σ k=some r→KOk B ok0 w0 n k r Q→Inv B ok0 w0 g σ a w→a.tmps.size=n→JWp P m Q a w j
theorem fY (hE:EnvOk P E) (hC:Em P E) {m:Nat} {jb:Job→Nat→St→K R→Option R} (hj:Zsv P B ok0 w0 R n m jb)
  {dr:Array Oper→St→(St→Option R)→Option R} (hdr:Zeh P B ok0 w0 R n dr):∀ (c:Code) (b:Nat) (σ:St) (k:K R) (r:R) (Q:Exit→Act→World→Prop) (g:G) (a:Act) (w:World),
  EA n c=true→evC E jb dr c b σ k=some r→KOk B ok0 w0 n k r Q→Inv B ok0 w0 g σ a w→a.tmps.size=n→c.wp P Q a w:=by
 intro c
 induction c with
 | skip=>intro b σ k r Q g a w _ h hk hI hs;exact wp_skip (hk .normal σ h g a w hI hs)
 | region id ops d=>
  intro b σ k r Q g a w hn h hk hI hs
  cases d with
  | false=>exact vP hE hC hI (by rw [hs];exact hn) h fun τ hτ g' a' w' hI' hs'=>hk .normal τ hτ g' a' w' hI' (hs'.trans hs)
  | true=>exact hdr ops σ _ r id Q g a w hn h hI hs fun τ hτ g' a' w' hI' hs'=>hk .normal τ hτ g' a' w' hI' hs'
 | seq x y ihx ihy=>
  intro b σ k r Q g a w hn h hk hI hs
  have hnx:EA n x=true:=by have:=hn;simp only [EA,Bool.and_eq_true] at this;exact this.1
  have hny:EA n y=true:=by have:=hn;simp only [EA,Bool.and_eq_true] at this;exact this.2
  refine wp_seq (ihx b σ _ r _ g a w hnx h ?_ hI hs)
  intro e σ' he g' a' w' hI' hs'
  cases e with
  | normal=>
   dsimp only [Zzd] at he
   split at he
   ·rename_i kp hkp
    obtain ⟨g2,hI2⟩:=hI'.norm kp
    exact hj (.tail y) b _ k r Q g2 a' w' hny he hk hI2 hs'
   ·exact ihy b σ' k r Q g' a' w' hny he hk hI' hs'
  | exit id=>exact hk (.exit id) σ' he g' a' w' hI' hs'
  | ret=>exact hk .ret σ' he g' a' w' hI' hs'
 | cond c x y ihx ihy=>
  intro b σ k r Q g a w hn h hk hI hs
  have hnx:EA n x=true:=by have:=hn;simp only [EA,Bool.and_eq_true] at this;exact this.1
  have hny:EA n y=true:=by have:=hn;simp only [EA,Bool.and_eq_true] at this;exact this.2
  unfold evC at h
  split at h
  ·rename_i t gs hc
   refine wp_cond (SW hI hc) ?_
   cases t with
   | true=>exact ihx b σ k r Q g a w hnx h hk hI hs
   | false=>exact ihy b σ k r Q g a w hny h hk hI hs
  ·cases h
 | block id c ih=>
  intro b σ k r Q g a w hn h hk hI hs
  refine wp_block (ih id σ _ r _ g a w hn h ?_ hI hs)
  intro e σ' he g' a' w' hI' hs'
  cases e with
  | normal=>exact hk .normal σ' he g' a' w' hI' hs'
  | exit id'=>
   dsimp only [AH] at he
   show (if id'=id then Q .normal a' w' else Q (.exit id') a' w')
   split at he
   ·rename_i hid;rw [if_pos hid];exact hk .normal σ' he g' a' w' hI' hs'
   ·rename_i hid;rw [if_neg hid];exact hk (.exit id') σ' he g' a' w' hI' hs'
  | ret=>exact hk .ret σ' he g' a' w' hI' hs'
 | loop c _=>
  intro b σ k r Q g a w hn h hk hI hs
  obtain ⟨g2,hI2⟩:=hI.norm (E.loop b)
  exact wp_loop_rounds m (hj (.loop c) b _ k r Q g2 a w hn h hk hI2 hs)
 | exit id=>
  intro b σ k r Q g a w hn h hk hI hs
  unfold evC at h
  split at h
  ·rename_i kp hkp
   obtain ⟨g2,hI2⟩:=hI.norm kp
   exact wp_exit (hk (.exit id) _ h g2 a w hI2 hs)
  ·exact wp_exit (hk (.exit id) _ h g a w hI hs)
 | ret=>
  intro b σ k r Q g a w hn h hk hI hs
  obtain ⟨g2,hI2⟩:=hI.norm E.ret
  exact wp_ret (hk .ret _ h g2 a w hI2 hs)
 | _=>intro b σ k r Q g a w hn h;cases h
theorem vN (hE:EnvOk P E) (hC:Em P E) {dr:Array Oper→St→(St→Option R)→Option R} (hdr:Zeh P B ok0 w0 R n dr):∀ m,Zsv P B ok0 w0 R n m (evJ E dr m)
 | 0=>fun _ _ _ _ _ _ _ _ _ _ h=>by cases h
 | m+1=>by
  have ih:=vN hE hC hdr m
  intro j b σ k r Q g a w hn h hk hI hs
  cases j with
  | tail c=>exact fY hE hC ih hdr c b σ k r Q g a w hn h hk hI hs
  | loop c=>
   show c.wp P (Exit.then (Code.rounds P c Q m) Q) a w
   refine fY hE hC ih hdr c b σ _ r _ g a w hn h ?_ hI hs
   intro e σ' he g' a' w' hI' hs'
   cases e with
   | normal=>
    obtain ⟨g2,hI2⟩:=hI'.norm (E.loop b)
    exact ih (.loop c) b _ k r Q g2 a' w' hn he hk hI2 hs'
   | exit id=>exact hk (.exit id) σ' he g' a' w' hI' hs'
   | ret=>exact hk .ret σ' he g' a' w' hI' hs'
end
end Go.AM
end

section
/- Operations look at slots by their operands alone. -/
namespace Go.AM
open Go.RowKit (Below)
set_option linter.unusedSectionVars false
variable [Lay]
def St.onT (σ:St) (t:Nat→AV):St:={ σ with t:=t }
def FI (t:Nat→AV) (d:Option Nat) (a:AV):Nat→AV:=match d with | some d=>EK t d a | none=>t
def dv (σ:St) (d:Option Nat):AV:=match d with | some d=>σ.t d | none=> .undef
def Step.reT (t':Nat→AV) (d:Option Nat):Step→Step
 | .no=> .no
 | .go c σ=> .go c (σ.onT (FI t' d (dv σ d)))
 | .call α m f=> .call α m fun x=>(f x).onT (FI t' d (dv (f x) d))
section
variable {E : Env} {o : Oper} {σ : St} {t' : Nat → AV}
theorem Py {α:Type} (f:Nat→α) (k:Nat) (a:α):EK f k a k=a:=by rw [AK,if_pos rfl]
theorem Hm (ρ:St) (d:Option Nat) (a:AV):(ρ.onT t').BO d a=(ρ.BO d a).onT (FI t' d (dv (ρ.BO d a) d)):=by
 cases d with
 | none=>rfl
 | some d=>
  show St.mk (EK t' d a) _ _ _=St.mk (EK t' d (EK ρ.t d a d)) _ _ _
  rw [Py]
  rfl
theorem Jg (c:Bool) (ρ:St) (d:Option Nat) (a:AV):Step.go c ((ρ.onT t').BO d a)=(Step.go c (ρ.BO d a)).reT t' d:=by
 rw [Hm];rfl
theorem Dq {c:Bool} {s s':Step} {d:Option Nat} (h:s'=s.reT t' d):(bif c then Step.no else s')=(bif c then Step.no else s).reT t' d:=by
 cases c
 ·exact h
 ·rfl
theorem Jn (a:AV):put o (σ.onT t') a=(put o σ a).reT t' o.dst:=Jg _ _ _ _
theorem Zr0 (c:Bool) (a:AV):chk o c (σ.onT t') a=(chk o c σ a).reT t' o.dst:=Jg _ _ _ _
section
variable {t : Nat → AV} {c : Nat → Option Con} {v r : Nat → Nat}
theorem Jr (a:AV):put o ⟨t',c,v,r⟩ a=(put o ⟨t,c,v,r⟩ a).reT t' o.dst:=Jn (σ:=⟨t,c,v,r⟩) a
theorem Js (b:Bool) (a:AV):chk o b ⟨t',c,v,r⟩ a=(chk o b ⟨t,c,v,r⟩ a).reT t' o.dst:=Zr0 (σ:=⟨t,c,v,r⟩) b a
theorem EV (b:Bool) (d:Option Nat) (id:Nat) (k:Con) (a:AV):Step.go b ((St.Cn ⟨t',c,v,r⟩ id k).BO d a)=(Step.go b ((St.Cn ⟨t,c,v,r⟩ id k).BO d a)).reT t' d:=
 Jg (t':=t') b (St.Cn ⟨t,c,v,r⟩ id k) d a
theorem Fg (b:Bool) (d:Option Nat) (id:Nat) (k:Con) (a:AV):Step.go b ((St.BW ⟨t',c,v,r⟩ id k).BO d a)=(Step.go b ((St.BW ⟨t,c,v,r⟩ id k).BO d a)).reT t' d:=
 Jg (t':=t') b (St.BW ⟨t,c,v,r⟩ id k) d a
theorem Hr (b:Bool) (d:Option Nat) (id:Nat) (a:AV):Step.go b ((St.Dw ⟨t',c,v,r⟩ id).BO d a)=(Step.go b ((St.Dw ⟨t,c,v,r⟩ id).BO d a)).reT t' d:=
 Jg (t':=t') b (St.Dw ⟨t,c,v,r⟩ id) d a
end
theorem Zbh (T:Nat) (a:AV):ML E T o (σ.onT t') a=(ML E T o σ a).reT t' o.dst:=by
 obtain ⟨t,c,v,r⟩:=σ
 show ML E T o ⟨t',c,v,r⟩ a=_
 unfold ML Lg Oi
 try dsimp only
 ((repeat' split) <;> first | rfl | exact Jr _ | exact Js _ _ | exact EV _ _ _ _ _ | exact Fg _ _ _ _ _ | exact Hr _ _ _ _ | exact Dq (EV _ _ _ _ _) | exact Dq (Fg _ _ _ _ _) | (simp_all;done))
theorem vG (T:Nat) (a x:AV):Nf E T o (σ.onT t') a x=(Nf E T o σ a x).reT t' o.dst:=by
 obtain ⟨t,c,v,r⟩:=σ
 show Nf E T o ⟨t',c,v,r⟩ a x=_
 unfold Nf
 try dsimp only
 ((repeat' split) <;> first | rfl | exact Jr _ | exact Js _ _ | exact EV _ _ _ _ _ | exact Fg _ _ _ _ _ | exact Hr _ _ _ _ | exact Dq (EV _ _ _ _ _) | exact Dq (Fg _ _ _ _ _) | (simp_all;done))
theorem cp (S f:Nat) (x:AV):Gp E S f o (σ.onT t') x=(Gp E S f o σ x).reT t' o.dst:=by
 obtain ⟨t,c,v,r⟩:=σ
 show Gp E S f o ⟨t',c,v,r⟩ x=_
 unfold Gp
 try dsimp only
 ((repeat' split) <;> first | rfl | exact Jr _ | exact Js _ _ | exact EV _ _ _ _ _ | exact Fg _ _ _ _ _ | exact Hr _ _ _ _ | exact Dq (EV _ _ _ _ _) | exact Dq (Fg _ _ _ _ _) | (simp_all;done))
theorem vH (S f:Nat) (x:AV):Nc E S f o (σ.onT t') x=(Nc E S f o σ x).reT t' o.dst:=by
 obtain ⟨t,c,v,r⟩:=σ
 show Nc E S f o ⟨t',c,v,r⟩ x=_
 unfold Nc
 try dsimp only
 ((repeat' split) <;> first | rfl | exact Jr _ | exact Js _ _ | exact EV _ _ _ _ _ | exact Fg _ _ _ _ _ | exact Hr _ _ _ _ | exact Dq (EV _ _ _ _ _) | exact Dq (Fg _ _ _ _ _) | (simp_all;done))
theorem ku (i:Nat) (x:AV):JD i o (σ.onT t') x=(JD i o σ x).reT t' o.dst:=by
 obtain ⟨t,c,v,r⟩:=σ
 show JD i o ⟨t',c,v,r⟩ x=_
 unfold JD
 try dsimp only
 ((repeat' split) <;> first | rfl | exact Jr _ | exact Js _ _ | exact EV _ _ _ _ _ | exact Fg _ _ _ _ _ | exact Hr _ _ _ _ | exact Dq (EV _ _ _ _ _) | exact Dq (Fg _ _ _ _ _) | (simp_all;done))
theorem cq (T:Nat) (x i:AV):Gq E T o (σ.onT t') x i=(Gq E T o σ x i).reT t' o.dst:=by
 obtain ⟨t,c,v,r⟩:=σ
 show Gq E T o ⟨t',c,v,r⟩ x i=_
 unfold Gq
 try dsimp only
 ((repeat' split) <;> first | rfl | exact Jr _ | exact Js _ _ | exact EV _ _ _ _ _ | exact Fg _ _ _ _ _ | exact Hr _ _ _ _ | exact Dq (EV _ _ _ _ _) | exact Dq (Fg _ _ _ _ _) | (simp_all;done))
theorem vI (T:Nat) (x i:AV):Nd E T o (σ.onT t') x i=(Nd E T o σ x i).reT t' o.dst:=by
 obtain ⟨t,c,v,r⟩:=σ
 show Nd E T o ⟨t',c,v,r⟩ x i=_
 unfold Nd
 try dsimp only
 ((repeat' split) <;> first | rfl | exact Jr _ | exact Js _ _ | exact EV _ _ _ _ _ | exact Fg _ _ _ _ _ | exact Hr _ _ _ _ | exact Dq (EV _ _ _ _ _) | exact Dq (Fg _ _ _ _ _) | (simp_all;done))
theorem vJ (T:Nat):Ng E T o (σ.onT t')=(Ng E T o σ).reT t' o.dst:=by
 obtain ⟨t,c,v,r⟩:=σ
 show Ng E T o ⟨t',c,v,r⟩=_
 unfold Ng
 try dsimp only
 ((repeat' split) <;> first | rfl | exact Jr _ | exact Js _ _ | exact EV _ _ _ _ _ | exact Fg _ _ _ _ _ | exact Hr _ _ _ _ | exact Dq (EV _ _ _ _ _) | exact Dq (Fg _ _ _ _ _) | (simp_all;done))
theorem Zs0 (T:Nat) (x:AV):Sc E T o (σ.onT t') x=(Sc E T o σ x).reT t' o.dst:=by
 obtain ⟨t,c,v,r⟩:=σ
 show Sc E T o ⟨t',c,v,r⟩ x=_
 unfold Sc cA
 try dsimp only
 ((repeat' split) <;> first | rfl | exact Jr _ | exact Js _ _ | exact EV _ _ _ _ _ | exact Fg _ _ _ _ _ | exact Hr _ _ _ _ | exact Dq (EV _ _ _ _ _) | exact Dq (Fg _ _ _ _ _) | (simp_all;done))
theorem Pz (t t':Nat→AV) (c:Nat→Option Con) (v r:Nat→Nat):content ⟨t',c,v,r⟩=content ⟨t,c,v,r⟩:=by
 funext e x;cases x <;> rfl
theorem fT (t t':Nat→AV) (c:Nat→Option Con) (v r:Nat→Nat) (d sz:Nat):∀ g:List Tag,HM ⟨t',c,v,r⟩ d sz g=HM ⟨t,c,v,r⟩ d sz g
 | []=>rfl
 | x :: g=>by unfold HM;rw [fT t t' c v r d sz g]
theorem rD (T U:Nat) (s x:AV):FY E T U o (σ.onT t') s x=(FY E T U o σ s x).reT t' o.dst:=by
 obtain ⟨t,c,v,r⟩:=σ
 show FY E T U o ⟨t',c,v,r⟩ s x=_
 unfold FY
 simp only [Pz t t' c v r,fT t t' c v r]
 ((repeat' split) <;> first | rfl | exact Jr _ | exact Js _ _ | exact EV _ _ _ _ _ | exact Fg _ _ _ _ _ | exact Hr _ _ _ _ | exact Dq (EV _ _ _ _ _) | exact Dq (Fg _ _ _ _ _) | (simp_all;done))
theorem kv (T U id ver:Nat) (x:AV):JV E T U o (σ.onT t') id ver x=(JV E T U o σ id ver x).reT t' o.dst:=by
 obtain ⟨t,c,v,r⟩:=σ
 show JV E T U o ⟨t',c,v,r⟩ id ver x=_
 unfold JV Oj
 simp only [Pz t t' c v r]
 ((repeat' split) <;> first | rfl | exact Jr _ | exact Js _ _ | exact EV _ _ _ _ _ | exact Fg _ _ _ _ _ | exact Hr _ _ _ _ | exact Dq (EV _ _ _ _ _) | exact Dq (Fg _ _ _ _ _) | (simp_all;done))
theorem fU (t t':Nat→AV) (c:Nat→Option Con) (v r:Nat→Nat):partOf ⟨t',c,v,r⟩=partOf ⟨t,c,v,r⟩:=by
 funext x;cases x <;> rfl
theorem vK (T:Nat) (s:AV):LL E T o (σ.onT t') s=(LL E T o σ s).reT t' o.dst:=by
 obtain ⟨t,c,v,r⟩:=σ
 show LL E T o ⟨t',c,v,r⟩ s=_
 unfold LL
 simp only [fU t t' c v r]
 ((repeat' split) <;> first | rfl | exact EV _ _ _ _ _ | (simp_all;done))
theorem Zch (T U:Nat) (s x:AV):NW E T U o (σ.onT t') s x=(NW E T U o σ s x).reT t' o.dst:=by
 obtain ⟨t,c,v,r⟩:=σ
 show NW E T U o ⟨t',c,v,r⟩ s x=_
 unfold NW Oj
 simp only [fU t t' c v r,Pz t t' c v r]
 ((repeat' split) <;> first | rfl | exact EV _ _ _ _ _ | (simp_all;done))
theorem fV {c:Bool} (x:AV):KR E o (σ.onT t') c x=(KR E o σ c x).reT t' o.dst:=by
 unfold KR
 split
 ·rename_i d hd
  cases E.bx d && c with
  | true=>
   dsimp only [cond]
   split
   ·exact Jg _ (σ.BW _ _) _ _
   ·rfl
  | false=>exact Jn _
 ·exact Jn _
theorem kx (src dst:Nat) (x:AV):Gh E src dst o (σ.onT t') x=(Gh E src dst o σ x).reT t' o.dst:=by
 obtain ⟨t,c,v,r⟩:=σ
 show Gh E src dst o ⟨t',c,v,r⟩ x=_
 unfold Gh
 simp only [Pz t t' c v r]
 ((repeat' split) <;> first | rfl | exact Jr _ | exact Js _ _ | exact EV _ _ _ _ _ | exact Fg _ _ _ _ _ | exact Hr _ _ _ _ | exact Dq (EV _ _ _ _ _) | exact Dq (Fg _ _ _ _ _) | (simp_all;done))
theorem rE (op:BinOp) (k j:IntKind) (a b:Int):Kp op o (σ.onT t') k j a b=(Kp op o σ k j a b).reT t' o.dst:=by
 obtain ⟨t,c,v,r⟩:=σ
 show Kp op o ⟨t',c,v,r⟩ k j a b=_
 unfold Kp
 ((repeat' split) <;> first | rfl | exact Jr _ | exact Js _ _ | exact EV _ _ _ _ _ | exact Fg _ _ _ _ _ | exact Hr _ _ _ _ | exact Dq (EV _ _ _ _ _) | exact Dq (Fg _ _ _ _ _) | (simp_all;done))
theorem rF (op:BinOp) (a b:ByteArray):Kq op o (σ.onT t') a b=(Kq op o σ a b).reT t' o.dst:=by
 obtain ⟨t,c,v,r⟩:=σ
 show Kq op o ⟨t',c,v,r⟩ a b=_
 unfold Kq
 ((repeat' split) <;> first | rfl | exact Jr _ | exact Js _ _ | exact EV _ _ _ _ _ | exact Fg _ _ _ _ _ | exact Hr _ _ _ _ | exact Dq (EV _ _ _ _ _) | exact Dq (Fg _ _ _ _ _) | (simp_all;done))
theorem vL (T:Nat) (op:BinOp) (x y:AV):LJ E T op o (σ.onT t') x y=(LJ E T op o σ x y).reT t' o.dst:=by
 unfold LJ
 split
 ·split
  ·exact rE _ _ _ _ _
  ·exact rF _ _ _
  ·split
   ·split
    ·split
     ·exact Jn _
     ·exact Jn _
     ·rfl
    ·rfl
   ·rfl
 ·rfl
theorem Zdh (op:UnOp) (x:AV):Ph op o (σ.onT t') x=(Ph op o σ x).reT t' o.dst:=by
 obtain ⟨t,c,v,r⟩:=σ
 show Ph op o ⟨t',c,v,r⟩ x=_
 unfold Ph
 ((repeat' split) <;> first | rfl | exact Jr _ | exact Js _ _ | exact EV _ _ _ _ _ | exact Fg _ _ _ _ _ | exact Hr _ _ _ _ | exact Dq (EV _ _ _ _ _) | exact Dq (Fg _ _ _ _ _) | (simp_all;done))
theorem Zt0 (T:Option Ty) (x:AV):Mr T o (σ.onT t') x=(Mr T o σ x).reT t' o.dst:=by
 obtain ⟨t,c,v,r⟩:=σ
 show Mr T o ⟨t',c,v,r⟩ x=_
 unfold Mr
 try dsimp only
 ((repeat' split) <;> first | rfl | exact Jr _ | exact Js _ _ | exact EV _ _ _ _ _ | exact Fg _ _ _ _ _ | exact Hr _ _ _ _ | exact Dq (EV _ _ _ _ _) | exact Dq (Fg _ _ _ _ _) | (simp_all;done))
theorem Xd (f:Int→Int→Int) (xs:List AV):IC f o (σ.onT t') xs=(IC f o σ xs).reT t' o.dst:=by
 unfold IC
 split
 ·split
  ·exact Jn _
  ·rfl
 ·rfl
theorem lF {x:Option Operand} (d:Int) (h:∀ y,x=some y→opd (σ.onT t') y=opd σ y):bnd (σ.onT t') d x=bnd σ d x:=by
 cases x with
 | none=>rfl
 | some y=>unfold bnd;dsimp only;rw [h y rfl]
theorem vM (T:Nat) (x:AV) (lo hi:Option Operand) (h1:∀ y,lo=some y→opd (σ.onT t') y=opd σ y) (h2:∀ y,hi=some y→opd (σ.onT t') y=opd σ y):
  LK E T o (σ.onT t') x lo hi=(LK E T o σ x lo hi).reT t' o.dst:=by
 unfold LK
 simp only [lF _ h1,lF _ h2]
 obtain ⟨t,c,v,r⟩:=σ
 simp only [show St.onT ⟨t,c,v,r⟩ t'=⟨t',c,v,r⟩ from rfl]
 ((repeat' split) <;> first | rfl | exact Jr _ | exact Js _ _ | exact EV _ _ _ _ _ | exact Fg _ _ _ _ _ | exact Hr _ _ _ _ | exact Dq (EV _ _ _ _ _) | exact Dq (Fg _ _ _ _ _) | (simp_all;done))
theorem aV (T:Nat):∀ (ps:List (Nat×Operand)) (t:Ty) (z:t.D) (g:List Tag),(∀ p∈ps,opd (σ.onT t') p.2=opd σ p.2)→HH E T (σ.onT t') t ps z g=HH E T σ t ps z g
 | [],t,z,g,_=>rfl
 | (f,x) :: ps,t,z,g,h=>by
  have ih:=fun z g=>aV T ps t z g fun p hp=>h p (List.mem_cons_of_mem _ hp)
  unfold HH
  rw [show opd (σ.onT t') x=opd σ x from h (f,x) (List.mem_cons_self ..)]
  simp only [ih]
theorem lG (e:Ty):∀ (ps:List (Nat×Operand)) (i:Nat),(∀ p∈ps,opd (σ.onT t') p.2=opd σ p.2)→OC (σ.onT t') e i ps=OC σ e i ps
 | [],_,_=>rfl
 | (j,x) :: ps,i,h=>by
  unfold OC
  rw [show opd (σ.onT t') x=opd σ x from h (j,x) (List.mem_cons_self ..),lG e ps (i+1) fun p hp=>h p (List.mem_cons_of_mem _ hp)]
theorem Za (T n:Nat) (ps:Array (Nat×Operand)) (h:∀ p∈ps.toList,opd (σ.onT t') p.2=opd σ p.2):GX E T n ps o (σ.onT t')=(GX E T n ps o σ).reT t' o.dst:=by
 unfold GX
 split
 ·rename_i d e _ _
  rw [lG _ _ _ h]
  split
  ·split
   ·cases E.lit d with
    | true=>exact Jg _ _ _ _
    | false=>exact Jg _ (σ.Dw _) _ _
   ·rfl
  ·rfl
 ·rfl
theorem ct (T:Nat) (x y:Operand) (hx:opd (σ.onT t') x=opd σ x) (hy:opd (σ.onT t') y=opd σ y):IN E T o (σ.onT t') x y=(IN E T o σ x y).reT t' o.dst:=by
 unfold IN
 rw [hx,hy]
 split
 ·rename_i d e k n g1 j m g2 hd hT hn hm
  split
  ·exact Jg _ (σ.BW _ _) _ _
  ·split
   ·cases E.bx d with
    | true=>exact Jg _ (σ.BW _ _) _ _
    | false=>exact Jg _ (σ.Dw _) _ _
   ·rfl
 ·rfl
theorem Zu0 (T:Nat) (m:Bool) (x:AV):LM E T m (σ.onT t') x=(LM E T m σ x).map fun p=>(p.1,p.2.onT t'):=by
 obtain ⟨t,c,v,r⟩:=σ
 show LM E T m ⟨t',c,v,r⟩ x=_
 cases m with
 | false=>
  unfold LM
  simp only [cond_false]
  try dsimp only
  (repeat' split) <;> first | rfl | (simp_all;done)
 | true=>
  unfold LM
  simp only [cond_true]
  try dsimp only
  (repeat' split) <;> first | rfl | (simp_all;done)
theorem Zef1 {T:Nat} {m:Bool} {x a:AV} {σ1:St} (h:LM E T m σ x=some (a,σ1)):σ1.t = σ.t:=by
 cases m with
 | false=>
  unfold LM at h
  simp only [cond_false] at h
  (repeat' split at h) <;> first | (cases h;rfl) | cases h
 | true=>
  unfold LM at h
  simp only [cond_true] at h
  (repeat' split at h) <;> first | (cases h;rfl) | cases h
theorem Fa {σ ρ:St} (h:σ.t = ρ.t) (x:Operand):opd σ x=opd ρ x:=by
 cases x <;> first | rfl | (unfold opd;rw [h])
 
theorem VN:∀ (ms:List Bool) (ps:List (Operand×Nat)) (σ:St),(∀ p∈ps,opd (σ.onT t') p.1=opd σ p.1)→Hp E ms ps (σ.onT t')=(Hp E ms ps σ).map fun p=>(p.1,p.2.onT t')
 | _,[],σ,_=>by unfold Hp;rfl
 | ms,(x,T) :: ps,σ,h=>by
  unfold Hp
  rw [show opd (σ.onT t') x=opd σ x from h (x,T) (List.mem_cons_self ..),Zu0]
  cases ha:LM E T (ms.headD false) σ (opd σ x) with
  | none=>rfl
  | some p=>
   obtain ⟨a,σ1⟩:=p
   simp only [Option.map_some]
   have ht:=Zef1 ha
   rw [VN ms.tail ps σ1 fun p hp=>by
    rw [show opd (σ1.onT t') p.1=opd (σ.onT t') p.1 from Fa (σ:=σ1.onT t') (ρ:=σ.onT t') rfl _,h p (List.mem_cons_of_mem _ hp)];exact (Fa ht _).symm]
   cases Hp E ms.tail ps σ1 with
   | none=>rfl
   | some q=>rfl
theorem Zv0 (x:AV):DN (σ.onT t') x=(DN σ x).map fun p=>(p.1,p.2.onT t'):=by
 obtain ⟨t,c,v,r⟩:=σ
 show DN ⟨t',c,v,r⟩ x=_
 unfold DN
 try dsimp only
 (repeat' split) <;> first | rfl | (simp_all;done)
theorem Zrv {x:AV} {a:Dat} {σ1:St} (h:DN σ x=some (a,σ1)):σ1.t = σ.t:=by
 unfold DN at h
 (repeat' split at h) <;> first | (cases h;rfl) | cases h
theorem fW:∀ (ps:List Operand) (σ:St),(∀ p∈ps,opd (σ.onT t') p=opd σ p)→KP ps (σ.onT t')=(KP ps σ).map fun p=>(p.1,p.2.onT t')
 | [],σ,_=>rfl
 | x :: ps,σ,h=>by
  unfold KP
  rw [show opd (σ.onT t') x=opd σ x from h x (List.mem_cons_self ..),Zv0]
  cases ha:DN σ (opd σ x) with
  | none=>rfl
  | some p=>
   obtain ⟨a,σ1⟩:=p
   simp only [Option.map_some]
   have ht:=Zrv ha
   rw [fW ps σ1 fun p hp=>by
    rw [show opd (σ1.onT t') p=opd (σ.onT t') p from Fa (σ:=σ1.onT t') (ρ:=σ.onT t') rfl _,h p (List.mem_cons_of_mem _ hp)];exact (Fa ht _).symm]
   cases KP ps σ1 with
   | none=>rfl
   | some q=>rfl
theorem aW:∀ (ps:List Operand),(∀ p∈ps,opd (σ.onT t') p=opd σ p)→NX (σ.onT t') ps=NX σ ps
 | [],_=>rfl
 | x :: ps,h=>by
  unfold NX
  rw [show opd (σ.onT t') x=opd σ x from h x (List.mem_cons_self ..),aW ps fun p hp=>h p (List.mem_cons_of_mem _ hp)]
  rfl
theorem fX:∀ (ps:List (Nat×Nat)),QN (σ.onT t') ps=QN σ ps
 | []=>rfl
 | (id,ver) :: ps=>by
  unfold QN
  rw [fX ps]
  rfl
theorem Ri:∀ (ids:List Nat),GD (σ.onT t') ids=GD σ ids
 | []=>rfl
 | id :: ids=>by
  unfold GD
  rw [Ri ids]
  rfl
theorem IU:∀ (ids:List Nat) (ds:List Con) (σ:St),EL ids ds (σ.onT t')=(EL ids ds σ).onT t'
 | [],_,_=>rfl
 | _ :: _,[],_=>rfl
 | id :: ids,d :: ds,σ=>IU ids ds (σ.Cn id d)
theorem SR:∀ (hs:List Nat) (σ:St),DQ hs (σ.onT t')=(DQ hs σ).onT t'
 | [],_=>rfl
 | h :: hs,σ=>SR hs (σ.Dw h)
theorem Rj:∀ (ms:List Bool) (xs:List Operand),(∀ x∈xs,opd (σ.onT t') x=opd σ x)→Ej (σ.onT t') ms xs=Ej σ ms xs
 | _,[],_=>by unfold Ej;rfl
 | ms,x :: xs,h=>by
  unfold Ej
  rw [h x (List.mem_cons_self ..),Rj ms.tail xs fun y hy=>h y (List.mem_cons_of_mem _ hy)]
end
end Go.AM
end

section
/- Operations look at slots by their operands alone: all of them. -/
namespace Go.AM
open Go.RowKit (Below)
set_option linter.unusedSectionVars false
variable [Lay]
section
variable {E : Env} {o : Oper} {σ : St} {t' : Nat → AV}
theorem OL (d:Nat):∀ (g:List Tag) (j:Nat) (σ:St),KW d g j (σ.onT t')=((KW d g j σ).1,(KW d g j σ).2.1,(KW d g j σ).2.2.onT t')
 | [],_,_=>rfl
 | x :: g,j,σ=>by
  unfold KW
  split
  ·simp only [OL d g j σ]
  ·have:=OL d g (j+1) (σ.Dw (rid d j))
   simp only [show (σ.onT t').Dw (rid d j)=(σ.Dw (rid d j)).onT t' from rfl,this]
   rfl
theorem fQ (d:Nat):∀ (ds:List Dat) (j:Nat) (σ:St),PO d ds j (σ.onT t')=((PO d ds j σ).1,(PO d ds j σ).2.1,(PO d ds j σ).2.2.onT t')
 | [],_,_=>rfl
 | x :: ds,j,σ=>by
  unfold PO
  simp only [OL d x.g j σ,fQ d ds _ (KW d x.g j σ).2.2]
theorem OM (d:Nat):∀ (ds:List Con) (j:Nat) (σ:St),Kh d ds j (σ.onT t')=((Kh d ds j σ).1,(Kh d ds j σ).2.1,(Kh d ds j σ).2.2.onT t')
 | [],_,_=>rfl
 | .var t x g :: ds,j,σ=>by
  unfold Kh
  simp only [OL d g j σ,OM d ds _ (KW d g j σ).2.2]
 | .arr e l f :: ds,j,σ=>by
  unfold Kh
  simp only [OM d ds j σ]
 | .val v :: ds,j,σ=>by
  unfold Kh
  simp only [OM d ds j σ]
theorem lD (ids:List Nat) (a:AV) (ios:List Con):imp o ids (σ.onT t') a ios=(imp o ids σ a ios).onT (FI t' o.dst (dv (imp o ids σ a ios) o.dst)):=by
 unfold imp
 cases hd:o.dst with
 | none=>exact IU _ _ _
 | some d=>
  dsimp only
  split
  ·simp only [OL,OM,IU]
   exact Hm _ _ _
  ·simp only [fQ,OM,IU]
   exact Hm _ _ _
  ·simp only [IU]
   exact Hm (ρ:=(EL ids (ios.map QO) σ).BW d _) _ _
  ·simp only [IU]
   split
   ·exact Hm _ _ _
   ·exact Hm _ _ _
  ·rw [IU];exact Hm _ _ _
theorem vE (T:Nat) (op:BinOp) (x:AV):NV E T op o (σ.onT t') x=(NV E T op o σ x).reT t' o.dst:=by
 unfold NV
 split
 ·split
  ·exact Jn _
  ·exact Jn _
  ·rfl
 ·rfl
theorem fR (b:Bool) (σ σ1:St):JF b (σ.onT t') (σ1.onT t')=(JF b σ σ1).onT t':=by cases b <;> rfl
theorem Zah {c:Call} (h:∀ x∈c.operands,opd (σ.onT t') x=opd σ x):KQ E c o (σ.onT t')=(KQ E c o σ).reT t' o.dst:=by
 have hargs:∀ x∈c.args.toList,opd (σ.onT t') x=opd σ x:=fun x hx=>h x (by unfold Call.operands;exact Array.mem_append.2 (.inr (Array.mem_toList_iff.1 hx)))
 have hmap:∀ xs:List Operand,(∀ x∈xs,opd (σ.onT t') x=opd σ x)→xs.map (opd (σ.onT t'))=xs.map (opd σ):=fun xs hx=>List.map_congr_left hx
 unfold KQ
 split
 ·rename_i b hb
  split
  ·rename_i x T ha hat
   rw [hargs x (by rw [ha];exact List.mem_cons_self ..)]
   exact Zt0 _ _
  ·rename_i s x T U ha hat
   rw [hargs x (by rw [ha];simp),hargs s (by rw [ha];simp)]
   split
   ·exact kv _ _ _ _ _
   ·exact rD _ _ _ _
  ·rename_i x T ha hat
   rw [hargs x (by rw [ha];exact List.mem_cons_self ..)]
   exact vK _ _
  ·rename_i s x T U ha hat
   rw [hargs x (by rw [ha];simp),hargs s (by rw [ha];simp)]
   exact Zch _ _ _ _
  ·rw [hmap _ hargs];exact Xd _ _
  ·rw [hmap _ hargs];exact Xd _ _
  ·rfl
 ·rename_i f hf
  rw [h f (by unfold Call.operands;rw [hf];exact Array.mem_append.2 (.inl (by simp)))]
  split
  ·rename_i fn ds hfn
   split
   ·rename_i s hs
    split
    ·rename_i hlen
     rw [VN _ _ _ fun p hp=>hargs p.1 (List.of_mem_zip hp).1]
     cases ha:Hp E (E.inpl fn) (c.args.toList.zip c.argTypes.toList) σ with
     | none=>rfl
     | some q=>
      obtain ⟨l,σ1⟩:=q
      simp only [Option.map_some]
      split
      ·rename_i r hr
       rw [Rj _ _ hargs,fR,Ri]
       cases GD (JF (E.lend fn) σ σ1) (Ej σ (E.inpl fn) c.args.toList) && (dis (EZ (DW l (Gz ds))) && (!E.lend fn || ((EZ (DW l (Gz ds))).isEmpty && !JE (DW l (Gz ds))))) with
       | false=>rfl
       | true=>
        dsimp only [cond]
        unfold Step.reT
        simp only [SR,lD]
      ·rfl
    ·rfl
   ·rfl
  ·rename_i fn ps hfn
   split
   ·rename_i s hs
    split
    ·rename_i hlen
     rw [VN _ _ _ fun p hp=>hargs p.1 (List.of_mem_zip hp).1,fX]
     cases ha:Hp E (E.inpl fn) (c.args.toList.zip c.argTypes.toList) σ with
     | none=>rfl
     | some q=>
      obtain ⟨l,σ1⟩:=q
      cases hcl:QN σ ps with
      | none=>rfl
      | some cs=>
       simp only [Option.map_some]
       split
       ·rename_i r hr
        rw [Rj _ _ hargs,fR,Ri]
        cases GD (JF (E.lend fn) σ σ1) (Ej σ (E.inpl fn) c.args.toList++ps.map (·.1)) && (dis (EZ (DW l cs)) && (!E.lend fn || ((EZ (DW l cs)).isEmpty && !JE (DW l cs)))) with
        | false=>rfl
        | true=>
         dsimp only [cond]
         unfold Step.reT
         simp only [SR,lD]
       ·rfl
    ·rfl
   ·rfl
  ·rfl
 ·rfl
theorem fS (h:∀ x∈o.op.operands,opd (σ.onT t') x=opd σ x):EM E (σ.onT t') o=(EM E σ o).reT t' o.dst:=by
 unfold EM
 cases ho:o.op <;> rw [ho] at h <;> (try dsimp only)
 case move x=>rw [h x (by simp [Op.operands])];exact fV _
 case assign x=>rw [h x (by simp [Op.operands])];exact fV _
 case alloc T=>exact vJ T
 case box T x=>rw [h x (by simp [Op.operands])];exact Zs0 T _
 case build T ps=>
  split
  ·split
   ·rw [aV T ps.toList _ _ _ fun p hp=>h p.2 (by simp only [Op.operands,List.mem_toArray,List.mem_map];exact ⟨p,hp,rfl⟩)]
    split
    ·exact Jn _
    ·rfl
   ·rfl
  ·rfl
 case buildSlice T n ps=>exact Za T n ps fun p hp=>h p.2 (by simp only [Op.operands,List.mem_toArray,List.mem_map];exact ⟨p,hp,rfl⟩)
 case load T x=>rw [h x (by simp [Op.operands])];exact Zbh T _
 case store T x y=>rw [h x (by simp [Op.operands]),h y (by simp [Op.operands])];exact vG T _ _
 case nilCheck x=>
  rw [h x (by simp [Op.operands])]
  obtain ⟨t,c,v,r⟩:=σ
  simp only [show St.onT ⟨t,c,v,r⟩ t'=⟨t',c,v,r⟩ from rfl]
  ((repeat' split) <;> first | rfl | exact Jr _ | exact Js _ _ | exact EV _ _ _ _ _ | exact Fg _ _ _ _ _ | exact Hr _ _ _ _ | (simp_all;done))
 case binOp op T x y U=>
  rw [h x (by simp [Op.operands]),h y (by simp [Op.operands])]
  cases Qb y with
  | true=>exact vE T op _
  | false=>exact vL T op _ _
 case unOp op T x=>rw [h x (by simp [Op.operands])];exact Zdh op _
 case convert s d x=>rw [h x (by simp [Op.operands])];exact kx s d _
 case makeFunc fn p q=>
  cases fn with
  | func f=>
   dsimp only
   split
   ·have hq:∀ x∈q.toList,opd (σ.onT t') x=opd σ x:=fun x hx=>h x (by simp only [Op.operands];exact Array.mem_append.2 (.inr (Array.mem_toList_iff.1 hx)))
    cases Hi E o.dst with
    | true=>
     dsimp only [cond]
     rw [aW q.toList hq]
     cases NX σ q.toList with
     | none=>rfl
     | some z=>exact Jn _
    | false=>
     dsimp only [cond]
     rw [fW q.toList σ hq]
     cases KP q.toList σ with
     | none=>rfl
     | some z=>exact Jg _ _ _ _
   ·rfl
  | _=>rfl
 case makeSlice T x y=>exact ct T x y (h x (by simp [Op.operands])) (h y (by simp [Op.operands]))
 case slice T x lo hi mx=>
  cases mx with
  | none=>
   dsimp only
   rw [h x (by simp [Op.operands])]
   exact vM T _ lo hi (fun y hy=>h y (by simp [Op.operands,hy])) (fun y hy=>h y (by simp [Op.operands,hy]))
  | some m=>rfl
 case fieldAddr S x f=>rw [h x (by simp [Op.operands])];exact cp S f _
 case field S x f=>rw [h x (by simp [Op.operands])];exact vH S f _
 case indexAddr T x i=>rw [h x (by simp [Op.operands]),h i (by simp [Op.operands])];exact cq T _ _
 case index T x i=>rw [h x (by simp [Op.operands]),h i (by simp [Op.operands])];exact vI T _ _
 case extract x i=>rw [h x (by simp [Op.operands])];exact ku i _
 case call c=>exact Zah h
 all_goals rfl
theorem Step.vF {s:Step} {σ':St} {d:Option Nat} (h:s.to σ'):(s.reT t' d).to (σ'.onT (FI t' d (dv σ' d))):=by
 cases s with
 | no=>exact h
 | go c σ1=>obtain ⟨rfl,rfl⟩:=h;exact ⟨rfl,rfl⟩
 | call α m f=>obtain ⟨x,hx,rfl⟩:=h;exact ⟨x,hx,rfl⟩
theorem lE {σ':St} (h:∀ x∈o.op.operands,opd (σ.onT t') x=opd σ x) (hg:GQ E σ o σ'):GQ E (σ.onT t') o (σ'.onT (FI t' o.dst (dv σ' o.dst))):=by
 unfold GQ at *
 split at hg
 ·rename_i c x y ho
  obtain ⟨t,gs,hc,rfl⟩:=hg
  rw [ho] at h
  refine ⟨t,gs,(h c (by simp [Op.operands])).trans hc,?_⟩
  rw [h x (by simp [Op.operands]),h y (by simp [Op.operands])]
  exact (Hm _ _ _).symm
 ·rename_i hno
  rw [fS h]
  exact Step.vF hg
theorem TY {ops:Array Oper} {σ':St} (h:∀ d∈o.looksAt ops,t' d = σ.t d) (hg:GTo E ops o σ σ'):GTo E ops o (σ.onT t') (σ'.onT (FI t' o.dst (dv σ' o.dst))):=by
 have hop:∀ x∈o.op.operands,opd (σ.onT t') x=opd σ x:=fun x hx=>by
  cases x with
  | tmp d=>exact h d (List.mem_append_left _ (List.mem_filterMap.2 ⟨.tmp d,by simpa using hx,rfl⟩))
  | _=>unfold opd;split <;> simp_all
 unfold GTo at *
 split at hg
 ·exact lE hop hg
 ·rename_i j want hgd
  split at hg
  ·rename_i hs
   subst hg
   exact (Hm _ _ _).symm
  ·rename_i s hs
   rw [show (σ.onT t').t s = σ.t s from h s (List.mem_append_right _ (by rw [hgd];have h':(ops[j]?).bind (fun (o:Oper)=>o.dst)=some s:=hs;simp only [h'];simp))]
   split at hg
   ·subst hg;exact (Hm _ _ _).symm
   ·split at hg
    ·rename_i he;subst he;rw [if_pos rfl];exact lE hop hg
    ·rename_i he;rw [if_neg he];subst hg;exact (Hm _ _ _).symm
   ·exact hg
end
end Go.AM
end
