import Derived.Test.YtclpadlpcfnfmaaGreatAmL3
import Derived.Tactics
import Derived.LoopN
section
/- Guards; regions in the text's order. -/
namespace Go.AM
open Go.RowKit (Below)
set_option linter.unusedSectionVars false
variable [Lay]
section
variable {P : Program} {B : Bd} {ok0 : Nat → Nat → Prop} {w0 w w' : World} {g g' : G} {σ σ1 τ : St} {a : Act} {o : Oper} {E : Env} {ops : Array Oper} {R : Type}
def Fg (E:Env) (ops:Array Oper) (o:Oper) (σ σ':St):Prop:=
 match o.guard with
 | none=>IJ E σ o σ'
 | some (j,want)=>match aN ops j with
  | none=>σ' = σ.BJ o.dst .none
  | some s=>match σ.t s with
   | .none=>σ' = σ.BJ o.dst .none
   | .dat .bool b _=>if b=want then IJ E σ o σ' else σ' = σ.BJ o.dst .none
   | _=>False
theorem Zqu {s:Nat} {x:AV} (h:σ.t s=x):σ.BJ (some s) x = σ:=by
 have:Ed σ.t s x = σ.t:=by
  funext i
  rw [BD]
  by_cases hi:i=s
  ·subst hi;rw [if_pos rfl,h]
  ·rw [if_neg hi]
 unfold St.BJ
 dsimp only
 rw [this]
theorem sC {k:St→Option R} {r:R} (h:cp E ops o σ k=some r):∃ σ',Fg E ops o σ σ'∧k σ'=some r:=by
 unfold cp at h
 unfold Fg
 split at h
 ·rename_i hg;rw [hg];exact eb h
 ·rename_i j want hg
  rw [hg]
  dsimp only
  split at h
  ·rename_i hs;rw [hs];exact ⟨_,rfl,h⟩
  ·rename_i s hs
   rw [hs]
   dsimp only
   split at h
   ·rename_i hv;rw [hv];exact ⟨_,rfl,h⟩
   ·rename_i b gs hv
    rw [hv]
    dsimp only
    cases b <;> cases want <;> dsimp only [cond_true,cond_false] at h <;> rw [Zqu hv] at h
    ·exact eb h
    ·exact ⟨_,rfl,h⟩
    ·exact ⟨_,rfl,h⟩
    ·exact eb h
   ·cases h
def WE (E:Env) (ops:Array Oper):List Oper→St→St→Prop
 | [],σ,τ=>τ = σ
 | o :: r,σ,τ=>∃ σ1,Fg E ops o σ σ1∧WE E ops r σ1 τ
theorem pP:∀ {l:List Oper} {σ:St} {k:St→Option R} {r:R},Wn E ops l σ k=some r→∃ τ,WE E ops l σ τ∧k τ = some r
 | [],σ,_,_,h=>⟨σ,rfl,h⟩
 | o :: l,σ,k,r,h=>by
  obtain ⟨σ1,h1,h2⟩:=sC (k:=fun σ'=>Wn E ops l σ' k) h
  obtain ⟨τ,h3,h4⟩:=pP h2
  exact ⟨τ,⟨σ1,h1,h3⟩,h4⟩
theorem Zgm (tmps:Array Value) {j s:Nat} (h:aN ops j=some s):yielded ops tmps j=(match tmps.getD s undef with | .bool b=>some b | _=>none):=by
 unfold yielded
 have h':(ops[j]?).bind (fun (o:Oper)=>o.dst)=some s:=h
 rw [h',Ad,Array.getD_eq_getD_getElem?]
 cases tmps[s]? with
 | none=>rfl
 | some v=>cases v <;> rfl
theorem Zhm (tmps:Array Value) {j:Nat} (h:aN ops j=none):yielded ops tmps j=none:=by
 unfold yielded
 have h':(ops[j]?).bind (fun (o:Oper)=>o.dst)=none:=h
 rw [h']
 rfl
theorem Fg.cases (hI:Inv B ok0 w0 g σ a w) {σ':St} (h:Fg E ops o σ σ'):
  (Region.wanted o (yielded ops a.tmps)=true∧IJ E σ o σ')∨(Region.wanted o (yielded ops a.tmps)=false∧σ' = σ.BJ o.dst .none):=by
 unfold Fg at h
 unfold Region.wanted
 split at h
 ·rename_i hg;rw [hg];exact .inl ⟨rfl,h⟩
 ·rename_i j want hg
  rw [hg]
  dsimp only
  split at h
  ·rename_i hs
   rw [Zhm _ hs]
   exact .inr ⟨rfl,h⟩
  ·rename_i s hs
   rw [Zgm _ hs]
   have hr:=hI.slots s
   split at h
   ·rename_i hv
    rw [hv] at hr
    rw [show a.tmps.getD s undef=undef from hr]
    exact .inr ⟨rfl,h⟩
   ·rename_i b gs hv
    rw [hv] at hr
    rw [of_bool hr]
    dsimp only
    split at h
    ·rename_i he;subst he;exact .inl ⟨by simp,h⟩
    ·rename_i he;exact .inr ⟨by simpa using he,h⟩
   ·exact h.elim
theorem Fg.wp (hE:EnvOk P E) (hC:GJ P E) (hI:Inv B ok0 w0 g σ a w) (hd:∀ d,o.dst=some d→d<a.tmps.size) {σ':St} (h:Fg E ops o σ σ') {next:Act→World→Prop} {Q:Exit→Act→World→Prop}
  (hn:∀ g' a' w',Inv B ok0 w0 g' σ' a' w'→a'.tmps.size=a.tmps.size→next a' w'):
  if Region.wanted o (yielded ops a.tmps) then o.wp P a w next Q∨(o.asks P a w∧LetsOut Q) else next (a.put o.dst undef) w:=by
 rcases h.cases hI with ⟨hw,h⟩ | ⟨hw,h⟩
 ·rw [hw,if_pos rfl]
  exact .inl (Ylt hE hC hI hd h hn)
 ·rw [hw]
  simp only [Bool.false_eq_true,if_false]
  subst h
  exact hn g _ _ (hI.put (av:= .none) rfl hd) (ND _ _ _)
theorem WE.wp (hE:EnvOk P E) (hC:GJ P E) {Q:Exit→Act→World→Prop}:∀ {l:List Oper} {σ:St} {g:G} {a:Act} {w:World},Inv B ok0 w0 g σ a w→(∀ o∈l,∀ d,o.dst=some d→d<a.tmps.size)→
  WE E ops l σ τ→(∀ g' a' w',Inv B ok0 w0 g' τ a' w'→a'.tmps.size=a.tmps.size→Q .normal a' w')→wpList P ops Q l a w
 | [],σ,g,a,w,hI,_,h,hq=>by cases h;exact hq g a w hI rfl
 | o :: l,σ,g,a,w,hI,hd,⟨σ1,h1,h2⟩,hq=>by
  unfold wpList
  exact h1.wp hE hC hI (hd o (Av ..)) fun g' a' w' B9 hs=>
   WE.wp hE hC B9 (fun o' Ot d Hq=>by rw [hs];exact hd o' (Az _ Ot) d Hq) h2 fun g2 a2 w2 Fh PG=>hq g2 a2 w2 Fh (PG.trans hs)
def WC (n:Nat) (ops:Array Oper):Bool:=ops.toList.all fun o=>match o.dst with | some d=>decide (d<n) | none=>true
def F9 (n:Nat):Code→Bool
 | .region _ ops _=>WC n ops
 | .seq x y=>F9 n x && F9 n y
 | .cond _ x y=>F9 n x && F9 n y
 | .block _ c=>F9 n c
 | .loop c=>F9 n c
 | _=>true
theorem pL {n:Nat} (h:WC n ops=true):∀ o∈ops.toList,∀ d,o.dst=some d→d<n:=by
 intro o ho d hd
 have:=List.all_eq_true.1 h o ho
 rw [hd] at this
 exact Ak this
theorem Zpu (hE:EnvOk P E) (hC:GJ P E) {Q:Exit→Act→World→Prop} (hI:Inv B ok0 w0 g σ a w) {id:Nat} (hn:WC a.tmps.size ops=true) {k:St→Option R} {r:R} (h:Wn E ops ops.toList σ k=some r)
  (hq:∀ τ,k τ = some r→∀ g' a' w',Inv B ok0 w0 g' τ a' w'→a'.tmps.size=a.tmps.size→Q .normal a' w'):(Code.region id ops false).wp P Q a w:=by
 obtain ⟨τ,h1,h2⟩:=pP h
 exact wp_region_list (h1.wp hE hC hI (pL hn) (hq τ h2))
end
end Go.AM
end

section
/- Code: what the evaluator answers, the machine does. -/
namespace Go.AM
open Go.RowKit (Below)
set_option linter.unusedSectionVars false
variable [Lay]
section
variable {P : Program} {B : Bd} {ok0 : Nat → Nat → Prop} {w0 : World} {E : Env} {R : Type} {n : Nat}
def Ex.out:Ex→Exit
 | .normal=> .normal
 | .exit id=> .exit id
 | .ret=> .ret
def KOk (B:Bd) (ok0:Nat→Nat→Prop) (w0:World) (n:Nat) (k:K R) (r:R) (Q:Exit→Act→World→Prop):Prop:=
 ∀ e σ,k e σ = some r→∀ g a w,Inv B ok0 w0 g σ a w→a.tmps.size=n→Q e.out a w
def mn (P:Program) (B:Bd) (ok0:Nat→Nat→Prop) (w0:World) (R:Type) (n:Nat) (dr:Array Oper→St→(St→Option R)→Option R):Prop:=
 ∀ ops σ k r id Q g a w,WC n ops=true→dr ops σ k=some r→Inv B ok0 w0 g σ a w→a.tmps.size=n→
  (∀ τ,k τ = some r→∀ g' a' w',Inv B ok0 w0 g' τ a' w'→a'.tmps.size=n→Q .normal a' w')→(Code.region id ops true).wp P Q a w
def Job.code:Job→Code
 | .loop c=>c
 | .tail c=>c
def JWp (P:Program) (m:Nat) (Q:Exit→Act→World→Prop) (a:Act) (w:World):Job→Prop
 | .loop c=>Code.rounds P c Q m a w
 | .tail c=>c.wp P Q a w
def Zif (P:Program) (B:Bd) (ok0:Nat→Nat→Prop) (w0:World) (R:Type) (n m:Nat) (jb:Job→Nat→St→K R→Option R):Prop:=
 ∀ j b σ k r Q g a w,F9 n j.code=true→jb j b σ k=some r→KOk B ok0 w0 n k r Q→Inv B ok0 w0 g σ a w→a.tmps.size=n→JWp P m Q a w j
theorem iX (hE:EnvOk P E) (hC:GJ P E) {m:Nat} {jb:Job→Nat→St→K R→Option R} (hj:Zif P B ok0 w0 R n m jb)
  {dr:Array Oper→St→(St→Option R)→Option R} (Ll:mn P B ok0 w0 R n dr):∀ (c:Code) (b:Nat) (σ:St) (k:K R) (r:R) (Q:Exit→Act→World→Prop) (g:G) (a:Act) (w:World),
  F9 n c=true→JO E jb dr c b σ k=some r→KOk B ok0 w0 n k r Q→Inv B ok0 w0 g σ a w→a.tmps.size=n→c.wp P Q a w:=by
 intro c
 induction c with
 | skip=>intro b σ k r Q g a w _ h hk hI hs;exact wp_skip (hk .normal σ h g a w hI hs)
 | region id ops d=>
  intro b σ k r Q g a w hn h hk hI hs
  cases d with
  | false=>exact Zpu hE hC hI (by rw [hs];exact hn) h fun τ hτ g' a' w' B9 Ev=>hk .normal τ hτ g' a' w' B9 (Ev.trans hs)
  | true=>exact Ll ops σ _ r id Q g a w hn h hI hs fun τ hτ g' a' w' B9 Ev=>hk .normal τ hτ g' a' w' B9 Ev
 | seq x y nj nk=>
  intro b σ k r Q g a w hn h hk hI hs
  have JQ:F9 n x=true:=by have:=hn;simp only [F9,Bool.and_eq_true] at this;exact this.1
  have cM:F9 n y=true:=by have:=hn;simp only [F9,Bool.and_eq_true] at this;exact this.2
  refine wp_seq (nj b σ _ r _ g a w JQ h ?_ hI hs)
  intro e σ' he g' a' w' B9 Ev
  cases e with
  | normal=>
   dsimp only [lQ] at he
   split at he
   ·rename_i kp Uh
    obtain ⟨g2,Fh⟩:=B9.norm kp
    exact hj (.tail y) b _ k r Q g2 a' w' cM he hk Fh Ev
   ·exact nk b σ' k r Q g' a' w' cM he hk B9 Ev
  | exit id=>exact hk (.exit id) σ' he g' a' w' B9 Ev
  | ret=>exact hk .ret σ' he g' a' w' B9 Ev
 | cond c x y nj nk=>
  intro b σ k r Q g a w hn h hk hI hs
  have JQ:F9 n x=true:=by have:=hn;simp only [F9,Bool.and_eq_true] at this;exact this.1
  have cM:F9 n y=true:=by have:=hn;simp only [F9,Bool.and_eq_true] at this;exact this.2
  unfold JO at h
  split at h
  ·rename_i t gs hc
   refine wp_cond (eT hI hc) ?_
   cases t with
   | true=>exact nj b σ k r Q g a w JQ h hk hI hs
   | false=>exact nk b σ k r Q g a w cM h hk hI hs
  ·cases h
 | block id c ih=>
  intro b σ k r Q g a w hn h hk hI hs
  refine wp_block (ih id σ _ r _ g a w hn h ?_ hI hs)
  intro e σ' he g' a' w' B9 Ev
  cases e with
  | normal=>exact hk .normal σ' he g' a' w' B9 Ev
  | exit id'=>
   dsimp only [Bo] at he
   show (if id'=id then Q .normal a' w' else Q (.exit id') a' w')
   split at he
   ·rename_i hid;rw [if_pos hid];exact hk .normal σ' he g' a' w' B9 Ev
   ·rename_i hid;rw [if_neg hid];exact hk (.exit id') σ' he g' a' w' B9 Ev
  | ret=>exact hk .ret σ' he g' a' w' B9 Ev
 | loop c _=>
  intro b σ k r Q g a w hn h hk hI hs
  obtain ⟨g2,Fh⟩:=hI.norm (E.loop b)
  exact wp_loop_rounds m (hj (.loop c) b _ k r Q g2 a w hn h hk Fh hs)
 | exit id=>
  intro b σ k r Q g a w hn h hk hI hs
  unfold JO at h
  split at h
  ·rename_i kp Uh
   obtain ⟨g2,Fh⟩:=hI.norm kp
   exact wp_exit (hk (.exit id) _ h g2 a w Fh hs)
  ·exact wp_exit (hk (.exit id) _ h g a w hI hs)
 | ret=>
  intro b σ k r Q g a w hn h hk hI hs
  obtain ⟨g2,Fh⟩:=hI.norm E.ret
  exact wp_ret (hk .ret _ h g2 a w Fh hs)
 | _=>intro b σ k r Q g a w hn h;cases h
theorem zJ (hE:EnvOk P E) (hC:GJ P E) {dr:Array Oper→St→(St→Option R)→Option R} (Ll:mn P B ok0 w0 R n dr):∀ m,Zif P B ok0 w0 R n m (Li E dr m)
 | 0=>fun _ _ _ _ _ _ _ _ _ _ h=>by cases h
 | m+1=>by
  have ih:=zJ hE hC Ll m
  intro j b σ k r Q g a w hn h hk hI hs
  cases j with
  | tail c=>exact iX hE hC ih Ll c b σ k r Q g a w hn h hk hI hs
  | loop c=>
   show c.wp P (Exit.then (Code.rounds P c Q m) Q) a w
   refine iX hE hC ih Ll c b σ _ r _ g a w hn h ?_ hI hs
   intro e σ' he g' a' w' B9 Ev
   cases e with
   | normal=>
    obtain ⟨g2,Fh⟩:=B9.norm (E.loop b)
    exact ih (.loop c) b _ k r Q g2 a' w' hn he hk Fh Ev
   | exit id=>exact hk (.exit id) σ' he g' a' w' B9 Ev
   | ret=>exact hk .ret σ' he g' a' w' B9 Ev
end
end Go.AM
end

section
/- Operations look at slots by their operands alone. -/
namespace Go.AM
open Go.RowKit (Below)
set_option linter.unusedSectionVars false
variable [Lay]
def St.Bw (σ:St) (t:Nat→AV):St:={ σ with t:=t }
def Fb (t:Nat→AV) (d:Option Nat) (a:AV):Nat→AV:=match d with | some d=>Ed t d a | none=>t
def dv (σ:St) (d:Option Nat):AV:=match d with | some d=>σ.t d | none=> .undef
def Step.D4 (t':Nat→AV) (d:Option Nat):Step→Step
 | .no=> .no
 | .go c σ=> .go c (σ.Bw (Fb t' d (dv σ d)))
 | .call α m f=> .call α m fun x=>(f x).Bw (Fb t' d (dv (f x) d))
section
variable {E : Env} {o : Oper} {σ : St} {t' : Nat → AV}
theorem YF {α:Type} (f:Nat→α) (k:Nat) (a:α):Ed f k a k=a:=by rw [BD,if_pos rfl]
theorem MW (ρ:St) (d:Option Nat) (a:AV):(ρ.Bw t').BJ d a=(ρ.BJ d a).Bw (Fb t' d (dv (ρ.BJ d a) d)):=by
 cases d with
 | none=>rfl
 | some d=>
  show St.mk (Ed t' d a) _ _ _=St.mk (Ed t' d (Ed ρ.t d a d)) _ _ _
  rw [YF]
  rfl
theorem Mi (c:Bool) (ρ:St) (d:Option Nat) (a:AV):Step.go c ((ρ.Bw t').BJ d a)=(Step.go c (ρ.BJ d a)).D4 t' d:=by
 rw [MW];rfl
theorem EF {c:Bool} {s s':Step} {d:Option Nat} (h:s'=s.D4 t' d):(bif c then Step.no else s')=(bif c then Step.no else s).D4 t' d:=by
 cases c
 ·exact h
 ·rfl
theorem NI (a:AV):put o (σ.Bw t') a=(put o σ a).D4 t' o.dst:=Mi _ _ _ _
theorem Yen (c:Bool) (a:AV):EO o c (σ.Bw t') a=(EO o c σ a).D4 t' o.dst:=Mi _ _ _ _
section
variable {t : Nat → AV} {c : Nat → Option Con} {v r : Nat → Nat}
theorem Jo (a:AV):put o ⟨t',c,v,r⟩ a=(put o ⟨t,c,v,r⟩ a).D4 t' o.dst:=NI (σ:=⟨t,c,v,r⟩) a
theorem Jp (b:Bool) (a:AV):EO o b ⟨t',c,v,r⟩ a=(EO o b ⟨t,c,v,r⟩ a).D4 t' o.dst:=Yen (σ:=⟨t,c,v,r⟩) b a
theorem Ei (b:Bool) (d:Option Nat) (id:Nat) (k:Con) (a:AV):Step.go b ((St.CR ⟨t',c,v,r⟩ id k).BJ d a)=(Step.go b ((St.CR ⟨t,c,v,r⟩ id k).BJ d a)).D4 t' d:=
 Mi (t':=t') b (St.CR ⟨t,c,v,r⟩ id k) d a
theorem EA (b:Bool) (d:Option Nat) (id:Nat) (k:Con) (a:AV):Step.go b ((St.Cw ⟨t',c,v,r⟩ id k).BJ d a)=(Step.go b ((St.Cw ⟨t,c,v,r⟩ id k).BJ d a)).D4 t' d:=
 Mi (t':=t') b (St.Cw ⟨t,c,v,r⟩ id k) d a
theorem Jk (b:Bool) (d:Option Nat) (id:Nat) (a:AV):Step.go b ((St.Cz ⟨t',c,v,r⟩ id).BJ d a)=(Step.go b ((St.Cz ⟨t,c,v,r⟩ id).BJ d a)).D4 t' d:=
 Mi (t':=t') b (St.Cz ⟨t,c,v,r⟩ id) d a
end
theorem Zr5 (T:Nat) (a:AV):N0 E T o (σ.Bw t') a=(N0 E T o σ a).D4 t' o.dst:=by
 obtain ⟨t,c,v,r⟩:=σ
 show N0 E T o ⟨t',c,v,r⟩ a=_
 unfold N0 Qd Tm
 try dsimp only
 ((repeat' split) <;> first | rfl | exact Jo _ | exact Jp _ _ | exact Ei _ _ _ _ _ | exact EA _ _ _ _ _ | exact Jk _ _ _ _ | exact EF (Ei _ _ _ _ _) | exact EF (EA _ _ _ _ _) | (simp_all;done))
theorem Zku (T:Nat) (a x:AV):Ql E T o (σ.Bw t') a x=(Ql E T o σ a x).D4 t' o.dst:=by
 obtain ⟨t,c,v,r⟩:=σ
 show Ql E T o ⟨t',c,v,r⟩ a x=_
 unfold Ql
 try dsimp only
 ((repeat' split) <;> first | rfl | exact Jo _ | exact Jp _ _ | exact Ei _ _ _ _ _ | exact EA _ _ _ _ _ | exact Jk _ _ _ _ | exact EF (Ei _ _ _ _ _) | exact EF (EA _ _ _ _ _) | (simp_all;done))
theorem Zcl (S f:Nat) (x:AV):Nw E S f o (σ.Bw t') x=(Nw E S f o σ x).D4 t' o.dst:=by
 obtain ⟨t,c,v,r⟩:=σ
 show Nw E S f o ⟨t',c,v,r⟩ x=_
 unfold Nw
 try dsimp only
 ((repeat' split) <;> first | rfl | exact Jo _ | exact Jp _ _ | exact Ei _ _ _ _ _ | exact EA _ _ _ _ _ | exact Jk _ _ _ _ | exact EF (Ei _ _ _ _ _) | exact EF (EA _ _ _ _ _) | (simp_all;done))
theorem Znu (S f:Nat) (x:AV):Qj E S f o (σ.Bw t') x=(Qj E S f o σ x).D4 t' o.dst:=by
 obtain ⟨t,c,v,r⟩:=σ
 show Qj E S f o ⟨t',c,v,r⟩ x=_
 unfold Qj
 try dsimp only
 ((repeat' split) <;> first | rfl | exact Jo _ | exact Jp _ _ | exact Ei _ _ _ _ _ | exact EA _ _ _ _ _ | exact Jk _ _ _ _ | exact EF (Ei _ _ _ _ _) | exact EF (EA _ _ _ _ _) | (simp_all;done))
theorem Zvn (i:Nat) (x:AV):P6 i o (σ.Bw t') x=(P6 i o σ x).D4 t' o.dst:=by
 obtain ⟨t,c,v,r⟩:=σ
 show P6 i o ⟨t',c,v,r⟩ x=_
 unfold P6
 try dsimp only
 ((repeat' split) <;> first | rfl | exact Jo _ | exact Jp _ _ | exact Ei _ _ _ _ _ | exact EA _ _ _ _ _ | exact Jk _ _ _ _ | exact EF (Ei _ _ _ _ _) | exact EF (EA _ _ _ _ _) | (simp_all;done))
theorem Zdl (T:Nat) (x i:AV):Nx E T o (σ.Bw t') x i=(Nx E T o σ x i).D4 t' o.dst:=by
 obtain ⟨t,c,v,r⟩:=σ
 show Nx E T o ⟨t',c,v,r⟩ x i=_
 unfold Nx
 try dsimp only
 ((repeat' split) <;> first | rfl | exact Jo _ | exact Jp _ _ | exact Ei _ _ _ _ _ | exact EA _ _ _ _ _ | exact Jk _ _ _ _ | exact EF (Ei _ _ _ _ _) | exact EF (EA _ _ _ _ _) | (simp_all;done))
theorem Zou (T:Nat) (x i:AV):Qk E T o (σ.Bw t') x i=(Qk E T o σ x i).D4 t' o.dst:=by
 obtain ⟨t,c,v,r⟩:=σ
 show Qk E T o ⟨t',c,v,r⟩ x i=_
 unfold Qk
 try dsimp only
 ((repeat' split) <;> first | rfl | exact Jo _ | exact Jp _ _ | exact Ei _ _ _ _ _ | exact EA _ _ _ _ _ | exact Jk _ _ _ _ | exact EF (Ei _ _ _ _ _) | exact EF (EA _ _ _ _ _) | (simp_all;done))
theorem Zju (T:Nat):Qm E T o (σ.Bw t')=(Qm E T o σ).D4 t' o.dst:=by
 obtain ⟨t,c,v,r⟩:=σ
 show Qm E T o ⟨t',c,v,r⟩=_
 unfold Qm
 try dsimp only
 ((repeat' split) <;> first | rfl | exact Jo _ | exact Jp _ _ | exact Ei _ _ _ _ _ | exact EA _ _ _ _ _ | exact Jk _ _ _ _ | exact EF (Ei _ _ _ _ _) | exact EF (EA _ _ _ _ _) | (simp_all;done))
theorem Ydn (T:Nat) (x:AV):QN E T o (σ.Bw t') x=(QN E T o σ x).D4 t' o.dst:=by
 obtain ⟨t,c,v,r⟩:=σ
 show QN E T o ⟨t',c,v,r⟩ x=_
 unfold QN aM
 try dsimp only
 ((repeat' split) <;> first | rfl | exact Jo _ | exact Jp _ _ | exact Ei _ _ _ _ _ | exact EA _ _ _ _ _ | exact Jk _ _ _ _ | exact EF (Ei _ _ _ _ _) | exact EF (EA _ _ _ _ _) | (simp_all;done))
theorem YH (t t':Nat→AV) (c:Nat→Option Con) (v r:Nat→Nat):content ⟨t',c,v,r⟩=content ⟨t,c,v,r⟩:=by
 funext e x;cases x <;> rfl
theorem sS (t t':Nat→AV) (c:Nat→Option Con) (v r:Nat→Nat) (d sz:Nat):∀ g:List Tag,KT ⟨t',c,v,r⟩ d sz g=KT ⟨t,c,v,r⟩ d sz g
 | []=>rfl
 | x :: g=>by unfold KT;rw [sS t t' c v r d sz g]
theorem Zgq (T U:Nat) (s x:AV):J2 E T U o (σ.Bw t') s x=(J2 E T U o σ s x).D4 t' o.dst:=by
 obtain ⟨t,c,v,r⟩:=σ
 show J2 E T U o ⟨t',c,v,r⟩ s x=_
 unfold J2
 simp only [YH t t' c v r,sS t t' c v r]
 ((repeat' split) <;> first | rfl | exact Jo _ | exact Jp _ _ | exact Ei _ _ _ _ _ | exact EA _ _ _ _ _ | exact Jk _ _ _ _ | exact EF (Ei _ _ _ _ _) | exact EF (EA _ _ _ _ _) | (simp_all;done))
theorem Ztn (T U id ver:Nat) (x:AV):OV E T U o (σ.Bw t') id ver x=(OV E T U o σ id ver x).D4 t' o.dst:=by
 obtain ⟨t,c,v,r⟩:=σ
 show OV E T U o ⟨t',c,v,r⟩ id ver x=_
 unfold OV Tn
 simp only [YH t t' c v r]
 ((repeat' split) <;> first | rfl | exact Jo _ | exact Jp _ _ | exact Ei _ _ _ _ _ | exact EA _ _ _ _ _ | exact Jk _ _ _ _ | exact EF (Ei _ _ _ _ _) | exact EF (EA _ _ _ _ _) | (simp_all;done))
theorem sT (t t':Nat→AV) (c:Nat→Option Con) (v r:Nat→Nat):partOf ⟨t',c,v,r⟩=partOf ⟨t,c,v,r⟩:=by
 funext x;cases x <;> rfl
theorem Ziu (T:Nat) (s:AV):O3 E T o (σ.Bw t') s=(O3 E T o σ s).D4 t' o.dst:=by
 obtain ⟨t,c,v,r⟩:=σ
 show O3 E T o ⟨t',c,v,r⟩ s=_
 unfold O3
 simp only [sT t t' c v r]
 ((repeat' split) <;> first | rfl | exact Ei _ _ _ _ _ | (simp_all;done))
theorem Zq5 (T U:Nat) (s x:AV):O9 E T U o (σ.Bw t') s x=(O9 E T U o σ s x).D4 t' o.dst:=by
 obtain ⟨t,c,v,r⟩:=σ
 show O9 E T U o ⟨t',c,v,r⟩ s x=_
 unfold O9 Tn
 simp only [sT t t' c v r,YH t t' c v r]
 ((repeat' split) <;> first | rfl | exact Ei _ _ _ _ _ | (simp_all;done))
theorem sQ {c:Bool} (x:AV):Mo E o (σ.Bw t') c x=(Mo E o σ c x).D4 t' o.dst:=by
 unfold Mo
 split
 ·rename_i d hd
  cases E.bx d && c with
  | true=>
   dsimp only [cond]
   split
   ·exact Mi _ (σ.Cw _ _) _ _
   ·rfl
  | false=>exact NI _
 ·exact NI _
theorem Zun (src dst:Nat) (x:AV):Ly E src dst o (σ.Bw t') x=(Ly E src dst o σ x).D4 t' o.dst:=by
 obtain ⟨t,c,v,r⟩:=σ
 show Ly E src dst o ⟨t',c,v,r⟩ x=_
 unfold Ly
 simp only [YH t t' c v r]
 ((repeat' split) <;> first | rfl | exact Jo _ | exact Jp _ _ | exact Ei _ _ _ _ _ | exact EA _ _ _ _ _ | exact Jk _ _ _ _ | exact EF (Ei _ _ _ _ _) | exact EF (EA _ _ _ _ _) | (simp_all;done))
theorem Zhq (op:BinOp) (k j:IntKind) (a b:Int):NL op o (σ.Bw t') k j a b=(NL op o σ k j a b).D4 t' o.dst:=by
 obtain ⟨t,c,v,r⟩:=σ
 show NL op o ⟨t',c,v,r⟩ k j a b=_
 unfold NL
 ((repeat' split) <;> first | rfl | exact Jo _ | exact Jp _ _ | exact Ei _ _ _ _ _ | exact EA _ _ _ _ _ | exact Jk _ _ _ _ | exact EF (Ei _ _ _ _ _) | exact EF (EA _ _ _ _ _) | (simp_all;done))
theorem Ziq (op:BinOp) (a b:ByteArray):NM op o (σ.Bw t') a b=(NM op o σ a b).D4 t' o.dst:=by
 obtain ⟨t,c,v,r⟩:=σ
 show NM op o ⟨t',c,v,r⟩ a b=_
 unfold NM
 ((repeat' split) <;> first | rfl | exact Jo _ | exact Jp _ _ | exact Ei _ _ _ _ _ | exact EA _ _ _ _ _ | exact Jk _ _ _ _ | exact EF (Ei _ _ _ _ _) | exact EF (EA _ _ _ _ _) | (simp_all;done))
theorem Zlu (T:Nat) (op:BinOp) (x y:AV):O1 E T op o (σ.Bw t') x y=(O1 E T op o σ x y).D4 t' o.dst:=by
 unfold O1
 split
 ·split
  ·exact Zhq _ _ _ _ _
  ·exact Ziq _ _ _
  ·split
   ·split
    ·split
     ·exact NI _
     ·exact NI _
     ·rfl
    ·rfl
   ·rfl
 ·rfl
theorem Zs5 (op:UnOp) (x:AV):Qy op o (σ.Bw t') x=(Qy op o σ x).D4 t' o.dst:=by
 obtain ⟨t,c,v,r⟩:=σ
 show Qy op o ⟨t',c,v,r⟩ x=_
 unfold Qy
 ((repeat' split) <;> first | rfl | exact Jo _ | exact Jp _ _ | exact Ei _ _ _ _ _ | exact EA _ _ _ _ _ | exact Jk _ _ _ _ | exact EF (Ei _ _ _ _ _) | exact EF (EA _ _ _ _ _) | (simp_all;done))
theorem Ycn (T:Option Ty) (x:AV):LN T o (σ.Bw t') x=(LN T o σ x).D4 t' o.dst:=by
 obtain ⟨t,c,v,r⟩:=σ
 show LN T o ⟨t',c,v,r⟩ x=_
 unfold LN
 try dsimp only
 ((repeat' split) <;> first | rfl | exact Jo _ | exact Jp _ _ | exact Ei _ _ _ _ _ | exact EA _ _ _ _ _ | exact Jk _ _ _ _ | exact EF (Ei _ _ _ _ _) | exact EF (EA _ _ _ _ _) | (simp_all;done))
theorem pO (f:Int→Int→Int) (xs:List AV):MX f o (σ.Bw t') xs=(MX f o σ xs).D4 t' o.dst:=by
 unfold MX
 split
 ·split
  ·exact NI _
  ·rfl
 ·rfl
theorem uN {x:Option Operand} (d:Int) (h:∀ y,x=some y→A8 (σ.Bw t') y=A8 σ y):FQ (σ.Bw t') d x=FQ σ d x:=by
 cases x with
 | none=>rfl
 | some y=>unfold FQ;dsimp only;rw [h y rfl]
theorem Zmu (T:Nat) (x:AV) (lo hi:Option Operand) (h1:∀ y,lo=some y→A8 (σ.Bw t') y=A8 σ y) (h2:∀ y,hi=some y→A8 (σ.Bw t') y=A8 σ y):
  O2 E T o (σ.Bw t') x lo hi=(O2 E T o σ x lo hi).D4 t' o.dst:=by
 unfold O2
 simp only [uN _ h1,uN _ h2]
 obtain ⟨t,c,v,r⟩:=σ
 simp only [show St.Bw ⟨t,c,v,r⟩ t'=⟨t',c,v,r⟩ from rfl]
 ((repeat' split) <;> first | rfl | exact Jo _ | exact Jp _ _ | exact Ei _ _ _ _ _ | exact EA _ _ _ _ _ | exact Jk _ _ _ _ | exact EF (Ei _ _ _ _ _) | exact EF (EA _ _ _ _ _) | (simp_all;done))
theorem qH (T:Nat):∀ (ps:List (Nat×Operand)) (t:Ty) (z:t.D) (g:List Tag),(∀ p∈ps,A8 (σ.Bw t') p.2=A8 σ p.2)→KS E T (σ.Bw t') t ps z g=KS E T σ t ps z g
 | [],t,z,g,_=>rfl
 | (f,x) :: ps,t,z,g,h=>by
  have ih:=fun z g=>qH T ps t z g fun p hp=>h p (Az _ hp)
  unfold KS
  rw [show A8 (σ.Bw t') x=A8 σ x from h (f,x) (Av ..)]
  simp only [ih]
theorem uO (e:Ty):∀ (ps:List (Nat×Operand)) (i:Nat),(∀ p∈ps,A8 (σ.Bw t') p.2=A8 σ p.2)→Nc (σ.Bw t') e i ps=Nc σ e i ps
 | [],_,_=>rfl
 | (j,x) :: ps,i,h=>by
  unfold Nc
  rw [show A8 (σ.Bw t') x=A8 σ x from h (j,x) (Av ..),uO e ps (i+1) fun p hp=>h p (Az _ hp)]
theorem Zek (T n:Nat) (ps:Array (Nat×Operand)) (h:∀ p∈ps.toList,A8 (σ.Bw t') p.2=A8 σ p.2):PZ E T n ps o (σ.Bw t')=(PZ E T n ps o σ).D4 t' o.dst:=by
 unfold PZ
 split
 ·rename_i d e _ _
  rw [uO _ _ _ h]
  split
  ·split
   ·cases E.lit d with
    | true=>exact Mi _ _ _ _
    | false=>exact Mi _ (σ.Cz _) _ _
   ·rfl
  ·rfl
 ·rfl
theorem Zbl (T:Nat) (x y:Operand) (hx:A8 (σ.Bw t') x=A8 σ x) (hy:A8 (σ.Bw t') y=A8 σ y):Ri E T o (σ.Bw t') x y=(Ri E T o σ x y).D4 t' o.dst:=by
 unfold Ri
 rw [hx,hy]
 split
 ·rename_i d e k n g1 j m g2 hd hT hn hm
  split
  ·exact Mi _ (σ.Cw _ _) _ _
  ·split
   ·cases E.bx d with
    | true=>exact Mi _ (σ.Cw _ _) _ _
    | false=>exact Mi _ (σ.Cz _) _ _
   ·rfl
 ·rfl
theorem Yfn (T:Nat) (m:Bool) (x:AV):La E T m (σ.Bw t') x=(La E T m σ x).map fun p=>(p.1,p.2.Bw t'):=by
 obtain ⟨t,c,v,r⟩:=σ
 show La E T m ⟨t',c,v,r⟩ x=_
 cases m with
 | false=>
  unfold La
  simp only [Ac]
  try dsimp only
  (repeat' split) <;> first | rfl | (simp_all;done)
 | true=>
  unfold La
  simp only [Aa]
  try dsimp only
  (repeat' split) <;> first | rfl | (simp_all;done)
theorem Ye1 {T:Nat} {m:Bool} {x a:AV} {σ1:St} (h:La E T m σ x=some (a,σ1)):σ1.t = σ.t:=by
 cases m with
 | false=>
  unfold La at h
  simp only [Ac] at h
  (repeat' split at h) <;> first | (cases h;rfl) | cases h
 | true=>
  unfold La at h
  simp only [Aa] at h
  (repeat' split at h) <;> first | (cases h;rfl) | cases h
theorem FN {σ ρ:St} (h:σ.t = ρ.t) (x:Operand):A8 σ x=A8 ρ x:=by
 cases x <;> first | rfl | (unfold A8;rw [h])
 
theorem fF:∀ (ms:List Bool) (ps:List (Operand×Nat)) (σ:St),(∀ p∈ps,A8 (σ.Bw t') p.1=A8 σ p.1)→Jh E ms ps (σ.Bw t')=(Jh E ms ps σ).map fun p=>(p.1,p.2.Bw t')
 | _,[],σ,_=>by unfold Jh;rfl
 | ms,(x,T) :: ps,σ,h=>by
  unfold Jh
  rw [show A8 (σ.Bw t') x=A8 σ x from h (x,T) (Av ..),Yfn]
  cases ha:La E T (ms.headD false) σ (A8 σ x) with
  | none=>rfl
  | some p=>
   obtain ⟨a,σ1⟩:=p
   simp only [Option.map_some]
   have ht:=Ye1 ha
   rw [fF ms.tail ps σ1 fun p hp=>by
    rw [show A8 (σ1.Bw t') p.1=A8 (σ.Bw t') p.1 from FN (σ:=σ1.Bw t') (ρ:=σ.Bw t') rfl _,h p (Az _ hp)];exact (FN ht _).symm]
   cases Jh E ms.tail ps σ1 with
   | none=>rfl
   | some q=>rfl
theorem Ygn (x:AV):CT (σ.Bw t') x=(CT σ x).map fun p=>(p.1,p.2.Bw t'):=by
 obtain ⟨t,c,v,r⟩:=σ
 show CT ⟨t',c,v,r⟩ x=_
 unfold CT
 try dsimp only
 (repeat' split) <;> first | rfl | (simp_all;done)
theorem Zgf {x:AV} {a:Dat} {σ1:St} (h:CT σ x=some (a,σ1)):σ1.t = σ.t:=by
 unfold CT at h
 (repeat' split at h) <;> first | (cases h;rfl) | cases h
theorem sR:∀ (ps:List Operand) (σ:St),(∀ p∈ps,A8 (σ.Bw t') p=A8 σ p)→Mm ps (σ.Bw t')=(Mm ps σ).map fun p=>(p.1,p.2.Bw t')
 | [],σ,_=>rfl
 | x :: ps,σ,h=>by
  unfold Mm
  rw [show A8 (σ.Bw t') x=A8 σ x from h x (Av ..),Ygn]
  cases ha:CT σ (A8 σ x) with
  | none=>rfl
  | some p=>
   obtain ⟨a,σ1⟩:=p
   simp only [Option.map_some]
   have ht:=Zgf ha
   rw [sR ps σ1 fun p hp=>by
    rw [show A8 (σ1.Bw t') p=A8 (σ.Bw t') p from FN (σ:=σ1.Bw t') (ρ:=σ.Bw t') rfl _,h p (Az _ hp)];exact (FN ht _).symm]
   cases Mm ps σ1 with
   | none=>rfl
   | some q=>rfl
theorem qI:∀ (ps:List Operand),(∀ p∈ps,A8 (σ.Bw t') p=A8 σ p)→Pa (σ.Bw t') ps=Pa σ ps
 | [],_=>rfl
 | x :: ps,h=>by
  unfold Pa
  rw [show A8 (σ.Bw t') x=A8 σ x from h x (Av ..),qI ps fun p hp=>h p (Az _ hp)]
  rfl
theorem sP:∀ (ps:List (Nat×Nat)),Ps (σ.Bw t') ps=Ps σ ps
 | []=>rfl
 | (id,ver) :: ps=>by
  unfold Ps
  rw [sP ps]
  rfl
theorem ea:∀ (ids:List Nat),J3 (σ.Bw t') ids=J3 σ ids
 | []=>rfl
 | id :: ids=>by
  unfold J3
  rw [ea ids]
  rfl
theorem Rk:∀ (ids:List Nat) (ds:List Con) (σ:St),GK ids ds (σ.Bw t')=(GK ids ds σ).Bw t'
 | [],_,_=>rfl
 | _ :: _,[],_=>rfl
 | id :: ids,d :: ds,σ=>Rk ids ds (σ.CR id d)
theorem eS:∀ (hs:List Nat) (σ:St),DW hs (σ.Bw t')=(DW hs σ).Bw t'
 | [],_=>rfl
 | h :: hs,σ=>eS hs (σ.Cz h)
theorem dZ:∀ (ms:List Bool) (xs:List Operand),(∀ x∈xs,A8 (σ.Bw t') x=A8 σ x)→Fm (σ.Bw t') ms xs=Fm σ ms xs
 | _,[],_=>by unfold Fm;rfl
 | ms,x :: xs,h=>by
  unfold Fm
  rw [h x (Av ..),dZ ms.tail xs fun y hy=>h y (Az _ hy)]
end
end Go.AM
end

section
/- Operations look at slots by their operands alone: all of them. -/
namespace Go.AM
open Go.RowKit (Below)
set_option linter.unusedSectionVars false
variable [Lay]
section
variable {E : Env} {o : Oper} {σ : St} {t' : Nat → AV}
theorem Vg (d:Nat):∀ (g:List Tag) (j:Nat) (σ:St),Kv d g j (σ.Bw t')=((Kv d g j σ).1,(Kv d g j σ).2.1,(Kv d g j σ).2.2.Bw t')
 | [],_,_=>rfl
 | x :: g,j,σ=>by
  unfold Kv
  split
  ·simp only [Vg d g j σ]
  ·have:=Vg d g (j+1) (σ.Cz (B3 d j))
   simp only [show (σ.Bw t').Cz (B3 d j)=(σ.Cz (B3 d j)).Bw t' from rfl,this]
   rfl
theorem sN (d:Nat):∀ (ds:List Dat) (j:Nat) (σ:St),N7 d ds j (σ.Bw t')=((N7 d ds j σ).1,(N7 d ds j σ).2.1,(N7 d ds j σ).2.2.Bw t')
 | [],_,_=>rfl
 | x :: ds,j,σ=>by
  unfold N7
  simp only [Vg d x.g j σ,sN d ds _ (Kv d x.g j σ).2.2]
theorem Vh (d:Nat):∀ (ds:List Con) (j:Nat) (σ:St),Kd d ds j (σ.Bw t')=((Kd d ds j σ).1,(Kd d ds j σ).2.1,(Kd d ds j σ).2.2.Bw t')
 | [],_,_=>rfl
 | .var t x g :: ds,j,σ=>by
  unfold Kd
  simp only [Vg d g j σ,Vh d ds _ (Kv d g j σ).2.2]
 | .arr e l f :: ds,j,σ=>by
  unfold Kd
  simp only [Vh d ds j σ]
 | .val v :: ds,j,σ=>by
  unfold Kd
  simp only [Vh d ds j σ]
theorem uL (ids:List Nat) (a:AV) (D9:List Con):imp o ids (σ.Bw t') a D9=(imp o ids σ a D9).Bw (Fb t' o.dst (dv (imp o ids σ a D9) o.dst)):=by
 unfold imp
 cases hd:o.dst with
 | none=>exact Rk _ _ _
 | some d=>
  dsimp only
  split
  ·simp only [Vg,Vh,Rk]
   exact MW _ _ _
  ·simp only [sN,Vh,Rk]
   exact MW _ _ _
  ·simp only [Rk]
   exact MW (ρ:=(GK ids (D9.map RO) σ).Cw d _) _ _
  ·simp only [Rk]
   split
   ·exact MW _ _ _
   ·exact MW _ _ _
  ·rw [Rk];exact MW _ _ _
theorem Zhu (T:Nat) (op:BinOp) (x:AV):O8 E T op o (σ.Bw t') x=(O8 E T op o σ x).D4 t' o.dst:=by
 unfold O8
 split
 ·split
  ·exact NI _
  ·exact NI _
  ·rfl
 ·rfl
theorem sO (b:Bool) (σ σ1:St):JJ b (σ.Bw t') (σ1.Bw t')=(JJ b σ σ1).Bw t':=by cases b <;> rfl
theorem Zp5 {c:Call} (h:∀ x∈c.operands,A8 (σ.Bw t') x=A8 σ x):Mn E c o (σ.Bw t')=(Mn E c o σ).D4 t' o.dst:=by
 have Cy:∀ x∈c.args.toList,A8 (σ.Bw t') x=A8 σ x:=fun x hx=>h x (by unfold Call.operands;exact Array.mem_append.2 (.inr (Array.mem_toList_iff.1 hx)))
 have Ud:∀ xs:List Operand,(∀ x∈xs,A8 (σ.Bw t') x=A8 σ x)→xs.map (A8 (σ.Bw t'))=xs.map (A8 σ):=fun xs hx=>List.map_congr_left hx
 unfold Mn
 split
 ·rename_i b hb
  split
  ·rename_i x T ha FI
   rw [Cy x (by rw [ha];exact Av ..)]
   exact Ycn _ _
  ·rename_i s x T U ha FI
   rw [Cy x (by rw [ha];simp),Cy s (by rw [ha];simp)]
   split
   ·exact Ztn _ _ _ _ _
   ·exact Zgq _ _ _ _
  ·rename_i x T ha FI
   rw [Cy x (by rw [ha];exact Av ..)]
   exact Ziu _ _
  ·rename_i s x T U ha FI
   rw [Cy x (by rw [ha];simp),Cy s (by rw [ha];simp)]
   exact Zq5 _ _ _ _
  ·rw [Ud _ Cy];exact pO _ _
  ·rw [Ud _ Cy];exact pO _ _
  ·rfl
 ·rename_i f hf
  rw [h f (by unfold Call.operands;rw [hf];exact Array.mem_append.2 (.inl (by simp)))]
  split
  ·rename_i fn ds Sz
   split
   ·rename_i s hs
    split
    ·rename_i hlen
     rw [fF _ _ _ fun p hp=>Cy p.1 (List.of_mem_zip hp).1]
     cases ha:Jh E (E.inpl fn) (c.args.toList.zip c.argTypes.toList) σ with
     | none=>rfl
     | some q=>
      obtain ⟨l,σ1⟩:=q
      simp only [Option.map_some]
      split
      ·rename_i r hr
       rw [dZ _ _ Cy,sO,ea]
       cases J3 (JJ (E.lend fn) σ σ1) (Fm σ (E.inpl fn) c.args.toList) && (Jr (FD (D5 l (Is ds))) && (!E.lend fn || ((FD (D5 l (Is ds))).isEmpty && !JI (D5 l (Is ds))))) with
       | false=>rfl
       | true=>
        dsimp only [cond]
        unfold Step.D4
        simp only [eS,uL]
      ·rfl
    ·rfl
   ·rfl
  ·rename_i fn ps Sz
   split
   ·rename_i s hs
    split
    ·rename_i hlen
     rw [fF _ _ _ fun p hp=>Cy p.1 (List.of_mem_zip hp).1,sP]
     cases ha:Jh E (E.inpl fn) (c.args.toList.zip c.argTypes.toList) σ with
     | none=>rfl
     | some q=>
      obtain ⟨l,σ1⟩:=q
      cases MM:Ps σ ps with
      | none=>rfl
      | some cs=>
       simp only [Option.map_some]
       split
       ·rename_i r hr
        rw [dZ _ _ Cy,sO,ea]
        cases J3 (JJ (E.lend fn) σ σ1) (Fm σ (E.inpl fn) c.args.toList++ps.map (·.1)) && (Jr (FD (D5 l cs)) && (!E.lend fn || ((FD (D5 l cs)).isEmpty && !JI (D5 l cs)))) with
        | false=>rfl
        | true=>
         dsimp only [cond]
         unfold Step.D4
         simp only [eS,uL]
       ·rfl
    ·rfl
   ·rfl
  ·rfl
 ·rfl
theorem sH (h:∀ x∈o.op.operands,A8 (σ.Bw t') x=A8 σ x):Ee E (σ.Bw t') o=(Ee E σ o).D4 t' o.dst:=by
 unfold Ee
 cases ho:o.op <;> rw [ho] at h <;> (try dsimp only)
 case move x=>rw [h x (by simp [Op.operands])];exact sQ _
 case assign x=>rw [h x (by simp [Op.operands])];exact sQ _
 case alloc T=>exact Zju T
 case box T x=>rw [h x (by simp [Op.operands])];exact Ydn T _
 case build T ps=>
  split
  ·split
   ·rw [qH T ps.toList _ _ _ fun p hp=>h p.2 (by simp only [Op.operands,List.mem_toArray,List.mem_map];exact ⟨p,hp,rfl⟩)]
    split
    ·exact NI _
    ·rfl
   ·rfl
  ·rfl
 case buildSlice T n ps=>exact Zek T n ps fun p hp=>h p.2 (by simp only [Op.operands,List.mem_toArray,List.mem_map];exact ⟨p,hp,rfl⟩)
 case load T x=>rw [h x (by simp [Op.operands])];exact Zr5 T _
 case store T x y=>rw [h x (by simp [Op.operands]),h y (by simp [Op.operands])];exact Zku T _ _
 case nilCheck x=>
  rw [h x (by simp [Op.operands])]
  obtain ⟨t,c,v,r⟩:=σ
  simp only [show St.Bw ⟨t,c,v,r⟩ t'=⟨t',c,v,r⟩ from rfl]
  ((repeat' split) <;> first | rfl | exact Jo _ | exact Jp _ _ | exact Ei _ _ _ _ _ | exact EA _ _ _ _ _ | exact Jk _ _ _ _ | (simp_all;done))
 case binOp op T x y U=>
  rw [h x (by simp [Op.operands]),h y (by simp [Op.operands])]
  cases TB y with
  | true=>exact Zhu T op _
  | false=>exact Zlu T op _ _
 case unOp op T x=>rw [h x (by simp [Op.operands])];exact Zs5 op _
 case convert s d x=>rw [h x (by simp [Op.operands])];exact Zun s d _
 case makeFunc fn p q=>
  cases fn with
  | func f=>
   dsimp only
   split
   ·have hq:∀ x∈q.toList,A8 (σ.Bw t') x=A8 σ x:=fun x hx=>h x (by simp only [Op.operands];exact Array.mem_append.2 (.inr (Array.mem_toList_iff.1 hx)))
    cases Hi E o.dst with
    | true=>
     dsimp only [cond]
     rw [qI q.toList hq]
     cases Pa σ q.toList with
     | none=>rfl
     | some z=>exact NI _
    | false=>
     dsimp only [cond]
     rw [sR q.toList σ hq]
     cases Mm q.toList σ with
     | none=>rfl
     | some z=>exact Mi _ _ _ _
   ·rfl
  | _=>rfl
 case makeSlice T x y=>exact Zbl T x y (h x (by simp [Op.operands])) (h y (by simp [Op.operands]))
 case slice T x lo hi mx=>
  cases mx with
  | none=>
   dsimp only
   rw [h x (by simp [Op.operands])]
   exact Zmu T _ lo hi (fun y hy=>h y (by simp [Op.operands,hy])) (fun y hy=>h y (by simp [Op.operands,hy]))
  | some m=>rfl
 case fieldAddr S x f=>rw [h x (by simp [Op.operands])];exact Zcl S f _
 case field S x f=>rw [h x (by simp [Op.operands])];exact Znu S f _
 case indexAddr T x i=>rw [h x (by simp [Op.operands]),h i (by simp [Op.operands])];exact Zdl T _ _
 case index T x i=>rw [h x (by simp [Op.operands]),h i (by simp [Op.operands])];exact Zou T _ _
 case extract x i=>rw [h x (by simp [Op.operands])];exact Zvn i _
 case call c=>exact Zp5 h
 all_goals rfl
theorem Step.zK {s:Step} {σ':St} {d:Option Nat} (h:s.to σ'):(s.D4 t' d).to (σ'.Bw (Fb t' d (dv σ' d))):=by
 cases s with
 | no=>exact h
 | go c σ1=>obtain ⟨rfl,rfl⟩:=h;exact ⟨rfl,rfl⟩
 | call α m f=>obtain ⟨x,hx,rfl⟩:=h;exact ⟨x,hx,rfl⟩
theorem uM {σ':St} (h:∀ x∈o.op.operands,A8 (σ.Bw t') x=A8 σ x) (hg:IJ E σ o σ'):IJ E (σ.Bw t') o (σ'.Bw (Fb t' o.dst (dv σ' o.dst))):=by
 unfold IJ at *
 split at hg
 ·rename_i c x y ho
  obtain ⟨t,gs,hc,rfl⟩:=hg
  rw [ho] at h
  refine ⟨t,gs,(h c (by simp [Op.operands])).trans hc,?_⟩
  rw [h x (by simp [Op.operands]),h y (by simp [Op.operands])]
  exact (MW _ _ _).symm
 ·rename_i hno
  rw [sH h]
  exact Step.zK hg
theorem Zi {ops:Array Oper} {σ':St} (h:∀ d∈o.looksAt ops,t' d = σ.t d) (hg:Fg E ops o σ σ'):Fg E ops o (σ.Bw t') (σ'.Bw (Fb t' o.dst (dv σ' o.dst))):=by
 have L0:∀ x∈o.op.operands,A8 (σ.Bw t') x=A8 σ x:=fun x hx=>by
  cases x with
  | tmp d=>exact h d (List.mem_append_left _ (List.mem_filterMap.2 ⟨.tmp d,by simpa using hx,rfl⟩))
  | _=>unfold A8;split <;> simp_all
 unfold Fg at *
 split at hg
 ·exact uM L0 hg
 ·rename_i j want hgd
  split at hg
  ·rename_i hs
   subst hg
   exact (MW _ _ _).symm
  ·rename_i s hs
   rw [show (σ.Bw t').t s = σ.t s from h s (List.mem_append_right _ (by rw [hgd];have h':(ops[j]?).bind (fun (o:Oper)=>o.dst)=some s:=hs;simp only [h'];simp))]
   split at hg
   ·subst hg;exact (MW _ _ _).symm
   ·split at hg
    ·rename_i he;subst he;rw [if_pos rfl];exact uM L0 hg
    ·rename_i he;rw [if_neg he];subst hg;exact (MW _ _ _).symm
   ·exact hg
end
end Go.AM
end
