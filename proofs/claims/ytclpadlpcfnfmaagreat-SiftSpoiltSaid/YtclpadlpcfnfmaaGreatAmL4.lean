import Derived.Test.YtclpadlpcfnfmaaGreatAmL3
import Derived.Tactics
import Derived.LoopN
section
/- Guards; regions in the text's order. -/
namespace Go.AM
open Go.RowKit (Below)
set_option linter.unusedSectionVars false
variable [Lay]
section
variable {P : Program} {B : Bd} {ok0 : Nat -> Nat -> Prop} {w0 w w' : World} {g g' : G} {σ σ1 τ : St} {a : Act} {o : Oper} {E : Env} {ops : Array Oper} {R : Type}
def F0 (E:Env) (ops:Array Oper) (o:Oper) (σ σ':St):Prop:=
 match o.guard with
 | none=>Jy E σ o σ'
 | some (j,want)=>match cY ops j with
  | none=>σ' = σ.Ce o.dst .none
  | some s=>match σ.t s with
   | .none=>σ' = σ.Ce o.dst .none
   | .dat .bool b _=>if b=want then Jy E σ o σ' else σ' = σ.Ce o.dst .none
   | _=>False
theorem Zn4 {s:Nat} {x:AV} (h:σ.t s=x):σ.Ce (some s) x = σ:=by
 have:EO σ.t s x = σ.t:=by
  funext i;rw [B5];by_cases hi:i=s
  ·subst hi;rw [if_pos rfl,h]
  ·rw [if_neg hi]
 unfold St.Ce;dsimp only;rw [this]
theorem wH {k:St->Option R} {r:R} (h:eL E ops o σ k=some r):∃ σ',F0 E ops o σ σ'/\k σ'=some r:=by
 unfold eL at h;unfold F0;split at h
 ·rename_i hg;rw [hg];exact gV h
 ·rename_i j want hg;rw [hg];dsimp only;split at h
  ·rename_i hs;rw [hs];exact ⟨_,rfl,h⟩
  ·rename_i s hs;rw [hs];dsimp only;split at h
   ·rename_i hv;rw [hv];exact ⟨_,rfl,h⟩
   ·rename_i b gs hv;rw [hv];dsimp only;cases b <;> cases want <;> dsimp only [cond_true,cond_false] at h <;> rw [Zn4 hv] at h
    ·exact gV h
    ·exact ⟨_,rfl,h⟩
    ·exact ⟨_,rfl,h⟩
    ·exact gV h
   ·cases h
def Yg (E:Env) (ops:Array Oper):List Oper->St->St->Prop
 | [],σ,τ=>τ = σ
 | o :: r,σ,τ=>∃ σ1,F0 E ops o σ σ1/\Yg E ops r σ1 τ
theorem tH:∀ {l:List Oper} {σ:St} {k:St->Option R} {r:R},XZ E ops l σ k=some r->∃ τ,Yg E ops l σ τ/\k τ = some r
 | [],σ,_,_,h=>⟨σ,rfl,h⟩
 | o :: l,σ,k,r,h=>by
  obtain ⟨σ1,h1,h2⟩:=wH (k:=λ σ'=>XZ E ops l σ' k) h;obtain ⟨τ,h3,h4⟩:=tH h2;exact ⟨τ,⟨σ1,h1,h3⟩,h4⟩
theorem Zzu (tmps:Array Value) {j s:Nat} (h:cY ops j=some s):yielded ops tmps j=(match tmps.getD s undef with | .bool b=>some b | _=>none):=by
 unfold yielded;have h':(ops[j]?).bind (λ (o:Oper)=>o.dst)=some s:=h;rw [h',An,Array.getD_eq_getD_getElem?];cases tmps[s]? with
 | none=>rfl
 | some v=>cases v <;> rfl
theorem Zav (tmps:Array Value) {j:Nat} (h:cY ops j=none):yielded ops tmps j=none:=by
 unfold yielded;have h':(ops[j]?).bind (λ (o:Oper)=>o.dst)=none:=h;rw [h'];rfl
theorem F0.cases (hI:Inv B ok0 w0 g σ a w) {σ':St} (h:F0 E ops o σ σ'):
  (Region.wanted o (yielded ops a.tmps)=true/\Jy E σ o σ')\/(Region.wanted o (yielded ops a.tmps)=false/\σ' = σ.Ce o.dst .none):=by
 unfold F0 at h;unfold Region.wanted;split at h
 ·rename_i hg;rw [hg];exact .inl ⟨rfl,h⟩
 ·rename_i j want hg;rw [hg];dsimp only;split at h
  ·rename_i hs;rw [Zav _ hs];exact .inr ⟨rfl,h⟩
  ·rename_i s hs;rw [Zzu _ hs];have hr:=hI.slots s;split at h
   ·rename_i hv;rw [hv] at hr;rw [show a.tmps.getD s undef=undef from hr];exact .inr ⟨rfl,h⟩
   ·rename_i b gs hv;rw [hv] at hr;rw [of_bool hr];dsimp only;split at h
    ·rename_i he;subst he;exact .inl ⟨Ah,h⟩
    ·rename_i he;exact .inr ⟨by simpa using he,h⟩
   ·exact h.elim
theorem F0.wp (hE:EnvOk P E) (hC:Ib P E) (hI:Inv B ok0 w0 g σ a w) (hd:∀ d,o.dst=some d->d<a.tmps.size) {σ':St} (h:F0 E ops o σ σ') {next:Act->World->Prop} {Q:Exit->Act->World->Prop}
  (hn:∀ g' a' w',Inv B ok0 w0 g' σ' a' w'->a'.tmps.size=a.tmps.size->next a' w'):
  if Region.wanted o (yielded ops a.tmps) then o.wp P a w next Q\/(o.asks P a w/\LetsOut Q) else next (a.put o.dst undef) w:=by
 rcases h.cases hI with ⟨hw,h⟩ | ⟨hw,h⟩
 ·rw [hw,if_pos rfl];exact .inl (Yh6 hE hC hI hd h hn)
 ·rw [hw];simp only [Bool.false_eq_true,if_false];subst h;exact hn g _ _ (hI.put (av:= .none) rfl hd) (OR _ _ _)
theorem Yg.wp (hE:EnvOk P E) (hC:Ib P E) {Q:Exit->Act->World->Prop}:∀ {l:List Oper} {σ:St} {g:G} {a:Act} {w:World},Inv B ok0 w0 g σ a w->(∀ o∈l,∀ d,o.dst=some d->d<a.tmps.size)->
  Yg E ops l σ τ->(∀ g' a' w',Inv B ok0 w0 g' τ a' w'->a'.tmps.size=a.tmps.size->Q .normal a' w')->wpList P ops Q l a w
 | [],σ,g,a,w,hI,_,h,hq=>by cases h;exact hq g a w hI rfl
 | o :: l,σ,g,a,w,hI,hd,⟨σ1,h1,h2⟩,hq=>by
  unfold wpList;exact h1.wp hE hC hI (hd o (AI ..)) λ g' a' w' CG hs=>
   Yg.wp hE hC CG (λ o' PC d LL=>by rw [hs];exact hd o' (AP _ PC) d LL) h2 λ g2 a2 w2 F4 QO=>hq g2 a2 w2 F4 (QO.trans hs)
def Ye (n:Nat) (ops:Array Oper):Bool:=ops.toList.all λ o=>match o.dst with | some d=>decide (d<n) | none=>true
def GW (n:Nat):Code->Bool
 | .region _ ops _=>Ye n ops
 | .seq x y=>GW n x && GW n y
 | .cond _ x y=>GW n x && GW n y
 | .block _ c=>GW n c
 | .loop c=>GW n c
 | _=>true
theorem tD {n:Nat} (h:Ye n ops=true):∀ o∈ops.toList,∀ d,o.dst=some d->d<n:=by
 intro o ho d hd;have:=List.all_eq_true.1 h o ho;rw [hd] at this;exact Az this
theorem Zm4 (hE:EnvOk P E) (hC:Ib P E) {Q:Exit->Act->World->Prop} (hI:Inv B ok0 w0 g σ a w) {id:Nat} (hn:Ye a.tmps.size ops=true) {k:St->Option R} {r:R} (h:XZ E ops ops.toList σ k=some r)
  (hq:∀ τ,k τ = some r->∀ g' a' w',Inv B ok0 w0 g' τ a' w'->a'.tmps.size=a.tmps.size->Q .normal a' w'):(Code.region id ops false).wp P Q a w:=by
 obtain ⟨τ,h1,h2⟩:=tH h;exact wp_region_list (h1.wp hE hC hI (tD hn) (hq τ h2))
end
end Go.AM
end

section
/- Code: what the evaluator answers, the machine does. -/
namespace Go.AM
open Go.RowKit (Below)
set_option linter.unusedSectionVars false
variable [Lay]
section
variable {P : Program} {B : Bd} {ok0 : Nat -> Nat -> Prop} {w0 : World} {E : Env} {R : Type} {n : Nat}
def Ex.out:Ex->Exit
 | .normal=> .normal
 | .exit id=> .exit id
 | .ret=> .ret
def KOk (B:Bd) (ok0:Nat->Nat->Prop) (w0:World) (n:Nat) (k:K R) (r:R) (Q:Exit->Act->World->Prop):Prop:=
 ∀ e σ,k e σ = some r->∀ g a w,Inv B ok0 w0 g σ a w->a.tmps.size=n->Q e.out a w
def pS (P:Program) (B:Bd) (ok0:Nat->Nat->Prop) (w0:World) (R:Type) (n:Nat) (dr:Array Oper->St->(St->Option R)->Option R):Prop:=
 ∀ ops σ k r id Q g a w,Ye n ops=true->dr ops σ k=some r->Inv B ok0 w0 g σ a w->a.tmps.size=n->
  (∀ τ,k τ = some r->∀ g' a' w',Inv B ok0 w0 g' τ a' w'->a'.tmps.size=n->Q .normal a' w')->(Code.region id ops true).wp P Q a w
def Job.code:Job->Code
 | .loop c=>c
 | .tail c=>c
def JWp (P:Program) (m:Nat) (Q:Exit->Act->World->Prop) (a:Act) (w:World):Job->Prop
 | .loop c=>Code.rounds P c Q m a w
 | .tail c=>c.wp P Q a w
def Zbo (P:Program) (B:Bd) (ok0:Nat->Nat->Prop) (w0:World) (R:Type) (n m:Nat) (jb:Job->Nat->St->K R->Option R):Prop:=
 ∀ j b σ k r Q g a w,GW n j.code=true->jb j b σ k=some r->KOk B ok0 w0 n k r Q->Inv B ok0 w0 g σ a w->a.tmps.size=n->JWp P m Q a w j
theorem lW (hE:EnvOk P E) (hC:Ib P E) {m:Nat} {jb:Job->Nat->St->K R->Option R} (hj:Zbo P B ok0 w0 R n m jb)
  {dr:Array Oper->St->(St->Option R)->Option R} (KN:pS P B ok0 w0 R n dr):∀ (c:Code) (b:Nat) (σ:St) (k:K R) (r:R) (Q:Exit->Act->World->Prop) (g:G) (a:Act) (w:World),
  GW n c=true->KL E jb dr c b σ k=some r->KOk B ok0 w0 n k r Q->Inv B ok0 w0 g σ a w->a.tmps.size=n->c.wp P Q a w:=by
 intro c;induction c with
 | skip=>intro b σ k r Q g a w _ h hk hI hs;exact wp_skip (hk .normal σ h g a w hI hs)
 | region id ops d=>
  intro b σ k r Q g a w hn h hk hI hs;cases d with
  | false=>exact Zm4 hE hC hI (by rw [hs];exact hn) h λ τ hτ g' a' w' CG E3=>hk .normal τ hτ g' a' w' CG (E3.trans hs)
  | true=>exact KN ops σ _ r id Q g a w hn h hI hs λ τ hτ g' a' w' CG E3=>hk .normal τ hτ g' a' w' CG E3
 | seq x y qG qH=>
  intro b σ k r Q g a w hn h hk hI hs;have JL:GW n x=true:=by have:=hn;simp only [GW,Bool.and_eq_true] at this;exact this.1
  have ft:GW n y=true:=by have:=hn;simp only [GW,Bool.and_eq_true] at this;exact this.2
  refine wp_seq (qG b σ _ r _ g a w JL h ?_ hI hs);intro e σ' he g' a' w' CG E3;cases e with
  | normal=>
   dsimp only [pt] at he;split at he
   ·rename_i kp eQ;obtain ⟨g2,F4⟩:=CG.norm kp;exact hj (.tail y) b _ k r Q g2 a' w' ft he hk F4 E3
   ·exact qH b σ' k r Q g' a' w' ft he hk CG E3
  | exit id=>exact hk (.exit id) σ' he g' a' w' CG E3
  | ret=>exact hk .ret σ' he g' a' w' CG E3
 | cond c x y qG qH=>
  intro b σ k r Q g a w hn h hk hI hs;have JL:GW n x=true:=by have:=hn;simp only [GW,Bool.and_eq_true] at this;exact this.1
  have ft:GW n y=true:=by have:=hn;simp only [GW,Bool.and_eq_true] at this;exact this.2
  unfold KL at h;split at h
  ·rename_i t gs hc;refine wp_cond (iM hI hc) ?_;cases t with
   | true=>exact qG b σ k r Q g a w JL h hk hI hs
   | false=>exact qH b σ k r Q g a w ft h hk hI hs
  ·cases h
 | block id c ih=>
  intro b σ k r Q g a w hn h hk hI hs;refine wp_block (ih id σ _ r _ g a w hn h ?_ hI hs);intro e σ' he g' a' w' CG E3;cases e with
  | normal=>exact hk .normal σ' he g' a' w' CG E3
  | exit id'=>
   dsimp only [BA] at he;show (if id'=id then Q .normal a' w' else Q (.exit id') a' w');split at he
   ·rename_i hid;rw [if_pos hid];exact hk .normal σ' he g' a' w' CG E3
   ·rename_i hid;rw [if_neg hid];exact hk (.exit id') σ' he g' a' w' CG E3
  | ret=>exact hk .ret σ' he g' a' w' CG E3
 | loop c _=>
  intro b σ k r Q g a w hn h hk hI hs;obtain ⟨g2,F4⟩:=hI.norm (E.loop b);exact wp_loop_rounds m (hj (.loop c) b _ k r Q g2 a w hn h hk F4 hs)
 | exit id=>
  intro b σ k r Q g a w hn h hk hI hs;unfold KL at h;split at h
  ·rename_i kp eQ;obtain ⟨g2,F4⟩:=hI.norm kp;exact wp_exit (hk (.exit id) _ h g2 a w F4 hs)
  ·exact wp_exit (hk (.exit id) _ h g a w hI hs)
 | ret=>
  intro b σ k r Q g a w hn h hk hI hs;obtain ⟨g2,F4⟩:=hI.norm E.ret;exact wp_ret (hk .ret _ h g2 a w F4 hs)
 | _=>intro b σ k r Q g a w hn h;cases h
theorem Zdh (hE:EnvOk P E) (hC:Ib P E) {dr:Array Oper->St->(St->Option R)->Option R} (KN:pS P B ok0 w0 R n dr):∀ m,Zbo P B ok0 w0 R n m (Mj E dr m)
 | 0=>λ _ _ _ _ _ _ _ _ _ _ h=>by cases h
 | m+1=>by
  have ih:=Zdh hE hC KN m;intro j b σ k r Q g a w hn h hk hI hs;cases j with
  | tail c=>exact lW hE hC ih KN c b σ k r Q g a w hn h hk hI hs
  | loop c=>
   show c.wp P (Exit.then (Code.rounds P c Q m) Q) a w;refine lW hE hC ih KN c b σ _ r _ g a w hn h ?_ hI hs;intro e σ' he g' a' w' CG E3;cases e with
   | normal=>
    obtain ⟨g2,F4⟩:=CG.norm (E.loop b);exact ih (.loop c) b _ k r Q g2 a' w' hn he hk F4 E3
   | exit id=>exact hk (.exit id) σ' he g' a' w' CG E3
   | ret=>exact hk .ret σ' he g' a' w' CG E3
end
end Go.AM
end

section
/- Operations look at slots by their operands alone. -/
namespace Go.AM
open Go.RowKit (Below)
set_option linter.unusedSectionVars false
variable [Lay]
def St.BU (σ:St) (t:Nat->AV):St:={ σ with t:=t }
def FU (t:Nat->AV) (d:Option Nat) (a:AV):Nat->AV:=match d with | some d=>EO t d a | none=>t
def dv (σ:St) (d:Option Nat):AV:=match d with | some d=>σ.t d | none=> .undef
def Step.EE (t':Nat->AV) (d:Option Nat):Step->Step
 | .no=> .no
 | .go c σ=> .go c (σ.BU (FU t' d (dv σ d)))
 | .call α m f=> .call α m λ x=>(f x).BU (FU t' d (dv (f x) d))
section
variable {E : Env} {o : Oper} {σ : St} {t' : Nat -> AV}
theorem Z5 {α:Type} (f:Nat->α) (k:Nat) (a:α):EO f k a k=a:=by rw [B5,if_pos rfl]
theorem N6 (ρ:St) (d:Option Nat) (a:AV):(ρ.BU t').Ce d a=(ρ.Ce d a).BU (FU t' d (dv (ρ.Ce d a) d)):=by
 cases d with
 | none=>rfl
 | some d=>
  show St.mk (EO t' d a) _ _ _=St.mk (EO t' d (EO ρ.t d a d)) _ _ _;rw [Z5];rfl
theorem Nl (c:Bool) (ρ:St) (d:Option Nat) (a:AV):Step.go c ((ρ.BU t').Ce d a)=(Step.go c (ρ.Ce d a)).EE t' d:=by
 rw [N6];rfl
theorem Ff {c:Bool} {s s':Step} {d:Option Nat} (h:s'=s.EE t' d):(bif c then Step.no else s')=(bif c then Step.no else s).EE t' d:=by
 cases c
 ·exact h
 ·rfl
theorem OU (a:AV):put o (σ.BU t') a=(put o σ a).EE t' o.dst:=Nl _ _ _ _
theorem Ygz (c:Bool) (a:AV):Fx o c (σ.BU t') a=(Fx o c σ a).EE t' o.dst:=Nl _ _ _ _
section
variable {t : Nat -> AV} {c : Nat -> Option Con} {v r : Nat -> Nat}
theorem Kd (a:AV):put o ⟨t',c,v,r⟩ a=(put o ⟨t,c,v,r⟩ a).EE t' o.dst:=OU (σ:=⟨t,c,v,r⟩) a
theorem Ke (b:Bool) (a:AV):Fx o b ⟨t',c,v,r⟩ a=(Fx o b ⟨t,c,v,r⟩ a).EE t' o.dst:=Ygz (σ:=⟨t,c,v,r⟩) b a
theorem EW (b:Bool) (d:Option Nat) (id:Nat) (k:Con) (a:AV):Step.go b ((St.Dq ⟨t',c,v,r⟩ id k).Ce d a)=(Step.go b ((St.Dq ⟨t,c,v,r⟩ id k).Ce d a)).EE t' d:=
 Nl (t':=t') b (St.Dq ⟨t,c,v,r⟩ id k) d a
theorem E8 (b:Bool) (d:Option Nat) (id:Nat) (k:Con) (a:AV):Step.go b ((St.C3 ⟨t',c,v,r⟩ id k).Ce d a)=(Step.go b ((St.C3 ⟨t,c,v,r⟩ id k).Ce d a)).EE t' d:=
 Nl (t':=t') b (St.C3 ⟨t,c,v,r⟩ id k) d a
theorem J4 (b:Bool) (d:Option Nat) (id:Nat) (a:AV):Step.go b ((St.C8 ⟨t',c,v,r⟩ id).Ce d a)=(Step.go b ((St.C8 ⟨t,c,v,r⟩ id).Ce d a)).EE t' d:=
 Nl (t':=t') b (St.C8 ⟨t,c,v,r⟩ id) d a
end
theorem Ysf (T:Nat) (a:AV):Pd E T o (σ.BU t') a=(Pd E T o σ a).EE t' o.dst:=by
 obtain ⟨t,c,v,r⟩:=σ;show Pd E T o ⟨t',c,v,r⟩ a=_;unfold Pd Rj UH
 try dsimp only
 ((repeat' split) <;> first | rfl | exact Kd _ | exact Ke _ _ | exact EW _ _ _ _ _ | exact E8 _ _ _ _ _ | exact J4 _ _ _ _ | exact Ff (EW _ _ _ _ _) | exact Ff (E8 _ _ _ _ _) | (simp_all;done))
theorem Zh4 (T:Nat) (a x:AV):Rq E T o (σ.BU t') a x=(Rq E T o σ a x).EE t' o.dst:=by
 obtain ⟨t,c,v,r⟩:=σ;show Rq E T o ⟨t',c,v,r⟩ a x=_;unfold Rq
 try dsimp only
 ((repeat' split) <;> first | rfl | exact Kd _ | exact Ke _ _ | exact EW _ _ _ _ _ | exact E8 _ _ _ _ _ | exact J4 _ _ _ _ | exact Ff (EW _ _ _ _ _) | exact Ff (E8 _ _ _ _ _) | (simp_all;done))
theorem Zvt (S f:Nat) (x:AV):OL E S f o (σ.BU t') x=(OL E S f o σ x).EE t' o.dst:=by
 obtain ⟨t,c,v,r⟩:=σ;show OL E S f o ⟨t',c,v,r⟩ x=_;unfold OL
 try dsimp only
 ((repeat' split) <;> first | rfl | exact Kd _ | exact Ke _ _ | exact EW _ _ _ _ _ | exact E8 _ _ _ _ _ | exact J4 _ _ _ _ | exact Ff (EW _ _ _ _ _) | exact Ff (E8 _ _ _ _ _) | (simp_all;done))
theorem Zk4 (S f:Nat) (x:AV):Ro E S f o (σ.BU t') x=(Ro E S f o σ x).EE t' o.dst:=by
 obtain ⟨t,c,v,r⟩:=σ;show Ro E S f o ⟨t',c,v,r⟩ x=_;unfold Ro
 try dsimp only
 ((repeat' split) <;> first | rfl | exact Kd _ | exact Ke _ _ | exact EW _ _ _ _ _ | exact E8 _ _ _ _ _ | exact J4 _ _ _ _ | exact Ff (EW _ _ _ _ _) | exact Ff (E8 _ _ _ _ _) | (simp_all;done))
theorem Zzw (i:Nat) (x:AV):Rc i o (σ.BU t') x=(Rc i o σ x).EE t' o.dst:=by
 obtain ⟨t,c,v,r⟩:=σ;show Rc i o ⟨t',c,v,r⟩ x=_;unfold Rc
 try dsimp only
 ((repeat' split) <;> first | rfl | exact Kd _ | exact Ke _ _ | exact EW _ _ _ _ _ | exact E8 _ _ _ _ _ | exact J4 _ _ _ _ | exact Ff (EW _ _ _ _ _) | exact Ff (E8 _ _ _ _ _) | (simp_all;done))
theorem Zwt (T:Nat) (x i:AV):OM E T o (σ.BU t') x i=(OM E T o σ x i).EE t' o.dst:=by
 obtain ⟨t,c,v,r⟩:=σ;show OM E T o ⟨t',c,v,r⟩ x i=_;unfold OM
 try dsimp only
 ((repeat' split) <;> first | rfl | exact Kd _ | exact Ke _ _ | exact EW _ _ _ _ _ | exact E8 _ _ _ _ _ | exact J4 _ _ _ _ | exact Ff (EW _ _ _ _ _) | exact Ff (E8 _ _ _ _ _) | (simp_all;done))
theorem Zl4 (T:Nat) (x i:AV):Rp E T o (σ.BU t') x i=(Rp E T o σ x i).EE t' o.dst:=by
 obtain ⟨t,c,v,r⟩:=σ;show Rp E T o ⟨t',c,v,r⟩ x i=_;unfold Rp
 try dsimp only
 ((repeat' split) <;> first | rfl | exact Kd _ | exact Ke _ _ | exact EW _ _ _ _ _ | exact E8 _ _ _ _ _ | exact J4 _ _ _ _ | exact Ff (EW _ _ _ _ _) | exact Ff (E8 _ _ _ _ _) | (simp_all;done))
theorem Zg4 (T:Nat):Rr E T o (σ.BU t')=(Rr E T o σ).EE t' o.dst:=by
 obtain ⟨t,c,v,r⟩:=σ;show Rr E T o ⟨t',c,v,r⟩=_;unfold Rr
 try dsimp only
 ((repeat' split) <;> first | rfl | exact Kd _ | exact Ke _ _ | exact EW _ _ _ _ _ | exact E8 _ _ _ _ _ | exact J4 _ _ _ _ | exact Ff (EW _ _ _ _ _) | exact Ff (E8 _ _ _ _ _) | (simp_all;done))
theorem Yfz (T:Nat) (x:AV):RQ E T o (σ.BU t') x=(RQ E T o σ x).EE t' o.dst:=by
 obtain ⟨t,c,v,r⟩:=σ;show RQ E T o ⟨t',c,v,r⟩ x=_;unfold RQ cX
 try dsimp only
 ((repeat' split) <;> first | rfl | exact Kd _ | exact Ke _ _ | exact EW _ _ _ _ _ | exact E8 _ _ _ _ _ | exact J4 _ _ _ _ | exact Ff (EW _ _ _ _ _) | exact Ff (E8 _ _ _ _ _) | (simp_all;done))
theorem Z7 (t t':Nat->AV) (c:Nat->Option Con) (v r:Nat->Nat):content ⟨t',c,v,r⟩=content ⟨t,c,v,r⟩:=by
 funext e x;cases x <;> rfl
theorem wX (t t':Nat->AV) (c:Nat->Option Con) (v r:Nat->Nat) (d sz:Nat):∀ g:List Tag,L1 ⟨t',c,v,r⟩ d sz g=L1 ⟨t,c,v,r⟩ d sz g
 | []=>rfl
 | x :: g=>by unfold L1;rw [wX t t' c v r d sz g]
theorem Za0 (T U:Nat) (s x:AV):KX E T U o (σ.BU t') s x=(KX E T U o σ s x).EE t' o.dst:=by
 obtain ⟨t,c,v,r⟩:=σ;show KX E T U o ⟨t',c,v,r⟩ s x=_;unfold KX;simp only [Z7 t t' c v r,wX t t' c v r]
 ((repeat' split) <;> first | rfl | exact Kd _ | exact Ke _ _ | exact EW _ _ _ _ _ | exact E8 _ _ _ _ _ | exact J4 _ _ _ _ | exact Ff (EW _ _ _ _ _) | exact Ff (E8 _ _ _ _ _) | (simp_all;done))
theorem Zxw (T U id ver:Nat) (x:AV):P7 E T U o (σ.BU t') id ver x=(P7 E T U o σ id ver x).EE t' o.dst:=by
 obtain ⟨t,c,v,r⟩:=σ;show P7 E T U o ⟨t',c,v,r⟩ id ver x=_;unfold P7 UI;simp only [Z7 t t' c v r]
 ((repeat' split) <;> first | rfl | exact Kd _ | exact Ke _ _ | exact EW _ _ _ _ _ | exact E8 _ _ _ _ _ | exact J4 _ _ _ _ | exact Ff (EW _ _ _ _ _) | exact Ff (E8 _ _ _ _ _) | (simp_all;done))
theorem wY (t t':Nat->AV) (c:Nat->Option Con) (v r:Nat->Nat):partOf ⟨t',c,v,r⟩=partOf ⟨t,c,v,r⟩:=by
 funext x;cases x <;> rfl
theorem Zf4 (T:Nat) (s:AV):Qg E T o (σ.BU t') s=(Qg E T o σ s).EE t' o.dst:=by
 obtain ⟨t,c,v,r⟩:=σ;show Qg E T o ⟨t',c,v,r⟩ s=_;unfold Qg;simp only [wY t t' c v r]
 ((repeat' split) <;> first | rfl | exact EW _ _ _ _ _ | (simp_all;done))
theorem Yrf (T U:Nat) (s x:AV):Qn E T U o (σ.BU t') s x=(Qn E T U o σ s x).EE t' o.dst:=by
 obtain ⟨t,c,v,r⟩:=σ;show Qn E T U o ⟨t',c,v,r⟩ s x=_;unfold Qn UI;simp only [wY t t' c v r,Z7 t t' c v r]
 ((repeat' split) <;> first | rfl | exact EW _ _ _ _ _ | (simp_all;done))
theorem wV {c:Bool} (x:AV):Nr E o (σ.BU t') c x=(Nr E o σ c x).EE t' o.dst:=by
 unfold Nr;split
 ·rename_i d hd;cases E.bx d && c with
  | true=>
   dsimp only [cond];split
   ·exact Nl _ (σ.C3 _ _) _ _
   ·rfl
  | false=>exact OU _
 ·exact OU _
theorem Zyw (src dst:Nat) (x:AV):MA E src dst o (σ.BU t') x=(MA E src dst o σ x).EE t' o.dst:=by
 obtain ⟨t,c,v,r⟩:=σ;show MA E src dst o ⟨t',c,v,r⟩ x=_;unfold MA;simp only [Z7 t t' c v r]
 ((repeat' split) <;> first | rfl | exact Kd _ | exact Ke _ _ | exact EW _ _ _ _ _ | exact E8 _ _ _ _ _ | exact J4 _ _ _ _ | exact Ff (EW _ _ _ _ _) | exact Ff (E8 _ _ _ _ _) | (simp_all;done))
theorem Zb0 (op:BinOp) (k j:IntKind) (a b:Int):OX op o (σ.BU t') k j a b=(OX op o σ k j a b).EE t' o.dst:=by
 obtain ⟨t,c,v,r⟩:=σ;show OX op o ⟨t',c,v,r⟩ k j a b=_;unfold OX
 ((repeat' split) <;> first | rfl | exact Kd _ | exact Ke _ _ | exact EW _ _ _ _ _ | exact E8 _ _ _ _ _ | exact J4 _ _ _ _ | exact Ff (EW _ _ _ _ _) | exact Ff (E8 _ _ _ _ _) | (simp_all;done))
theorem Zc0 (op:BinOp) (a b:ByteArray):OY op o (σ.BU t') a b=(OY op o σ a b).EE t' o.dst:=by
 obtain ⟨t,c,v,r⟩:=σ;show OY op o ⟨t',c,v,r⟩ a b=_;unfold OY
 ((repeat' split) <;> first | rfl | exact Kd _ | exact Ke _ _ | exact EW _ _ _ _ _ | exact E8 _ _ _ _ _ | exact J4 _ _ _ _ | exact Ff (EW _ _ _ _ _) | exact Ff (E8 _ _ _ _ _) | (simp_all;done))
theorem Zi4 (T:Nat) (op:BinOp) (x y:AV):Qe E T op o (σ.BU t') x y=(Qe E T op o σ x y).EE t' o.dst:=by
 unfold Qe;split
 ·split
  ·exact Zb0 _ _ _ _ _
  ·exact Zc0 _ _ _
  ·split
   ·split
    ·split
     ·exact OU _
     ·exact OU _
     ·rfl
    ·rfl
   ·rfl
 ·rfl
theorem Ytf (op:UnOp) (x:AV):RC op o (σ.BU t') x=(RC op o σ x).EE t' o.dst:=by
 obtain ⟨t,c,v,r⟩:=σ;show RC op o ⟨t',c,v,r⟩ x=_;unfold RC
 ((repeat' split) <;> first | rfl | exact Kd _ | exact Ke _ _ | exact EW _ _ _ _ _ | exact E8 _ _ _ _ _ | exact J4 _ _ _ _ | exact Ff (EW _ _ _ _ _) | exact Ff (E8 _ _ _ _ _) | (simp_all;done))
theorem Yez (T:Option Ty) (x:AV):KE T o (σ.BU t') x=(KE T o σ x).EE t' o.dst:=by
 obtain ⟨t,c,v,r⟩:=σ;show KE T o ⟨t',c,v,r⟩ x=_;unfold KE
 try dsimp only
 ((repeat' split) <;> first | rfl | exact Kd _ | exact Ke _ _ | exact EW _ _ _ _ _ | exact E8 _ _ _ _ _ | exact J4 _ _ _ _ | exact Ff (EW _ _ _ _ _) | exact Ff (E8 _ _ _ _ _) | (simp_all;done))
theorem tG (f:Int->Int->Int) (xs:List AV):N8 f o (σ.BU t') xs=(N8 f o σ xs).EE t' o.dst:=by
 unfold N8;split
 ·split
  ·exact OU _
  ·rfl
 ·rfl
theorem yQ {x:Option Operand} (d:Int) (h:∀ y,x=some y->Bm (σ.BU t') y=Bm σ y):GH (σ.BU t') d x=GH σ d x:=by
 cases x with
 | none=>rfl
 | some y=>unfold GH;dsimp only;rw [h y rfl]
theorem Zj4 (T:Nat) (x:AV) (lo hi:Option Operand) (h1:∀ y,lo=some y->Bm (σ.BU t') y=Bm σ y) (h2:∀ y,hi=some y->Bm (σ.BU t') y=Bm σ y):
  Qf E T o (σ.BU t') x lo hi=(Qf E T o σ x lo hi).EE t' o.dst:=by
 unfold Qf;simp only [yQ _ h1,yQ _ h2];obtain ⟨t,c,v,r⟩:=σ;simp only [show St.BU ⟨t,c,v,r⟩ t'=⟨t',c,v,r⟩ from rfl]
 ((repeat' split) <;> first | rfl | exact Kd _ | exact Ke _ _ | exact EW _ _ _ _ _ | exact E8 _ _ _ _ _ | exact J4 _ _ _ _ | exact Ff (EW _ _ _ _ _) | exact Ff (E8 _ _ _ _ _) | (simp_all;done))
theorem uL (T:Nat):∀ (ps:List (Nat×Operand)) (t:Ty) (z:t.D) (g:List Tag),(∀ p∈ps,Bm (σ.BU t') p.2=Bm σ p.2)->L0 E T (σ.BU t') t ps z g=L0 E T σ t ps z g
 | [],t,z,g,_=>rfl
 | (f,x) :: ps,t,z,g,h=>by
  have ih:=λ z g=>uL T ps t z g λ p hp=>h p (AP _ hp)
  unfold L0;rw [show Bm (σ.BU t') x=Bm σ x from h (f,x) (AI ..)];simp only [ih]
theorem yR (e:Ty):∀ (ps:List (Nat×Operand)) (i:Nat),(∀ p∈ps,Bm (σ.BU t') p.2=Bm σ p.2)->Om (σ.BU t') e i ps=Om σ e i ps
 | [],_,_=>rfl
 | (j,x) :: ps,i,h=>by
  unfold Om;rw [show Bm (σ.BU t') x=Bm σ x from h (j,x) (AI ..),yR e ps (i+1) λ p hp=>h p (AP _ hp)]
theorem Zys (T n:Nat) (ps:Array (Nat×Operand)) (h:∀ p∈ps.toList,Bm (σ.BU t') p.2=Bm σ p.2):Q3 E T n ps o (σ.BU t')=(Q3 E T n ps o σ).EE t' o.dst:=by
 unfold Q3;split
 ·rename_i d e _ _;rw [yR _ _ _ h];split
  ·split
   ·cases E.lit d with
    | true=>exact Nl _ _ _ _
    | false=>exact Nl _ (σ.C8 _) _ _
   ·rfl
  ·rfl
 ·rfl
theorem Zut (T:Nat) (x y:Operand) (hx:Bm (σ.BU t') x=Bm σ x) (hy:Bm (σ.BU t') y=Bm σ y):Sr E T o (σ.BU t') x y=(Sr E T o σ x y).EE t' o.dst:=by
 unfold Sr;rw [hx,hy];split
 ·rename_i d e k n g1 j m g2 hd hT hn hm;split
  ·exact Nl _ (σ.C3 _ _) _ _
  ·split
   ·cases E.bx d with
    | true=>exact Nl _ (σ.C3 _ _) _ _
    | false=>exact Nl _ (σ.C8 _) _ _
   ·rfl
 ·rfl
theorem Yhz (T:Nat) (m:Bool) (x:AV):Mc E T m (σ.BU t') x=(Mc E T m σ x).map λ p=>(p.1,p.2.BU t'):=by
 obtain ⟨t,c,v,r⟩:=σ;show Mc E T m ⟨t',c,v,r⟩ x=_;cases m with
 | false=>
  unfold Mc;simp only [Al]
  try dsimp only
  (repeat' split) <;> first | rfl | (simp_all;done)
 | true=>
  unfold Mc;simp only [Ak]
  try dsimp only
  (repeat' split) <;> first | rfl | (simp_all;done)
theorem Xae {T:Nat} {m:Bool} {x a:AV} {σ1:St} (h:Mc E T m σ x=some (a,σ1)):σ1.t = σ.t:=by
 cases m with
 | false=>
  unfold Mc at h;simp only [Al] at h
  (repeat' split at h) <;> first | (cases h;rfl) | cases h
 | true=>
  unfold Mc at h;simp only [Ak] at h
  (repeat' split at h) <;> first | (cases h;rfl) | cases h
theorem Gz {σ ρ:St} (h:σ.t = ρ.t) (x:Operand):Bm σ x=Bm ρ x:=by
 cases x <;> first | rfl | (unfold Bm;rw [h])
 
theorem jt:∀ (ms:List Bool) (ps:List (Operand×Nat)) (σ:St),(∀ p∈ps,Bm (σ.BU t') p.1=Bm σ p.1)->KA E ms ps (σ.BU t')=(KA E ms ps σ).map λ p=>(p.1,p.2.BU t')
 | _,[],σ,_=>by unfold KA;rfl
 | ms,(x,T) :: ps,σ,h=>by
  unfold KA;rw [show Bm (σ.BU t') x=Bm σ x from h (x,T) (AI ..),Yhz];cases ha:Mc E T (ms.headD false) σ (Bm σ x) with
  | none=>rfl
  | some p=>
   obtain ⟨a,σ1⟩:=p;simp only [Option.map_some];have ht:=Xae ha
   rw [jt ms.tail ps σ1 λ p hp=>by
    rw [show Bm (σ1.BU t') p.1=Bm (σ.BU t') p.1 from Gz (σ:=σ1.BU t') (ρ:=σ.BU t') rfl _,h p (AP _ hp)];exact (Gz ht _).symm]
   cases KA E ms.tail ps σ1 with
   | none=>rfl
   | some q=>rfl
theorem Yiz (x:AV):Dr (σ.BU t') x=(Dr σ x).map λ p=>(p.1,p.2.BU t'):=by
 obtain ⟨t,c,v,r⟩:=σ;show Dr ⟨t',c,v,r⟩ x=_;unfold Dr
 try dsimp only
 (repeat' split) <;> first | rfl | (simp_all;done)
theorem Zzn {x:AV} {a:Dat} {σ1:St} (h:Dr σ x=some (a,σ1)):σ1.t = σ.t:=by
 unfold Dr at h
 (repeat' split at h) <;> first | (cases h;rfl) | cases h
theorem wW:∀ (ps:List Operand) (σ:St),(∀ p∈ps,Bm (σ.BU t') p=Bm σ p)->Np ps (σ.BU t')=(Np ps σ).map λ p=>(p.1,p.2.BU t')
 | [],σ,_=>rfl
 | x :: ps,σ,h=>by
  unfold Np;rw [show Bm (σ.BU t') x=Bm σ x from h x (AI ..),Yiz];cases ha:Dr σ (Bm σ x) with
  | none=>rfl
  | some p=>
   obtain ⟨a,σ1⟩:=p;simp only [Option.map_some];have ht:=Zzn ha
   rw [wW ps σ1 λ p hp=>by
    rw [show Bm (σ1.BU t') p=Bm (σ.BU t') p from Gz (σ:=σ1.BU t') (ρ:=σ.BU t') rfl _,h p (AP _ hp)];exact (Gz ht _).symm]
   cases Np ps σ1 with
   | none=>rfl
   | some q=>rfl
theorem uM:∀ (ps:List Operand),(∀ p∈ps,Bm (σ.BU t') p=Bm σ p)->Qo (σ.BU t') ps=Qo σ ps
 | [],_=>rfl
 | x :: ps,h=>by
  unfold Qo;rw [show Bm (σ.BU t') x=Bm σ x from h x (AI ..),uM ps λ p hp=>h p (AP _ hp)];rfl
theorem wU:∀ (ps:List (Nat×Nat)),QC (σ.BU t') ps=QC σ ps
 | []=>rfl
 | (id,ver) :: ps=>by
  unfold QC;rw [wU ps];rfl
theorem gU:∀ (ids:List Nat),KY (σ.BU t') ids=KY σ ids
 | []=>rfl
 | id :: ids=>by
  unfold KY;rw [gU ids];rfl
theorem Ss:∀ (ids:List Nat) (ds:List Con) (σ:St),Ic ids ds (σ.BU t')=(Ic ids ds σ).BU t'
 | [],_,_=>rfl
 | _ :: _,[],_=>rfl
 | id :: ids,d :: ds,σ=>Ss ids ds (σ.Dq id d)
theorem iL:∀ (hs:List Nat) (σ:St),EC hs (σ.BU t')=(EC hs σ).BU t'
 | [],_=>rfl
 | h :: hs,σ=>iL hs (σ.C8 h)
theorem gT:∀ (ms:List Bool) (xs:List Operand),(∀ x∈xs,Bm (σ.BU t') x=Bm σ x)->Gw (σ.BU t') ms xs=Gw σ ms xs
 | _,[],_=>by unfold Gw;rfl
 | ms,x :: xs,h=>by
  unfold Gw;rw [h x (AI ..),gT ms.tail xs λ y hy=>h y (AP _ hy)]
end
end Go.AM
end

section
/- Operations look at slots by their operands alone: all of them. -/
namespace Go.AM
open Go.RowKit (Below)
set_option linter.unusedSectionVars false
variable [Lay]
section
variable {E : Env} {o : Oper} {σ : St} {t' : Nat -> AV}
theorem WL (d:Nat):∀ (g:List Tag) (j:Nat) (σ:St),Lw d g j (σ.BU t')=((Lw d g j σ).1,(Lw d g j σ).2.1,(Lw d g j σ).2.2.BU t')
 | [],_,_=>rfl
 | x :: g,j,σ=>by
  unfold Lw;split
  ·simp only [WL d g j σ]
  ·have:=WL d g (j+1) (σ.C8 (CK d j));simp only [show (σ.BU t').C8 (CK d j)=(σ.C8 (CK d j)).BU t' from rfl,this];rfl
theorem wS (d:Nat):∀ (ds:List Dat) (j:Nat) (σ:St),Pk d ds j (σ.BU t')=((Pk d ds j σ).1,(Pk d ds j σ).2.1,(Pk d ds j σ).2.2.BU t')
 | [],_,_=>rfl
 | x :: ds,j,σ=>by
  unfold Pk;simp only [WL d x.g j σ,wS d ds _ (Lw d x.g j σ).2.2]
theorem WM (d:Nat):∀ (ds:List Con) (j:Nat) (σ:St),Lc d ds j (σ.BU t')=((Lc d ds j σ).1,(Lc d ds j σ).2.1,(Lc d ds j σ).2.2.BU t')
 | [],_,_=>rfl
 | .var t x g :: ds,j,σ=>by
  unfold Lc;simp only [WL d g j σ,WM d ds _ (Lw d g j σ).2.2]
 | .arr e l f :: ds,j,σ=>by
  unfold Lc;simp only [WM d ds j σ]
 | .val v :: ds,j,σ=>by
  unfold Lc;simp only [WM d ds j σ]
theorem yO (ids:List Nat) (a:AV) (EG:List Con):imp o ids (σ.BU t') a EG=(imp o ids σ a EG).BU (FU t' o.dst (dv (imp o ids σ a EG) o.dst)):=by
 unfold imp;cases hd:o.dst with
 | none=>exact Ss _ _ _
 | some d=>
  dsimp only;split
  ·simp only [WL,WM,Ss];exact N6 _ _ _
  ·simp only [wS,WM,Ss];exact N6 _ _ _
  ·simp only [Ss];exact N6 (ρ:=(Ic ids (EG.map SY) σ).C3 d _) _ _
  ·simp only [Ss];split
   ·exact N6 _ _ _
   ·exact N6 _ _ _
  ·rw [Ss];exact N6 _ _ _
theorem Ze4 (T:Nat) (op:BinOp) (x:AV):Qm E T op o (σ.BU t') x=(Qm E T op o σ x).EE t' o.dst:=by
 unfold Qm;split
 ·split
  ·exact OU _
  ·exact OU _
  ·rfl
 ·rfl
theorem wT (b:Bool) (σ σ1:St):KF b (σ.BU t') (σ1.BU t')=(KF b σ σ1).BU t':=by cases b <;> rfl
theorem Yqf {c:Call} (h:∀ x∈c.operands,Bm (σ.BU t') x=Bm σ x):Nq E c o (σ.BU t')=(Nq E c o σ).EE t' o.dst:=by
 have C7:∀ x∈c.args.toList,Bm (σ.BU t') x=Bm σ x:=λ x hx=>h x (by unfold Call.operands;exact Array.mem_append.2 (.inr (Array.mem_toList_iff.1 hx)))
 have VC:∀ xs:List Operand,(∀ x∈xs,Bm (σ.BU t') x=Bm σ x)->xs.map (Bm (σ.BU t'))=xs.map (Bm σ):=λ xs hx=>List.map_congr_left hx
 unfold Nq;split
 ·rename_i b hb;split
  ·rename_i x T ha Il;rw [C7 x (by rw [ha];exact AI ..)];exact Yez _ _
  ·rename_i s x T U ha Il;rw [C7 x (by rw [ha];simp),C7 s (by rw [ha];simp)];split
   ·exact Zxw _ _ _ _ _
   ·exact Za0 _ _ _ _
  ·rename_i x T ha Il;rw [C7 x (by rw [ha];exact AI ..)];exact Zf4 _ _
  ·rename_i s x T U ha Il;rw [C7 x (by rw [ha];simp),C7 s (by rw [ha];simp)];exact Yrf _ _ _ _
  ·rw [VC _ C7];exact tG _ _
  ·rw [VC _ C7];exact tG _ _
  ·rfl
 ·rename_i f hf;rw [h f (by unfold Call.operands;rw [hf];exact Array.mem_append.2 (.inl Ah))];split
  ·rename_i fn ds OD;split
   ·rename_i s hs;split
    ·rename_i hlen;rw [jt _ _ _ λ p hp=>C7 p.1 (List.of_mem_zip hp).1];cases ha:KA E (E.inpl fn) (c.args.toList.zip c.argTypes.toList) σ with
     | none=>rfl
     | some q=>
      obtain ⟨l,σ1⟩:=q;simp only [Option.map_some];split
      ·rename_i r hr;rw [gT _ _ C7,wT,gU];cases KY (KF (E.lend fn) σ σ1) (Gw σ (E.inpl fn) c.args.toList) && (Kh (Gq (EF l (Jb ds))) && (!E.lend fn || ((Gq (EF l (Jb ds))).isEmpty && !Ld (EF l (Jb ds))))) with
       | false=>rfl
       | true=>
        dsimp only [cond];unfold Step.EE;simp only [iL,yO]
      ·rfl
    ·rfl
   ·rfl
  ·rename_i fn ps OD;split
   ·rename_i s hs;split
    ·rename_i hlen;rw [jt _ _ _ λ p hp=>C7 p.1 (List.of_mem_zip hp).1,wU];cases ha:KA E (E.inpl fn) (c.args.toList.zip c.argTypes.toList) σ with
     | none=>rfl
     | some q=>
      obtain ⟨l,σ1⟩:=q;cases Mn:QC σ ps with
      | none=>rfl
      | some cs=>
       simp only [Option.map_some];split
       ·rename_i r hr;rw [gT _ _ C7,wT,gU];cases KY (KF (E.lend fn) σ σ1) (Gw σ (E.inpl fn) c.args.toList++ps.map (·.1)) && (Kh (Gq (EF l cs)) && (!E.lend fn || ((Gq (EF l cs)).isEmpty && !Ld (EF l cs)))) with
        | false=>rfl
        | true=>
         dsimp only [cond];unfold Step.EE;simp only [iL,yO]
       ·rfl
    ·rfl
   ·rfl
  ·rfl
 ·rfl
theorem wM (h:∀ x∈o.op.operands,Bm (σ.BU t') x=Bm σ x):EP E (σ.BU t') o=(EP E σ o).EE t' o.dst:=by
 unfold EP;cases ho:o.op <;> rw [ho] at h <;> (try dsimp only)
 case move x=>rw [h x (by simp [Op.operands])];exact wV _
 case assign x=>rw [h x (by simp [Op.operands])];exact wV _
 case alloc T=>exact Zg4 T
 case box T x=>rw [h x (by simp [Op.operands])];exact Yfz T _
 case build T ps=>
  split
  ·split
   ·rw [uL T ps.toList _ _ _ λ p hp=>h p.2 (by simp only [Op.operands,List.mem_toArray,List.mem_map];exact ⟨p,hp,rfl⟩)];split
    ·exact OU _
    ·rfl
   ·rfl
  ·rfl
 case buildSlice T n ps=>exact Zys T n ps λ p hp=>h p.2 (by simp only [Op.operands,List.mem_toArray,List.mem_map];exact ⟨p,hp,rfl⟩)
 case load T x=>rw [h x (by simp [Op.operands])];exact Ysf T _
 case store T x y=>rw [h x (by simp [Op.operands]),h y (by simp [Op.operands])];exact Zh4 T _ _
 case nilCheck x=>
  rw [h x (by simp [Op.operands])];obtain ⟨t,c,v,r⟩:=σ;simp only [show St.BU ⟨t,c,v,r⟩ t'=⟨t',c,v,r⟩ from rfl]
  ((repeat' split) <;> first | rfl | exact Kd _ | exact Ke _ _ | exact EW _ _ _ _ _ | exact E8 _ _ _ _ _ | exact J4 _ _ _ _ | (simp_all;done))
 case binOp op T x y U=>
  rw [h x (by simp [Op.operands]),h y (by simp [Op.operands])];cases UU y with
  | true=>exact Ze4 T op _
  | false=>exact Zi4 T op _ _
 case unOp op T x=>rw [h x (by simp [Op.operands])];exact Ytf op _
 case convert s d x=>rw [h x (by simp [Op.operands])];exact Zyw s d _
 case makeFunc fn p q=>
  cases fn with
  | func f=>
   dsimp only;split
   ·have hq:∀ x∈q.toList,Bm (σ.BU t') x=Bm σ x:=λ x hx=>h x (by simp only [Op.operands];exact Array.mem_append.2 (.inr (Array.mem_toList_iff.1 hx)))
    cases IC E o.dst with
    | true=>
     dsimp only [cond];rw [uM q.toList hq];cases Qo σ q.toList with
     | none=>rfl
     | some z=>exact OU _
    | false=>
     dsimp only [cond];rw [wW q.toList σ hq];cases Np q.toList σ with
     | none=>rfl
     | some z=>exact Nl _ _ _ _
   ·rfl
  | _=>rfl
 case makeSlice T x y=>exact Zut T x y (h x (by simp [Op.operands])) (h y (by simp [Op.operands]))
 case slice T x lo hi mx=>
  cases mx with
  | none=>
   dsimp only;rw [h x (by simp [Op.operands])];exact Zj4 T _ lo hi (λ y hy=>h y (by simp [Op.operands,hy])) (λ y hy=>h y (by simp [Op.operands,hy]))
  | some m=>rfl
 case fieldAddr S x f=>rw [h x (by simp [Op.operands])];exact Zvt S f _
 case field S x f=>rw [h x (by simp [Op.operands])];exact Zk4 S f _
 case indexAddr T x i=>rw [h x (by simp [Op.operands]),h i (by simp [Op.operands])];exact Zwt T _ _
 case index T x i=>rw [h x (by simp [Op.operands]),h i (by simp [Op.operands])];exact Zl4 T _ _
 case extract x i=>rw [h x (by simp [Op.operands])];exact Zzw i _
 case call c=>exact Yqf h
 all_goals rfl
theorem Step.Zeh {s:Step} {σ':St} {d:Option Nat} (h:s.to σ'):(s.EE t' d).to (σ'.BU (FU t' d (dv σ' d))):=by
 cases s with
 | no=>exact h
 | go c σ1=>obtain ⟨rfl,rfl⟩:=h;exact ⟨rfl,rfl⟩
 | call α m f=>obtain ⟨x,hx,rfl⟩:=h;exact ⟨x,hx,rfl⟩
theorem yP {σ':St} (h:∀ x∈o.op.operands,Bm (σ.BU t') x=Bm σ x) (hg:Jy E σ o σ'):Jy E (σ.BU t') o (σ'.BU (FU t' o.dst (dv σ' o.dst))):=by
 unfold Jy at *;split at hg
 ·rename_i c x y ho;obtain ⟨t,gs,hc,rfl⟩:=hg;rw [ho] at h;refine ⟨t,gs,(h c (by simp [Op.operands])).trans hc,?_⟩;rw [h x (by simp [Op.operands]),h y (by simp [Op.operands])];exact (N6 _ _ _).symm
 ·rename_i Kj;rw [wM h];exact Step.Zeh hg
theorem aX {ops:Array Oper} {σ':St} (h:∀ d∈o.looksAt ops,t' d = σ.t d) (hg:F0 E ops o σ σ'):F0 E ops o (σ.BU t') (σ'.BU (FU t' o.dst (dv σ' o.dst))):=by
 have MZ:∀ x∈o.op.operands,Bm (σ.BU t') x=Bm σ x:=λ x hx=>by
  cases x with
  | tmp d=>exact h d (List.mem_append_left _ (List.mem_filterMap.2 ⟨.tmp d,by simpa using hx,rfl⟩))
  | _=>unfold Bm;split <;> simp_all
 unfold F0 at *;split at hg
 ·exact yP MZ hg
 ·rename_i j want hgd;split at hg
  ·rename_i hs;subst hg;exact (N6 _ _ _).symm
  ·rename_i s hs;rw [show (σ.BU t').t s = σ.t s from h s (List.mem_append_right _ (by rw [hgd];have h':(ops[j]?).bind (λ (o:Oper)=>o.dst)=some s:=hs;simp only [h'];simp))];split at hg
   ·subst hg;exact (N6 _ _ _).symm
   ·split at hg
    ·rename_i he;subst he;rw [if_pos rfl];exact yP MZ hg
    ·rename_i he;rw [if_neg he];subst hg;exact (N6 _ _ _).symm
   ·exact hg
end
end Go.AM
end
