import Derived.Test.YtclpadlpcfnfmaaGreatAmL3
import Derived.Tactics
import Derived.LoopN
section
/- Guards; regions in the text's order. -/
namespace Go.AM
open Go.RowKit (Below)
set_option linter.unusedSectionVars false
variable [Lay]
section
variable {P : Program} {B : Bd} {ok0 : Nat -> Nat -> Prop} {w0 w w' : World} {g g' : G} {σ σ1 τ : St} {a : Act} {o : Oper} {E : Env} {ops : Array Oper} {R : Type}
def F0 (E:Env) (ops:Array Oper) (o:Oper) (σ σ':St):Prop:=
 match o.guard with
 | none=>Jy E σ o σ'
 | some (j,want)=>match c7 ops j with
  | none=>σ' = σ.Ce o.dst .none
  | some s=>match σ.t s with
   | .none=>σ' = σ.Ce o.dst .none
   | .dat .bool b _=>if b=want then Jy E σ o σ' else σ' = σ.Ce o.dst .none
   | _=>False
theorem Zm4 {s:Nat} {x:AV} (h:σ.t s=x):σ.Ce (some s) x = σ:=by
 have:EO σ.t s x = σ.t:=by
  funext i;rw [B5];by_cases hi:i=s
  ·subst hi;rw [if_pos rfl,h]
  ·rw [if_neg hi]
 unfold St.Ce;dsimp only;rw [this]
theorem wH {k:St->Option R} {r:R} (h:eM E ops o σ k=some r):∃ σ',F0 E ops o σ σ'/\k σ'=some r:=by
 unfold eM at h;unfold F0;split at h
 ·rename_i hg;rw [hg];exact gW h
 ·rename_i j want hg;rw [hg];dsimp only;split at h
  ·rename_i hs;rw [hs];exact ⟨_,rfl,h⟩
  ·rename_i s hs;rw [hs];dsimp only;split at h
   ·rename_i hv;rw [hv];exact ⟨_,rfl,h⟩
   ·rename_i b gs hv;rw [hv];dsimp only;cases b <;> cases want <;> dsimp only [cond_true,cond_false] at h <;> rw [Zm4 hv] at h
    ·exact gW h
    ·exact ⟨_,rfl,h⟩
    ·exact ⟨_,rfl,h⟩
    ·exact gW h
   ·cases h
def Yj (E:Env) (ops:Array Oper):List Oper->St->St->Prop
 | [],σ,τ=>τ = σ
 | o :: r,σ,τ=>∃ σ1,F0 E ops o σ σ1/\Yj E ops r σ1 τ
theorem tK:∀ {l:List Oper} {σ:St} {k:St->Option R} {r:R},X2 E ops l σ k=some r->∃ τ,Yj E ops l σ τ/\k τ = some r
 | [],σ,_,_,h=>⟨σ,rfl,h⟩
 | o :: l,σ,k,r,h=>by
  obtain ⟨σ1,h1,h2⟩:=wH (k:=λ σ'=>X2 E ops l σ' k) h;obtain ⟨τ,h3,h4⟩:=tK h2;exact ⟨τ,⟨σ1,h1,h3⟩,h4⟩
theorem Zyu (tmps:Array Value) {j s:Nat} (h:c7 ops j=some s):yielded ops tmps j=(match tmps.getD s undef with | .bool b=>some b | _=>none):=by
 unfold yielded;have h':(ops[j]?).bind (λ (o:Oper)=>o.dst)=some s:=h;rw [h',An,Array.getD_eq_getD_getElem?];cases tmps[s]? with
 | none=>rfl
 | some v=>cases v <;> rfl
theorem Zzu (tmps:Array Value) {j:Nat} (h:c7 ops j=none):yielded ops tmps j=none:=by
 unfold yielded;have h':(ops[j]?).bind (λ (o:Oper)=>o.dst)=none:=h;rw [h'];rfl
theorem F0.cases (hI:Inv B ok0 w0 g σ a w) {σ':St} (h:F0 E ops o σ σ'):
  (Region.wanted o (yielded ops a.tmps)=true/\Jy E σ o σ')\/(Region.wanted o (yielded ops a.tmps)=false/\σ' = σ.Ce o.dst .none):=by
 unfold F0 at h;unfold Region.wanted;split at h
 ·rename_i hg;rw [hg];exact .inl ⟨rfl,h⟩
 ·rename_i j want hg;rw [hg];dsimp only;split at h
  ·rename_i hs;rw [Zzu _ hs];exact .inr ⟨rfl,h⟩
  ·rename_i s hs;rw [Zyu _ hs];have hr:=hI.slots s;split at h
   ·rename_i hv;rw [hv] at hr;rw [show a.tmps.getD s undef=undef from hr];exact .inr ⟨rfl,h⟩
   ·rename_i b gs hv;rw [hv] at hr;rw [of_bool hr];dsimp only;split at h
    ·rename_i he;subst he;exact .inl ⟨Ah,h⟩
    ·rename_i he;exact .inr ⟨by simpa using he,h⟩
   ·exact h.elim
theorem F0.wp (hE:EnvOk P E) (hC:Ib P E) (hI:Inv B ok0 w0 g σ a w) (hd:∀ d,o.dst=some d->d<a.tmps.size) {σ':St} (h:F0 E ops o σ σ') {next:Act->World->Prop} {Q:Exit->Act->World->Prop}
  (hn:∀ g' a' w',Inv B ok0 w0 g' σ' a' w'->a'.tmps.size=a.tmps.size->next a' w'):
  if Region.wanted o (yielded ops a.tmps) then o.wp P a w next Q\/(o.asks P a w/\LetsOut Q) else next (a.put o.dst undef) w:=by
 rcases h.cases hI with ⟨hw,h⟩ | ⟨hw,h⟩
 ·rw [hw,if_pos rfl];exact .inl (Yg6 hE hC hI hd h hn)
 ·rw [hw];simp only [Bool.false_eq_true,if_false];subst h;exact hn g _ _ (hI.put (av:= .none) rfl hd) (OR _ _ _)
theorem Yj.wp (hE:EnvOk P E) (hC:Ib P E) {Q:Exit->Act->World->Prop}:∀ {l:List Oper} {σ:St} {g:G} {a:Act} {w:World},Inv B ok0 w0 g σ a w->(∀ o∈l,∀ d,o.dst=some d->d<a.tmps.size)->
  Yj E ops l σ τ->(∀ g' a' w',Inv B ok0 w0 g' τ a' w'->a'.tmps.size=a.tmps.size->Q .normal a' w')->wpList P ops Q l a w
 | [],σ,g,a,w,hI,_,h,hq=>by cases h;exact hq g a w hI rfl
 | o :: l,σ,g,a,w,hI,hd,⟨σ1,h1,h2⟩,hq=>by
  unfold wpList;exact h1.wp hE hC hI (hd o (AI ..)) λ g' a' w' CG hs=>
   Yj.wp hE hC CG (λ o' PC d LM=>by rw [hs];exact hd o' (AP _ PC) d LM) h2 λ g2 a2 w2 F4 QO=>hq g2 a2 w2 F4 (QO.trans hs)
def Yh (n:Nat) (ops:Array Oper):Bool:=ops.toList.all λ o=>match o.dst with | some d=>decide (d<n) | none=>true
def GW (n:Nat):Code->Bool
 | .region _ ops _=>Yh n ops
 | .seq x y=>GW n x && GW n y
 | .cond _ x y=>GW n x && GW n y
 | .block _ c=>GW n c
 | .loop c=>GW n c
 | _=>true
theorem tG {n:Nat} (h:Yh n ops=true):∀ o∈ops.toList,∀ d,o.dst=some d->d<n:=by
 intro o ho d hd;have:=List.all_eq_true.1 h o ho;rw [hd] at this;exact Aw this
theorem Zl4 (hE:EnvOk P E) (hC:Ib P E) {Q:Exit->Act->World->Prop} (hI:Inv B ok0 w0 g σ a w) {id:Nat} (hn:Yh a.tmps.size ops=true) {k:St->Option R} {r:R} (h:X2 E ops ops.toList σ k=some r)
  (hq:∀ τ,k τ = some r->∀ g' a' w',Inv B ok0 w0 g' τ a' w'->a'.tmps.size=a.tmps.size->Q .normal a' w'):(Code.region id ops false).wp P Q a w:=by
 obtain ⟨τ,h1,h2⟩:=tK h;exact wp_region_list (h1.wp hE hC hI (tG hn) (hq τ h2))
end
end Go.AM
end

section
/- Code: what the evaluator answers, the machine does. -/
namespace Go.AM
open Go.RowKit (Below)
set_option linter.unusedSectionVars false
variable [Lay]
section
variable {P : Program} {B : Bd} {ok0 : Nat -> Nat -> Prop} {w0 : World} {E : Env} {R : Type} {n : Nat}
def Ex.out:Ex->Exit
 | .normal=> .normal
 | .exit id=> .exit id
 | .ret=> .ret
def KOk (B:Bd) (ok0:Nat->Nat->Prop) (w0:World) (n:Nat) (k:K R) (r:R) (Q:Exit->Act->World->Prop):Prop:=
 ∀ e σ,k e σ = some r->∀ g a w,Inv B ok0 w0 g σ a w->a.tmps.size=n->Q e.out a w
def pT (P:Program) (B:Bd) (ok0:Nat->Nat->Prop) (w0:World) (R:Type) (n:Nat) (dr:Array Oper->St->(St->Option R)->Option R):Prop:=
 ∀ ops σ k r id Q g a w,Yh n ops=true->dr ops σ k=some r->Inv B ok0 w0 g σ a w->a.tmps.size=n->
  (∀ τ,k τ = some r->∀ g' a' w',Inv B ok0 w0 g' τ a' w'->a'.tmps.size=n->Q .normal a' w')->(Code.region id ops true).wp P Q a w
def Job.code:Job->Code
 | .loop c=>c
 | .tail c=>c
def JWp (P:Program) (m:Nat) (Q:Exit->Act->World->Prop) (a:Act) (w:World):Job->Prop
 | .loop c=>Code.rounds P c Q m a w
 | .tail c=>c.wp P Q a w
def Zao (P:Program) (B:Bd) (ok0:Nat->Nat->Prop) (w0:World) (R:Type) (n m:Nat) (jb:Job->Nat->St->K R->Option R):Prop:=
 ∀ j b σ k r Q g a w,GW n j.code=true->jb j b σ k=some r->KOk B ok0 w0 n k r Q->Inv B ok0 w0 g σ a w->a.tmps.size=n->JWp P m Q a w j
theorem lX (hE:EnvOk P E) (hC:Ib P E) {m:Nat} {jb:Job->Nat->St->K R->Option R} (hj:Zao P B ok0 w0 R n m jb)
  {dr:Array Oper->St->(St->Option R)->Option R} (KO:pT P B ok0 w0 R n dr):∀ (c:Code) (b:Nat) (σ:St) (k:K R) (r:R) (Q:Exit->Act->World->Prop) (g:G) (a:Act) (w:World),
  GW n c=true->KM E jb dr c b σ k=some r->KOk B ok0 w0 n k r Q->Inv B ok0 w0 g σ a w->a.tmps.size=n->c.wp P Q a w:=by
 intro c;induction c with
 | skip=>intro b σ k r Q g a w _ h hk hI hs;exact wp_skip (hk .normal σ h g a w hI hs)
 | region id ops d=>
  intro b σ k r Q g a w hn h hk hI hs;cases d with
  | false=>exact Zl4 hE hC hI (by rw [hs];exact hn) h λ τ hτ g' a' w' CG E3=>hk .normal τ hτ g' a' w' CG (E3.trans hs)
  | true=>exact KO ops σ _ r id Q g a w hn h hI hs λ τ hτ g' a' w' CG E3=>hk .normal τ hτ g' a' w' CG E3
 | seq x y qI qJ=>
  intro b σ k r Q g a w hn h hk hI hs;have JM:GW n x=true:=by have:=hn;simp only [GW,Bool.and_eq_true] at this;exact this.1
  have fv:GW n y=true:=by have:=hn;simp only [GW,Bool.and_eq_true] at this;exact this.2
  refine wp_seq (qI b σ _ r _ g a w JM h ?_ hI hs);intro e σ' he g' a' w' CG E3;cases e with
  | normal=>
   dsimp only [pv] at he;split at he
   ·rename_i kp eR;obtain ⟨g2,F4⟩:=CG.norm kp;exact hj (.tail y) b _ k r Q g2 a' w' fv he hk F4 E3
   ·exact qJ b σ' k r Q g' a' w' fv he hk CG E3
  | exit id=>exact hk (.exit id) σ' he g' a' w' CG E3
  | ret=>exact hk .ret σ' he g' a' w' CG E3
 | cond c x y qI qJ=>
  intro b σ k r Q g a w hn h hk hI hs;have JM:GW n x=true:=by have:=hn;simp only [GW,Bool.and_eq_true] at this;exact this.1
  have fv:GW n y=true:=by have:=hn;simp only [GW,Bool.and_eq_true] at this;exact this.2
  unfold KM at h;split at h
  ·rename_i t gs hc;refine wp_cond (iN hI hc) ?_;cases t with
   | true=>exact qI b σ k r Q g a w JM h hk hI hs
   | false=>exact qJ b σ k r Q g a w fv h hk hI hs
  ·cases h
 | block id c ih=>
  intro b σ k r Q g a w hn h hk hI hs;refine wp_block (ih id σ _ r _ g a w hn h ?_ hI hs);intro e σ' he g' a' w' CG E3;cases e with
  | normal=>exact hk .normal σ' he g' a' w' CG E3
  | exit id'=>
   dsimp only [BA] at he;show (if id'=id then Q .normal a' w' else Q (.exit id') a' w');split at he
   ·rename_i hid;rw [if_pos hid];exact hk .normal σ' he g' a' w' CG E3
   ·rename_i hid;rw [if_neg hid];exact hk (.exit id') σ' he g' a' w' CG E3
  | ret=>exact hk .ret σ' he g' a' w' CG E3
 | loop c _=>
  intro b σ k r Q g a w hn h hk hI hs;obtain ⟨g2,F4⟩:=hI.norm (E.loop b);exact wp_loop_rounds m (hj (.loop c) b _ k r Q g2 a w hn h hk F4 hs)
 | exit id=>
  intro b σ k r Q g a w hn h hk hI hs;unfold KM at h;split at h
  ·rename_i kp eR;obtain ⟨g2,F4⟩:=hI.norm kp;exact wp_exit (hk (.exit id) _ h g2 a w F4 hs)
  ·exact wp_exit (hk (.exit id) _ h g a w hI hs)
 | ret=>
  intro b σ k r Q g a w hn h hk hI hs;obtain ⟨g2,F4⟩:=hI.norm E.ret;exact wp_ret (hk .ret _ h g2 a w F4 hs)
 | _=>intro b σ k r Q g a w hn h;cases h
theorem Zch (hE:EnvOk P E) (hC:Ib P E) {dr:Array Oper->St->(St->Option R)->Option R} (KO:pT P B ok0 w0 R n dr):∀ m,Zao P B ok0 w0 R n m (Ml E dr m)
 | 0=>λ _ _ _ _ _ _ _ _ _ _ h=>by cases h
 | m+1=>by
  have ih:=Zch hE hC KO m;intro j b σ k r Q g a w hn h hk hI hs;cases j with
  | tail c=>exact lX hE hC ih KO c b σ k r Q g a w hn h hk hI hs
  | loop c=>
   show c.wp P (Exit.then (Code.rounds P c Q m) Q) a w;refine lX hE hC ih KO c b σ _ r _ g a w hn h ?_ hI hs;intro e σ' he g' a' w' CG E3;cases e with
   | normal=>
    obtain ⟨g2,F4⟩:=CG.norm (E.loop b);exact ih (.loop c) b _ k r Q g2 a' w' hn he hk F4 E3
   | exit id=>exact hk (.exit id) σ' he g' a' w' CG E3
   | ret=>exact hk .ret σ' he g' a' w' CG E3
end
end Go.AM
end

section
/- Operations look at slots by their operands alone. -/
namespace Go.AM
open Go.RowKit (Below)
set_option linter.unusedSectionVars false
variable [Lay]
def St.BU (σ:St) (t:Nat->AV):St:={ σ with t:=t }
def FU (t:Nat->AV) (d:Option Nat) (a:AV):Nat->AV:=match d with | some d=>EO t d a | none=>t
def dv (σ:St) (d:Option Nat):AV:=match d with | some d=>σ.t d | none=> .undef
def Step.EE (t':Nat->AV) (d:Option Nat):Step->Step
 | .no=> .no
 | .go c σ=> .go c (σ.BU (FU t' d (dv σ d)))
 | .call α m f=> .call α m λ x=>(f x).BU (FU t' d (dv (f x) d))
section
variable {E : Env} {o : Oper} {σ : St} {t' : Nat -> AV}
theorem Z7 {α:Type} (f:Nat->α) (k:Nat) (a:α):EO f k a k=a:=by rw [B5,if_pos rfl]
theorem N7 (ρ:St) (d:Option Nat) (a:AV):(ρ.BU t').Ce d a=(ρ.Ce d a).BU (FU t' d (dv (ρ.Ce d a) d)):=by
 cases d with
 | none=>rfl
 | some d=>
  show St.mk (EO t' d a) _ _ _=St.mk (EO t' d (EO ρ.t d a d)) _ _ _;rw [Z7];rfl
theorem Nn (c:Bool) (ρ:St) (d:Option Nat) (a:AV):Step.go c ((ρ.BU t').Ce d a)=(Step.go c (ρ.Ce d a)).EE t' d:=by
 rw [N7];rfl
theorem Fg {c:Bool} {s s':Step} {d:Option Nat} (h:s'=s.EE t' d):(bif c then Step.no else s')=(bif c then Step.no else s).EE t' d:=by
 cases c
 ·exact h
 ·rfl
theorem OU (a:AV):put o (σ.BU t') a=(put o σ a).EE t' o.dst:=Nn _ _ _ _
theorem Yfz (c:Bool) (a:AV):Fy o c (σ.BU t') a=(Fy o c σ a).EE t' o.dst:=Nn _ _ _ _
section
variable {t : Nat -> AV} {c : Nat -> Option Con} {v r : Nat -> Nat}
theorem Kf (a:AV):put o ⟨t',c,v,r⟩ a=(put o ⟨t,c,v,r⟩ a).EE t' o.dst:=OU (σ:=⟨t,c,v,r⟩) a
theorem Kg (b:Bool) (a:AV):Fy o b ⟨t',c,v,r⟩ a=(Fy o b ⟨t,c,v,r⟩ a).EE t' o.dst:=Yfz (σ:=⟨t,c,v,r⟩) b a
theorem EW (b:Bool) (d:Option Nat) (id:Nat) (k:Con) (a:AV):Step.go b ((St.Dq ⟨t',c,v,r⟩ id k).Ce d a)=(Step.go b ((St.Dq ⟨t,c,v,r⟩ id k).Ce d a)).EE t' d:=
 Nn (t':=t') b (St.Dq ⟨t,c,v,r⟩ id k) d a
theorem E8 (b:Bool) (d:Option Nat) (id:Nat) (k:Con) (a:AV):Step.go b ((St.C3 ⟨t',c,v,r⟩ id k).Ce d a)=(Step.go b ((St.C3 ⟨t,c,v,r⟩ id k).Ce d a)).EE t' d:=
 Nn (t':=t') b (St.C3 ⟨t,c,v,r⟩ id k) d a
theorem J6 (b:Bool) (d:Option Nat) (id:Nat) (a:AV):Step.go b ((St.C8 ⟨t',c,v,r⟩ id).Ce d a)=(Step.go b ((St.C8 ⟨t,c,v,r⟩ id).Ce d a)).EE t' d:=
 Nn (t':=t') b (St.C8 ⟨t,c,v,r⟩ id) d a
end
theorem Yrf (T:Nat) (a:AV):Pd E T o (σ.BU t') a=(Pd E T o σ a).EE t' o.dst:=by
 obtain ⟨t,c,v,r⟩:=σ;show Pd E T o ⟨t',c,v,r⟩ a=_;unfold Pd Rj UH
 try dsimp only
 ((repeat' split) <;> first | rfl | exact Kf _ | exact Kg _ _ | exact EW _ _ _ _ _ | exact E8 _ _ _ _ _ | exact J6 _ _ _ _ | exact Fg (EW _ _ _ _ _) | exact Fg (E8 _ _ _ _ _) | (simp_all;done))
theorem Zg4 (T:Nat) (a x:AV):Rq E T o (σ.BU t') a x=(Rq E T o σ a x).EE t' o.dst:=by
 obtain ⟨t,c,v,r⟩:=σ;show Rq E T o ⟨t',c,v,r⟩ a x=_;unfold Rq
 try dsimp only
 ((repeat' split) <;> first | rfl | exact Kf _ | exact Kg _ _ | exact EW _ _ _ _ _ | exact E8 _ _ _ _ _ | exact J6 _ _ _ _ | exact Fg (EW _ _ _ _ _) | exact Fg (E8 _ _ _ _ _) | (simp_all;done))
theorem Zut (S f:Nat) (x:AV):OL E S f o (σ.BU t') x=(OL E S f o σ x).EE t' o.dst:=by
 obtain ⟨t,c,v,r⟩:=σ;show OL E S f o ⟨t',c,v,r⟩ x=_;unfold OL
 try dsimp only
 ((repeat' split) <;> first | rfl | exact Kf _ | exact Kg _ _ | exact EW _ _ _ _ _ | exact E8 _ _ _ _ _ | exact J6 _ _ _ _ | exact Fg (EW _ _ _ _ _) | exact Fg (E8 _ _ _ _ _) | (simp_all;done))
theorem Zj4 (S f:Nat) (x:AV):Ro E S f o (σ.BU t') x=(Ro E S f o σ x).EE t' o.dst:=by
 obtain ⟨t,c,v,r⟩:=σ;show Ro E S f o ⟨t',c,v,r⟩ x=_;unfold Ro
 try dsimp only
 ((repeat' split) <;> first | rfl | exact Kf _ | exact Kg _ _ | exact EW _ _ _ _ _ | exact E8 _ _ _ _ _ | exact J6 _ _ _ _ | exact Fg (EW _ _ _ _ _) | exact Fg (E8 _ _ _ _ _) | (simp_all;done))
theorem Zyw (i:Nat) (x:AV):Rc i o (σ.BU t') x=(Rc i o σ x).EE t' o.dst:=by
 obtain ⟨t,c,v,r⟩:=σ;show Rc i o ⟨t',c,v,r⟩ x=_;unfold Rc
 try dsimp only
 ((repeat' split) <;> first | rfl | exact Kf _ | exact Kg _ _ | exact EW _ _ _ _ _ | exact E8 _ _ _ _ _ | exact J6 _ _ _ _ | exact Fg (EW _ _ _ _ _) | exact Fg (E8 _ _ _ _ _) | (simp_all;done))
theorem Zvt (T:Nat) (x i:AV):OM E T o (σ.BU t') x i=(OM E T o σ x i).EE t' o.dst:=by
 obtain ⟨t,c,v,r⟩:=σ;show OM E T o ⟨t',c,v,r⟩ x i=_;unfold OM
 try dsimp only
 ((repeat' split) <;> first | rfl | exact Kf _ | exact Kg _ _ | exact EW _ _ _ _ _ | exact E8 _ _ _ _ _ | exact J6 _ _ _ _ | exact Fg (EW _ _ _ _ _) | exact Fg (E8 _ _ _ _ _) | (simp_all;done))
theorem Zk4 (T:Nat) (x i:AV):Rp E T o (σ.BU t') x i=(Rp E T o σ x i).EE t' o.dst:=by
 obtain ⟨t,c,v,r⟩:=σ;show Rp E T o ⟨t',c,v,r⟩ x i=_;unfold Rp
 try dsimp only
 ((repeat' split) <;> first | rfl | exact Kf _ | exact Kg _ _ | exact EW _ _ _ _ _ | exact E8 _ _ _ _ _ | exact J6 _ _ _ _ | exact Fg (EW _ _ _ _ _) | exact Fg (E8 _ _ _ _ _) | (simp_all;done))
theorem Zf4 (T:Nat):Rr E T o (σ.BU t')=(Rr E T o σ).EE t' o.dst:=by
 obtain ⟨t,c,v,r⟩:=σ;show Rr E T o ⟨t',c,v,r⟩=_;unfold Rr
 try dsimp only
 ((repeat' split) <;> first | rfl | exact Kf _ | exact Kg _ _ | exact EW _ _ _ _ _ | exact E8 _ _ _ _ _ | exact J6 _ _ _ _ | exact Fg (EW _ _ _ _ _) | exact Fg (E8 _ _ _ _ _) | (simp_all;done))
theorem Yez (T:Nat) (x:AV):RR E T o (σ.BU t') x=(RR E T o σ x).EE t' o.dst:=by
 obtain ⟨t,c,v,r⟩:=σ;show RR E T o ⟨t',c,v,r⟩ x=_;unfold RR cZ
 try dsimp only
 ((repeat' split) <;> first | rfl | exact Kf _ | exact Kg _ _ | exact EW _ _ _ _ _ | exact E8 _ _ _ _ _ | exact J6 _ _ _ _ | exact Fg (EW _ _ _ _ _) | exact Fg (E8 _ _ _ _ _) | (simp_all;done))
theorem Z9 (t t':Nat->AV) (c:Nat->Option Con) (v r:Nat->Nat):content ⟨t',c,v,r⟩=content ⟨t,c,v,r⟩:=by
 funext e x;cases x <;> rfl
theorem wX (t t':Nat->AV) (c:Nat->Option Con) (v r:Nat->Nat) (d sz:Nat):∀ g:List Tag,L2 ⟨t',c,v,r⟩ d sz g=L2 ⟨t,c,v,r⟩ d sz g
 | []=>rfl
 | x :: g=>by unfold L2;rw [wX t t' c v r d sz g]
theorem Zzz (T U:Nat) (s x:AV):KZ E T U o (σ.BU t') s x=(KZ E T U o σ s x).EE t' o.dst:=by
 obtain ⟨t,c,v,r⟩:=σ;show KZ E T U o ⟨t',c,v,r⟩ s x=_;unfold KZ;simp only [Z9 t t' c v r,wX t t' c v r]
 ((repeat' split) <;> first | rfl | exact Kf _ | exact Kg _ _ | exact EW _ _ _ _ _ | exact E8 _ _ _ _ _ | exact J6 _ _ _ _ | exact Fg (EW _ _ _ _ _) | exact Fg (E8 _ _ _ _ _) | (simp_all;done))
theorem Zww (T U id ver:Nat) (x:AV):P7 E T U o (σ.BU t') id ver x=(P7 E T U o σ id ver x).EE t' o.dst:=by
 obtain ⟨t,c,v,r⟩:=σ;show P7 E T U o ⟨t',c,v,r⟩ id ver x=_;unfold P7 UI;simp only [Z9 t t' c v r]
 ((repeat' split) <;> first | rfl | exact Kf _ | exact Kg _ _ | exact EW _ _ _ _ _ | exact E8 _ _ _ _ _ | exact J6 _ _ _ _ | exact Fg (EW _ _ _ _ _) | exact Fg (E8 _ _ _ _ _) | (simp_all;done))
theorem wY (t t':Nat->AV) (c:Nat->Option Con) (v r:Nat->Nat):partOf ⟨t',c,v,r⟩=partOf ⟨t,c,v,r⟩:=by
 funext x;cases x <;> rfl
theorem Ze4 (T:Nat) (s:AV):Qg E T o (σ.BU t') s=(Qg E T o σ s).EE t' o.dst:=by
 obtain ⟨t,c,v,r⟩:=σ;show Qg E T o ⟨t',c,v,r⟩ s=_;unfold Qg;simp only [wY t t' c v r]
 ((repeat' split) <;> first | rfl | exact EW _ _ _ _ _ | (simp_all;done))
theorem Yqf (T U:Nat) (s x:AV):Qn E T U o (σ.BU t') s x=(Qn E T U o σ s x).EE t' o.dst:=by
 obtain ⟨t,c,v,r⟩:=σ;show Qn E T U o ⟨t',c,v,r⟩ s x=_;unfold Qn UI;simp only [wY t t' c v r,Z9 t t' c v r]
 ((repeat' split) <;> first | rfl | exact EW _ _ _ _ _ | (simp_all;done))
theorem wV {c:Bool} (x:AV):Ns E o (σ.BU t') c x=(Ns E o σ c x).EE t' o.dst:=by
 unfold Ns;split
 ·rename_i d hd;cases E.bx d && c with
  | true=>
   dsimp only [cond];split
   ·exact Nn _ (σ.C3 _ _) _ _
   ·rfl
  | false=>exact OU _
 ·exact OU _
theorem Zxw (src dst:Nat) (x:AV):MA E src dst o (σ.BU t') x=(MA E src dst o σ x).EE t' o.dst:=by
 obtain ⟨t,c,v,r⟩:=σ;show MA E src dst o ⟨t',c,v,r⟩ x=_;unfold MA;simp only [Z9 t t' c v r]
 ((repeat' split) <;> first | rfl | exact Kf _ | exact Kg _ _ | exact EW _ _ _ _ _ | exact E8 _ _ _ _ _ | exact J6 _ _ _ _ | exact Fg (EW _ _ _ _ _) | exact Fg (E8 _ _ _ _ _) | (simp_all;done))
theorem Za0 (op:BinOp) (k j:IntKind) (a b:Int):OX op o (σ.BU t') k j a b=(OX op o σ k j a b).EE t' o.dst:=by
 obtain ⟨t,c,v,r⟩:=σ;show OX op o ⟨t',c,v,r⟩ k j a b=_;unfold OX
 ((repeat' split) <;> first | rfl | exact Kf _ | exact Kg _ _ | exact EW _ _ _ _ _ | exact E8 _ _ _ _ _ | exact J6 _ _ _ _ | exact Fg (EW _ _ _ _ _) | exact Fg (E8 _ _ _ _ _) | (simp_all;done))
theorem Zb0 (op:BinOp) (a b:ByteArray):OY op o (σ.BU t') a b=(OY op o σ a b).EE t' o.dst:=by
 obtain ⟨t,c,v,r⟩:=σ;show OY op o ⟨t',c,v,r⟩ a b=_;unfold OY
 ((repeat' split) <;> first | rfl | exact Kf _ | exact Kg _ _ | exact EW _ _ _ _ _ | exact E8 _ _ _ _ _ | exact J6 _ _ _ _ | exact Fg (EW _ _ _ _ _) | exact Fg (E8 _ _ _ _ _) | (simp_all;done))
theorem Zh4 (T:Nat) (op:BinOp) (x y:AV):Qe E T op o (σ.BU t') x y=(Qe E T op o σ x y).EE t' o.dst:=by
 unfold Qe;split
 ·split
  ·exact Za0 _ _ _ _ _
  ·exact Zb0 _ _ _
  ·split
   ·split
    ·split
     ·exact OU _
     ·exact OU _
     ·rfl
    ·rfl
   ·rfl
 ·rfl
theorem Ysf (op:UnOp) (x:AV):RC op o (σ.BU t') x=(RC op o σ x).EE t' o.dst:=by
 obtain ⟨t,c,v,r⟩:=σ;show RC op o ⟨t',c,v,r⟩ x=_;unfold RC
 ((repeat' split) <;> first | rfl | exact Kf _ | exact Kg _ _ | exact EW _ _ _ _ _ | exact E8 _ _ _ _ _ | exact J6 _ _ _ _ | exact Fg (EW _ _ _ _ _) | exact Fg (E8 _ _ _ _ _) | (simp_all;done))
theorem Ydz (T:Option Ty) (x:AV):KF T o (σ.BU t') x=(KF T o σ x).EE t' o.dst:=by
 obtain ⟨t,c,v,r⟩:=σ;show KF T o ⟨t',c,v,r⟩ x=_;unfold KF
 try dsimp only
 ((repeat' split) <;> first | rfl | exact Kf _ | exact Kg _ _ | exact EW _ _ _ _ _ | exact E8 _ _ _ _ _ | exact J6 _ _ _ _ | exact Fg (EW _ _ _ _ _) | exact Fg (E8 _ _ _ _ _) | (simp_all;done))
theorem tJ (f:Int->Int->Int) (xs:List AV):N9 f o (σ.BU t') xs=(N9 f o σ xs).EE t' o.dst:=by
 unfold N9;split
 ·split
  ·exact OU _
  ·rfl
 ·rfl
theorem yQ {x:Option Operand} (d:Int) (h:∀ y,x=some y->Bm (σ.BU t') y=Bm σ y):GH (σ.BU t') d x=GH σ d x:=by
 cases x with
 | none=>rfl
 | some y=>unfold GH;dsimp only;rw [h y rfl]
theorem Zi4 (T:Nat) (x:AV) (lo hi:Option Operand) (h1:∀ y,lo=some y->Bm (σ.BU t') y=Bm σ y) (h2:∀ y,hi=some y->Bm (σ.BU t') y=Bm σ y):
  Qf E T o (σ.BU t') x lo hi=(Qf E T o σ x lo hi).EE t' o.dst:=by
 unfold Qf;simp only [yQ _ h1,yQ _ h2];obtain ⟨t,c,v,r⟩:=σ;simp only [show St.BU ⟨t,c,v,r⟩ t'=⟨t',c,v,r⟩ from rfl]
 ((repeat' split) <;> first | rfl | exact Kf _ | exact Kg _ _ | exact EW _ _ _ _ _ | exact E8 _ _ _ _ _ | exact J6 _ _ _ _ | exact Fg (EW _ _ _ _ _) | exact Fg (E8 _ _ _ _ _) | (simp_all;done))
theorem uO (T:Nat):∀ (ps:List (Nat×Operand)) (t:Ty) (z:t.D) (g:List Tag),(∀ p∈ps,Bm (σ.BU t') p.2=Bm σ p.2)->L1 E T (σ.BU t') t ps z g=L1 E T σ t ps z g
 | [],t,z,g,_=>rfl
 | (f,x) :: ps,t,z,g,h=>by
  have ih:=λ z g=>uO T ps t z g λ p hp=>h p (AP _ hp)
  unfold L1;rw [show Bm (σ.BU t') x=Bm σ x from h (f,x) (AI ..)];simp only [ih]
theorem yR (e:Ty):∀ (ps:List (Nat×Operand)) (i:Nat),(∀ p∈ps,Bm (σ.BU t') p.2=Bm σ p.2)->On (σ.BU t') e i ps=On σ e i ps
 | [],_,_=>rfl
 | (j,x) :: ps,i,h=>by
  unfold On;rw [show Bm (σ.BU t') x=Bm σ x from h (j,x) (AI ..),yR e ps (i+1) λ p hp=>h p (AP _ hp)]
theorem Zxs (T n:Nat) (ps:Array (Nat×Operand)) (h:∀ p∈ps.toList,Bm (σ.BU t') p.2=Bm σ p.2):Q3 E T n ps o (σ.BU t')=(Q3 E T n ps o σ).EE t' o.dst:=by
 unfold Q3;split
 ·rename_i d e _ _;rw [yR _ _ _ h];split
  ·split
   ·cases E.lit d with
    | true=>exact Nn _ _ _ _
    | false=>exact Nn _ (σ.C8 _) _ _
   ·rfl
  ·rfl
 ·rfl
theorem Ztt (T:Nat) (x y:Operand) (hx:Bm (σ.BU t') x=Bm σ x) (hy:Bm (σ.BU t') y=Bm σ y):Su E T o (σ.BU t') x y=(Su E T o σ x y).EE t' o.dst:=by
 unfold Su;rw [hx,hy];split
 ·rename_i d e k n g1 j m g2 hd hT hn hm;split
  ·exact Nn _ (σ.C3 _ _) _ _
  ·split
   ·cases E.bx d with
    | true=>exact Nn _ (σ.C3 _ _) _ _
    | false=>exact Nn _ (σ.C8 _) _ _
   ·rfl
 ·rfl
theorem Ygz (T:Nat) (m:Bool) (x:AV):Md E T m (σ.BU t') x=(Md E T m σ x).map λ p=>(p.1,p.2.BU t'):=by
 obtain ⟨t,c,v,r⟩:=σ;show Md E T m ⟨t',c,v,r⟩ x=_;cases m with
 | false=>
  unfold Md;simp only [Al]
  try dsimp only
  (repeat' split) <;> first | rfl | (simp_all;done)
 | true=>
  unfold Md;simp only [Ak]
  try dsimp only
  (repeat' split) <;> first | rfl | (simp_all;done)
theorem Xzd {T:Nat} {m:Bool} {x a:AV} {σ1:St} (h:Md E T m σ x=some (a,σ1)):σ1.t = σ.t:=by
 cases m with
 | false=>
  unfold Md at h;simp only [Al] at h
  (repeat' split at h) <;> first | (cases h;rfl) | cases h
 | true=>
  unfold Md at h;simp only [Ak] at h
  (repeat' split at h) <;> first | (cases h;rfl) | cases h
theorem GA {σ ρ:St} (h:σ.t = ρ.t) (x:Operand):Bm σ x=Bm ρ x:=by
 cases x <;> first | rfl | (unfold Bm;rw [h])
 
theorem ju:∀ (ms:List Bool) (ps:List (Operand×Nat)) (σ:St),(∀ p∈ps,Bm (σ.BU t') p.1=Bm σ p.1)->J3 E ms ps (σ.BU t')=(J3 E ms ps σ).map λ p=>(p.1,p.2.BU t')
 | _,[],σ,_=>by unfold J3;rfl
 | ms,(x,T) :: ps,σ,h=>by
  unfold J3;rw [show Bm (σ.BU t') x=Bm σ x from h (x,T) (AI ..),Ygz];cases ha:Md E T (ms.headD false) σ (Bm σ x) with
  | none=>rfl
  | some p=>
   obtain ⟨a,σ1⟩:=p;simp only [Option.map_some];have ht:=Xzd ha
   rw [ju ms.tail ps σ1 λ p hp=>by
    rw [show Bm (σ1.BU t') p.1=Bm (σ.BU t') p.1 from GA (σ:=σ1.BU t') (ρ:=σ.BU t') rfl _,h p (AP _ hp)];exact (GA ht _).symm]
   cases J3 E ms.tail ps σ1 with
   | none=>rfl
   | some q=>rfl
theorem Yhz (x:AV):Dr (σ.BU t') x=(Dr σ x).map λ p=>(p.1,p.2.BU t'):=by
 obtain ⟨t,c,v,r⟩:=σ;show Dr ⟨t',c,v,r⟩ x=_;unfold Dr
 try dsimp only
 (repeat' split) <;> first | rfl | (simp_all;done)
theorem Zyn {x:AV} {a:Dat} {σ1:St} (h:Dr σ x=some (a,σ1)):σ1.t = σ.t:=by
 unfold Dr at h
 (repeat' split at h) <;> first | (cases h;rfl) | cases h
theorem wW:∀ (ps:List Operand) (σ:St),(∀ p∈ps,Bm (σ.BU t') p=Bm σ p)->Nq ps (σ.BU t')=(Nq ps σ).map λ p=>(p.1,p.2.BU t')
 | [],σ,_=>rfl
 | x :: ps,σ,h=>by
  unfold Nq;rw [show Bm (σ.BU t') x=Bm σ x from h x (AI ..),Yhz];cases ha:Dr σ (Bm σ x) with
  | none=>rfl
  | some p=>
   obtain ⟨a,σ1⟩:=p;simp only [Option.map_some];have ht:=Zyn ha
   rw [wW ps σ1 λ p hp=>by
    rw [show Bm (σ1.BU t') p=Bm (σ.BU t') p from GA (σ:=σ1.BU t') (ρ:=σ.BU t') rfl _,h p (AP _ hp)];exact (GA ht _).symm]
   cases Nq ps σ1 with
   | none=>rfl
   | some q=>rfl
theorem uP:∀ (ps:List Operand),(∀ p∈ps,Bm (σ.BU t') p=Bm σ p)->Qo (σ.BU t') ps=Qo σ ps
 | [],_=>rfl
 | x :: ps,h=>by
  unfold Qo;rw [show Bm (σ.BU t') x=Bm σ x from h x (AI ..),uP ps λ p hp=>h p (AP _ hp)];rfl
theorem wU:∀ (ps:List (Nat×Nat)),QC (σ.BU t') ps=QC σ ps
 | []=>rfl
 | (id,ver) :: ps=>by
  unfold QC;rw [wU ps];rfl
theorem gV:∀ (ids:List Nat),K0 (σ.BU t') ids=K0 σ ids
 | []=>rfl
 | id :: ids=>by
  unfold K0;rw [gV ids];rfl
theorem Sv:∀ (ids:List Nat) (ds:List Con) (σ:St),Ic ids ds (σ.BU t')=(Ic ids ds σ).BU t'
 | [],_,_=>rfl
 | _ :: _,[],_=>rfl
 | id :: ids,d :: ds,σ=>Sv ids ds (σ.Dq id d)
theorem iM:∀ (hs:List Nat) (σ:St),Eu hs (σ.BU t')=(Eu hs σ).BU t'
 | [],_=>rfl
 | h :: hs,σ=>iM hs (σ.C8 h)
theorem gU:∀ (ms:List Bool) (xs:List Operand),(∀ x∈xs,Bm (σ.BU t') x=Bm σ x)->Gx (σ.BU t') ms xs=Gx σ ms xs
 | _,[],_=>by unfold Gx;rfl
 | ms,x :: xs,h=>by
  unfold Gx;rw [h x (AI ..),gU ms.tail xs λ y hy=>h y (AP _ hy)]
end
end Go.AM
end

section
/- Operations look at slots by their operands alone: all of them. -/
namespace Go.AM
open Go.RowKit (Below)
set_option linter.unusedSectionVars false
variable [Lay]
section
variable {E : Env} {o : Oper} {σ : St} {t' : Nat -> AV}
theorem WN (d:Nat):∀ (g:List Tag) (j:Nat) (σ:St),Lx d g j (σ.BU t')=((Lx d g j σ).1,(Lx d g j σ).2.1,(Lx d g j σ).2.2.BU t')
 | [],_,_=>rfl
 | x :: g,j,σ=>by
  unfold Lx;split
  ·simp only [WN d g j σ]
  ·have:=WN d g (j+1) (σ.C8 (CK d j));simp only [show (σ.BU t').C8 (CK d j)=(σ.C8 (CK d j)).BU t' from rfl,this];rfl
theorem wS (d:Nat):∀ (ds:List Dat) (j:Nat) (σ:St),Pk d ds j (σ.BU t')=((Pk d ds j σ).1,(Pk d ds j σ).2.1,(Pk d ds j σ).2.2.BU t')
 | [],_,_=>rfl
 | x :: ds,j,σ=>by
  unfold Pk;simp only [WN d x.g j σ,wS d ds _ (Lx d x.g j σ).2.2]
theorem WO (d:Nat):∀ (ds:List Con) (j:Nat) (σ:St),Le d ds j (σ.BU t')=((Le d ds j σ).1,(Le d ds j σ).2.1,(Le d ds j σ).2.2.BU t')
 | [],_,_=>rfl
 | .var t x g :: ds,j,σ=>by
  unfold Le;simp only [WN d g j σ,WO d ds _ (Lx d g j σ).2.2]
 | .arr e l f :: ds,j,σ=>by
  unfold Le;simp only [WO d ds j σ]
 | .val v :: ds,j,σ=>by
  unfold Le;simp only [WO d ds j σ]
theorem yO (ids:List Nat) (a:AV) (EG:List Con):imp o ids (σ.BU t') a EG=(imp o ids σ a EG).BU (FU t' o.dst (dv (imp o ids σ a EG) o.dst)):=by
 unfold imp;cases hd:o.dst with
 | none=>exact Sv _ _ _
 | some d=>
  dsimp only;split
  ·simp only [WN,WO,Sv];exact N7 _ _ _
  ·simp only [wS,WO,Sv];exact N7 _ _ _
  ·simp only [Sv];exact N7 (ρ:=(Ic ids (EG.map S7) σ).C3 d _) _ _
  ·simp only [Sv];split
   ·exact N7 _ _ _
   ·exact N7 _ _ _
  ·rw [Sv];exact N7 _ _ _
theorem Zd4 (T:Nat) (op:BinOp) (x:AV):Qm E T op o (σ.BU t') x=(Qm E T op o σ x).EE t' o.dst:=by
 unfold Qm;split
 ·split
  ·exact OU _
  ·exact OU _
  ·rfl
 ·rfl
theorem wT (b:Bool) (σ σ1:St):KG b (σ.BU t') (σ1.BU t')=(KG b σ σ1).BU t':=by cases b <;> rfl
theorem Ypf {c:Call} (h:∀ x∈c.operands,Bm (σ.BU t') x=Bm σ x):Nr E c o (σ.BU t')=(Nr E c o σ).EE t' o.dst:=by
 have C7:∀ x∈c.args.toList,Bm (σ.BU t') x=Bm σ x:=λ x hx=>h x (by unfold Call.operands;exact Array.mem_append.2 (.inr (Array.mem_toList_iff.1 hx)))
 have VC:∀ xs:List Operand,(∀ x∈xs,Bm (σ.BU t') x=Bm σ x)->xs.map (Bm (σ.BU t'))=xs.map (Bm σ):=λ xs hx=>List.map_congr_left hx
 unfold Nr;split
 ·rename_i b hb;split
  ·rename_i x T ha Il;rw [C7 x (by rw [ha];exact AI ..)];exact Ydz _ _
  ·rename_i s x T U ha Il;rw [C7 x (by rw [ha];simp),C7 s (by rw [ha];simp)];split
   ·exact Zww _ _ _ _ _
   ·exact Zzz _ _ _ _
  ·rename_i x T ha Il;rw [C7 x (by rw [ha];exact AI ..)];exact Ze4 _ _
  ·rename_i s x T U ha Il;rw [C7 x (by rw [ha];simp),C7 s (by rw [ha];simp)];exact Yqf _ _ _ _
  ·rw [VC _ C7];exact tJ _ _
  ·rw [VC _ C7];exact tJ _ _
  ·rfl
 ·rename_i f hf;rw [h f (by unfold Call.operands;rw [hf];exact Array.mem_append.2 (.inl Ah))];split
  ·rename_i fn ds OD;split
   ·rename_i s hs;split
    ·rename_i hlen;rw [ju _ _ _ λ p hp=>C7 p.1 (List.of_mem_zip hp).1];cases ha:J3 E (E.inpl fn) (c.args.toList.zip c.argTypes.toList) σ with
     | none=>rfl
     | some q=>
      obtain ⟨l,σ1⟩:=q;simp only [Option.map_some];split
      ·rename_i r hr;rw [gU _ _ C7,wT,gV];cases K0 (KG (E.lend fn) σ σ1) (Gx σ (E.inpl fn) c.args.toList) && (Kk (Gq (EF l (Jb ds))) && (!E.lend fn || ((Gq (EF l (Jb ds))).isEmpty && !Lf (EF l (Jb ds))))) with
       | false=>rfl
       | true=>
        dsimp only [cond];unfold Step.EE;simp only [iM,yO]
      ·rfl
    ·rfl
   ·rfl
  ·rename_i fn ps OD;split
   ·rename_i s hs;split
    ·rename_i hlen;rw [ju _ _ _ λ p hp=>C7 p.1 (List.of_mem_zip hp).1,wU];cases ha:J3 E (E.inpl fn) (c.args.toList.zip c.argTypes.toList) σ with
     | none=>rfl
     | some q=>
      obtain ⟨l,σ1⟩:=q;cases Mo:QC σ ps with
      | none=>rfl
      | some cs=>
       simp only [Option.map_some];split
       ·rename_i r hr;rw [gU _ _ C7,wT,gV];cases K0 (KG (E.lend fn) σ σ1) (Gx σ (E.inpl fn) c.args.toList++ps.map (·.1)) && (Kk (Gq (EF l cs)) && (!E.lend fn || ((Gq (EF l cs)).isEmpty && !Lf (EF l cs)))) with
        | false=>rfl
        | true=>
         dsimp only [cond];unfold Step.EE;simp only [iM,yO]
       ·rfl
    ·rfl
   ·rfl
  ·rfl
 ·rfl
theorem wM (h:∀ x∈o.op.operands,Bm (σ.BU t') x=Bm σ x):EP E (σ.BU t') o=(EP E σ o).EE t' o.dst:=by
 unfold EP;cases ho:o.op <;> rw [ho] at h <;> (try dsimp only)
 case move x=>rw [h x (by simp [Op.operands])];exact wV _
 case assign x=>rw [h x (by simp [Op.operands])];exact wV _
 case alloc T=>exact Zf4 T
 case box T x=>rw [h x (by simp [Op.operands])];exact Yez T _
 case build T ps=>
  split
  ·split
   ·rw [uO T ps.toList _ _ _ λ p hp=>h p.2 (by simp only [Op.operands,List.mem_toArray,List.mem_map];exact ⟨p,hp,rfl⟩)];split
    ·exact OU _
    ·rfl
   ·rfl
  ·rfl
 case buildSlice T n ps=>exact Zxs T n ps λ p hp=>h p.2 (by simp only [Op.operands,List.mem_toArray,List.mem_map];exact ⟨p,hp,rfl⟩)
 case load T x=>rw [h x (by simp [Op.operands])];exact Yrf T _
 case store T x y=>rw [h x (by simp [Op.operands]),h y (by simp [Op.operands])];exact Zg4 T _ _
 case nilCheck x=>
  rw [h x (by simp [Op.operands])];obtain ⟨t,c,v,r⟩:=σ;simp only [show St.BU ⟨t,c,v,r⟩ t'=⟨t',c,v,r⟩ from rfl]
  ((repeat' split) <;> first | rfl | exact Kf _ | exact Kg _ _ | exact EW _ _ _ _ _ | exact E8 _ _ _ _ _ | exact J6 _ _ _ _ | (simp_all;done))
 case binOp op T x y U=>
  rw [h x (by simp [Op.operands]),h y (by simp [Op.operands])];cases UU y with
  | true=>exact Zd4 T op _
  | false=>exact Zh4 T op _ _
 case unOp op T x=>rw [h x (by simp [Op.operands])];exact Ysf op _
 case convert s d x=>rw [h x (by simp [Op.operands])];exact Zxw s d _
 case makeFunc fn p q=>
  cases fn with
  | func f=>
   dsimp only;split
   ·have hq:∀ x∈q.toList,Bm (σ.BU t') x=Bm σ x:=λ x hx=>h x (by simp only [Op.operands];exact Array.mem_append.2 (.inr (Array.mem_toList_iff.1 hx)))
    cases IC E o.dst with
    | true=>
     dsimp only [cond];rw [uP q.toList hq];cases Qo σ q.toList with
     | none=>rfl
     | some z=>exact OU _
    | false=>
     dsimp only [cond];rw [wW q.toList σ hq];cases Nq q.toList σ with
     | none=>rfl
     | some z=>exact Nn _ _ _ _
   ·rfl
  | _=>rfl
 case makeSlice T x y=>exact Ztt T x y (h x (by simp [Op.operands])) (h y (by simp [Op.operands]))
 case slice T x lo hi mx=>
  cases mx with
  | none=>
   dsimp only;rw [h x (by simp [Op.operands])];exact Zi4 T _ lo hi (λ y hy=>h y (by simp [Op.operands,hy])) (λ y hy=>h y (by simp [Op.operands,hy]))
  | some m=>rfl
 case fieldAddr S x f=>rw [h x (by simp [Op.operands])];exact Zut S f _
 case field S x f=>rw [h x (by simp [Op.operands])];exact Zj4 S f _
 case indexAddr T x i=>rw [h x (by simp [Op.operands]),h i (by simp [Op.operands])];exact Zvt T _ _
 case index T x i=>rw [h x (by simp [Op.operands]),h i (by simp [Op.operands])];exact Zk4 T _ _
 case extract x i=>rw [h x (by simp [Op.operands])];exact Zyw i _
 case call c=>exact Ypf h
 all_goals rfl
theorem Step.Zdh {s:Step} {σ':St} {d:Option Nat} (h:s.to σ'):(s.EE t' d).to (σ'.BU (FU t' d (dv σ' d))):=by
 cases s with
 | no=>exact h
 | go c σ1=>obtain ⟨rfl,rfl⟩:=h;exact ⟨rfl,rfl⟩
 | call α m f=>obtain ⟨x,hx,rfl⟩:=h;exact ⟨x,hx,rfl⟩
theorem yP {σ':St} (h:∀ x∈o.op.operands,Bm (σ.BU t') x=Bm σ x) (hg:Jy E σ o σ'):Jy E (σ.BU t') o (σ'.BU (FU t' o.dst (dv σ' o.dst))):=by
 unfold Jy at *;split at hg
 ·rename_i c x y ho;obtain ⟨t,gs,hc,rfl⟩:=hg;rw [ho] at h;refine ⟨t,gs,(h c (by simp [Op.operands])).trans hc,?_⟩;rw [h x (by simp [Op.operands]),h y (by simp [Op.operands])];exact (N7 _ _ _).symm
 ·rename_i Kl;rw [wM h];exact Step.Zdh hg
theorem aZ {ops:Array Oper} {σ':St} (h:∀ d∈o.looksAt ops,t' d = σ.t d) (hg:F0 E ops o σ σ'):F0 E ops o (σ.BU t') (σ'.BU (FU t' o.dst (dv σ' o.dst))):=by
 have M1:∀ x∈o.op.operands,Bm (σ.BU t') x=Bm σ x:=λ x hx=>by
  cases x with
  | tmp d=>exact h d (List.mem_append_left _ (List.mem_filterMap.2 ⟨.tmp d,by simpa using hx,rfl⟩))
  | _=>unfold Bm;split <;> simp_all
 unfold F0 at *;split at hg
 ·exact yP M1 hg
 ·rename_i j want hgd;split at hg
  ·rename_i hs;subst hg;exact (N7 _ _ _).symm
  ·rename_i s hs;rw [show (σ.BU t').t s = σ.t s from h s (List.mem_append_right _ (by rw [hgd];have h':(ops[j]?).bind (λ (o:Oper)=>o.dst)=some s:=hs;simp only [h'];simp))];split at hg
   ·subst hg;exact (N7 _ _ _).symm
   ·split at hg
    ·rename_i he;subst he;rw [if_pos rfl];exact yP M1 hg
    ·rename_i he;rw [if_neg he];subst hg;exact (N7 _ _ _).symm
   ·exact hg
end
end Go.AM
end
