import Derived.Test.YtlamhllcnbcbbaaGreatAmL3
import Derived.Tactics
import Derived.LoopN
section
/- Guards; regions in the text's order. -/
namespace Go.AM
open Go.RowKit (Below)
set_option linter.unusedSectionVars false
variable [Lay]
section
variable {P : Program} {B : Bd} {ok0 : Nat → Nat → Prop} {w0 w w' : World} {g g' : G} {σ σ1 τ : St} {a : Act} {o : Oper} {E : Env} {ops : Array Oper} {R : Type}
def GTo (E:Env) (ops:Array Oper) (o:Oper) (σ σ':St):Prop:=
  match o.guard with
  | none=>OneTo E σ o σ'
  | some (j,want)=>match gslot ops j with
    | none=>σ' = σ.setT o.dst .none
    | some s=>match σ.t s with
      | .none=>σ' = σ.setT o.dst .none
      | .dat .bool b _=>if b=want then OneTo E σ o σ' else σ' = σ.setT o.dst .none
      | _=>False
theorem Zxi2 {s:Nat} {x:AV} (h:σ.t s=x):σ.setT (some s) x = σ:=by
  have:fset σ.t s x = σ.t:=by
    funext i
    rw [Zz]
    by_cases hi:i=s
    · subst hi;rw [if_pos rfl,h]
    · rw [if_neg hi]
  unfold St.setT
  dsimp only
  rw [this]
theorem Zxn1 {k:St→Option R} {r:R} (h:evG E ops o σ k=some r):∃ σ',GTo E ops o σ σ'∧k σ'=some r:=by
  unfold evG at h
  unfold GTo
  split at h
  · rename_i hg;rw [hg];exact Zmx h
  · rename_i j want hg
    rw [hg]
    dsimp only
    split at h
    · rename_i hs;rw [hs];exact ⟨_,rfl,h⟩
    · rename_i s hs
      rw [hs]
      dsimp only
      split at h
      · rename_i hv;rw [hv];exact ⟨_,rfl,h⟩
      · rename_i b gs hv
        rw [hv]
        dsimp only
        cases b <;> cases want <;> dsimp only [cond_true,cond_false] at h <;> rw [Zxi2 hv] at h
        · exact Zmx h
        · exact ⟨_,rfl,h⟩
        · exact ⟨_,rfl,h⟩
        · exact Zmx h
      · cases h
def Chain (E:Env) (ops:Array Oper):List Oper→St→St→Prop
  | [],σ,τ=>τ = σ
  | o :: r,σ,τ=>∃ σ1,GTo E ops o σ σ1∧Chain E ops r σ1 τ
theorem Zpb1:∀ {l:List Oper} {σ:St} {k:St→Option R} {r:R},evOps E ops l σ k=some r→∃ τ,Chain E ops l σ τ∧k τ = some r
  | [],σ,_,_,h=>⟨σ,rfl,h⟩
  | o :: l,σ,k,r,h=>by
    obtain ⟨σ1,h1,h2⟩:=Zxn1 (k:=fun σ'=>evOps E ops l σ' k) h
    obtain ⟨τ,h3,h4⟩:=Zpb1 h2
    exact ⟨τ,⟨σ1,h1,h3⟩,h4⟩
theorem Zyn1 (tmps:Array Value) {j s:Nat} (h:gslot ops j=some s):yielded ops tmps j=(match tmps.getD s undef with | .bool b=>some b | _=>none):=by
  unfold yielded
  have h':(ops[j]?).bind (fun (o:Oper)=>o.dst)=some s:=h
  rw [h',Option.bind_some,Array.getD_eq_getD_getElem?]
  cases tmps[s]? with
  | none=>rfl
  | some v=>cases v <;> rfl
theorem Zzn1 (tmps:Array Value) {j:Nat} (h:gslot ops j=none):yielded ops tmps j=none:=by
  unfold yielded
  have h':(ops[j]?).bind (fun (o:Oper)=>o.dst)=none:=h
  rw [h']
  rfl
theorem GTo.cases (hI:Inv B ok0 w0 g σ a w) {σ':St} (h:GTo E ops o σ σ'):
    (Region.wanted o (yielded ops a.tmps)=true∧OneTo E σ o σ')∨(Region.wanted o (yielded ops a.tmps)=false∧σ' = σ.setT o.dst .none):=by
  unfold GTo at h
  unfold Region.wanted
  split at h
  · rename_i hg;rw [hg];exact .inl ⟨rfl,h⟩
  · rename_i j want hg
    rw [hg]
    dsimp only
    split at h
    · rename_i hs
      rw [Zzn1 _ hs]
      exact .inr ⟨rfl,h⟩
    · rename_i s hs
      rw [Zyn1 _ hs]
      have hr:=hI.slots s
      split at h
      · rename_i hv
        rw [hv] at hr
        rw [show a.tmps.getD s undef=undef from hr]
        exact .inr ⟨rfl,h⟩
      · rename_i b gs hv
        rw [hv] at hr
        rw [of_bool hr]
        dsimp only
        split at h
        · rename_i he;subst he;exact .inl ⟨by simp,h⟩
        · rename_i he;exact .inr ⟨by simpa using he,h⟩
      · exact h.elim
theorem GTo.wp (hE:EnvOk P E) (hC:Zgf P E) (hI:Inv B ok0 w0 g σ a w) (hd:∀ d,o.dst=some d→d<a.tmps.size) {σ':St} (h:GTo E ops o σ σ') {next:Act→World→Prop} {Q:Exit→Act→World→Prop}
    (hn:∀ g' a' w',Inv B ok0 w0 g' σ' a' w'→a'.tmps.size=a.tmps.size→next a' w'):
    if Region.wanted o (yielded ops a.tmps) then o.wp P a w next Q∨(o.asks P a w∧LetsOut Q) else next (a.put o.dst undef) w:=by
  rcases h.cases hI with ⟨hw,h⟩ | ⟨hw,h⟩
  · rw [hw,if_pos rfl]
    exact .inl (Zhl3 hE hC hI hd h hn)
  · rw [hw]
    simp only [Bool.false_eq_true,if_false]
    subst h
    exact hn g _ _ (hI.put (av:= .none) rfl hd) (Zhj _ _ _)
theorem Chain.wp (hE:EnvOk P E) (hC:Zgf P E) {Q:Exit→Act→World→Prop}:∀ {l:List Oper} {σ:St} {g:G} {a:Act} {w:World},Inv B ok0 w0 g σ a w→(∀ o∈l,∀ d,o.dst=some d→d<a.tmps.size)→
    Chain E ops l σ τ→(∀ g' a' w',Inv B ok0 w0 g' τ a' w'→a'.tmps.size=a.tmps.size→Q .normal a' w')→wpList P ops Q l a w
  | [],σ,g,a,w,hI,_,h,hq=>by cases h;exact hq g a w hI rfl
  | o :: l,σ,g,a,w,hI,hd,⟨σ1,h1,h2⟩,hq=>by
    unfold wpList
    exact h1.wp hE hC hI (hd o (List.mem_cons_self ..)) fun g' a' w' hI' hs=>
      Chain.wp hE hC hI' (fun o' ho' d hd'=>by rw [hs];exact hd o' (List.mem_cons_of_mem _ ho') d hd') h2 fun g2 a2 w2 hI2 hs2=>hq g2 a2 w2 hI2 (hs2.trans hs)
def opsIn (n:Nat) (ops:Array Oper):Bool:=ops.toList.all fun o=>match o.dst with | some d=>decide (d<n) | none=>true
def Zqf (n:Nat):Code→Bool
  | .region _ ops _=>opsIn n ops
  | .seq x y=>Zqf n x && Zqf n y
  | .cond _ x y=>Zqf n x && Zqf n y
  | .block _ c=>Zqf n c
  | .loop c=>Zqf n c
  | _=>true
theorem Zqb1 {n:Nat} (h:opsIn n ops=true):∀ o∈ops.toList,∀ d,o.dst=some d→d<n:=by
  intro o ho d hd
  have:=List.all_eq_true.1 h o ho
  rw [hd] at this
  exact of_decide_eq_true this
theorem Zyi2 (hE:EnvOk P E) (hC:Zgf P E) {Q:Exit→Act→World→Prop} (hI:Inv B ok0 w0 g σ a w) {id:Nat} (hn:opsIn a.tmps.size ops=true) {k:St→Option R} {r:R} (h:evOps E ops ops.toList σ k=some r)
    (hq:∀ τ,k τ = some r→∀ g' a' w',Inv B ok0 w0 g' τ a' w'→a'.tmps.size=a.tmps.size→Q .normal a' w'):(Code.region id ops false).wp P Q a w:=by
  obtain ⟨τ,h1,h2⟩:=Zpb1 h
  exact wp_region_list (h1.wp hE hC hI (Zqb1 hn) (hq τ h2))
end
end Go.AM
end

section
/- Code: what the evaluator answers, the machine does. -/
namespace Go.AM
open Go.RowKit (Below)
set_option linter.unusedSectionVars false
variable [Lay]
section
variable {P : Program} {B : Bd} {ok0 : Nat → Nat → Prop} {w0 : World} {E : Env} {R : Type} {n : Nat}
def Ex.out:Ex→Exit
  | .normal=> .normal
  | .exit id=> .exit id
  | .ret=> .ret
def KOk (B:Bd) (ok0:Nat→Nat→Prop) (w0:World) (n:Nat) (k:K R) (r:R) (Q:Exit→Act→World→Prop):Prop:=
  ∀ e σ,k e σ = some r→∀ g a w,Inv B ok0 w0 g σ a w→a.tmps.size=n→Q e.out a w
def DrOk (P:Program) (B:Bd) (ok0:Nat→Nat→Prop) (w0:World) (R:Type) (n:Nat) (dr:Array Oper→St→(St→Option R)→Option R):Prop:=
  ∀ ops σ k r id Q g a w,opsIn n ops=true→dr ops σ k=some r→Inv B ok0 w0 g σ a w→a.tmps.size=n→
    (∀ τ,k τ = some r→∀ g' a' w',Inv B ok0 w0 g' τ a' w'→a'.tmps.size=n→Q .normal a' w')→(Code.region id ops true).wp P Q a w
def Job.code:Job→Code
  | .loop c=>c
  | .tail c=>c
def JWp (P:Program) (m:Nat) (Q:Exit→Act→World→Prop) (a:Act) (w:World):Job→Prop
  | .loop c=>Code.rounds P c Q m a w
  | .tail c=>c.wp P Q a w
def JobOk (P:Program) (B:Bd) (ok0:Nat→Nat→Prop) (w0:World) (R:Type) (n m:Nat) (jb:Job→Nat→St→K R→Option R):Prop:=
  ∀ j b σ k r Q g a w,Zqf n j.code=true→jb j b σ k=some r→KOk B ok0 w0 n k r Q→Inv B ok0 w0 g σ a w→a.tmps.size=n→JWp P m Q a w j
theorem Zwn1 (hE:EnvOk P E) (hC:Zgf P E) {m:Nat} {jb:Job→Nat→St→K R→Option R} (hj:JobOk P B ok0 w0 R n m jb)
    {dr:Array Oper→St→(St→Option R)→Option R} (hdr:DrOk P B ok0 w0 R n dr):∀ (c:Code) (b:Nat) (σ:St) (k:K R) (r:R) (Q:Exit→Act→World→Prop) (g:G) (a:Act) (w:World),
    Zqf n c=true→evC E jb dr c b σ k=some r→KOk B ok0 w0 n k r Q→Inv B ok0 w0 g σ a w→a.tmps.size=n→c.wp P Q a w:=by
  intro c
  induction c with
  | skip=>intro b σ k r Q g a w _ h hk hI hs;exact wp_skip (hk .normal σ h g a w hI hs)
  | region id ops d=>
    intro b σ k r Q g a w hn h hk hI hs
    cases d with
    | false=>exact Zyi2 hE hC hI (by rw [hs];exact hn) h fun τ hτ g' a' w' hI' hs'=>hk .normal τ hτ g' a' w' hI' (hs'.trans hs)
    | true=>exact hdr ops σ _ r id Q g a w hn h hI hs fun τ hτ g' a' w' hI' hs'=>hk .normal τ hτ g' a' w' hI' hs'
  | seq x y ihx ihy=>
    intro b σ k r Q g a w hn h hk hI hs
    have hnx:Zqf n x=true:=by have:=hn;simp only [Zqf,Bool.and_eq_true] at this;exact this.1
    have hny:Zqf n y=true:=by have:=hn;simp only [Zqf,Bool.and_eq_true] at this;exact this.2
    refine wp_seq (ihx b σ _ r _ g a w hnx h ?_ hI hs)
    intro e σ' he g' a' w' hI' hs'
    cases e with
    | normal=>
      dsimp only [seqK] at he
      split at he
      · rename_i kp hkp
        obtain ⟨g2,hI2⟩:=hI'.norm kp
        exact hj (.tail y) b _ k r Q g2 a' w' hny he hk hI2 hs'
      · exact ihy b σ' k r Q g' a' w' hny he hk hI' hs'
    | exit id=>exact hk (.exit id) σ' he g' a' w' hI' hs'
    | ret=>exact hk .ret σ' he g' a' w' hI' hs'
  | cond c x y ihx ihy=>
    intro b σ k r Q g a w hn h hk hI hs
    have hnx:Zqf n x=true:=by have:=hn;simp only [Zqf,Bool.and_eq_true] at this;exact this.1
    have hny:Zqf n y=true:=by have:=hn;simp only [Zqf,Bool.and_eq_true] at this;exact this.2
    unfold evC at h
    split at h
    · rename_i t gs hc
      refine wp_cond (Zt3 hI hc) ?_
      cases t with
      | true=>exact ihx b σ k r Q g a w hnx h hk hI hs
      | false=>exact ihy b σ k r Q g a w hny h hk hI hs
    · cases h
  | block id c ih=>
    intro b σ k r Q g a w hn h hk hI hs
    refine wp_block (ih id σ _ r _ g a w hn h ?_ hI hs)
    intro e σ' he g' a' w' hI' hs'
    cases e with
    | normal=>exact hk .normal σ' he g' a' w' hI' hs'
    | exit id'=>
      dsimp only [Zaa] at he
      show (if id'=id then Q .normal a' w' else Q (.exit id') a' w')
      split at he
      · rename_i hid;rw [if_pos hid];exact hk .normal σ' he g' a' w' hI' hs'
      · rename_i hid;rw [if_neg hid];exact hk (.exit id') σ' he g' a' w' hI' hs'
    | ret=>exact hk .ret σ' he g' a' w' hI' hs'
  | loop c _=>
    intro b σ k r Q g a w hn h hk hI hs
    obtain ⟨g2,hI2⟩:=hI.norm (E.loop b)
    exact wp_loop_rounds m (hj (.loop c) b _ k r Q g2 a w hn h hk hI2 hs)
  | exit id=>
    intro b σ k r Q g a w hn h hk hI hs
    unfold evC at h
    split at h
    · rename_i kp hkp
      obtain ⟨g2,hI2⟩:=hI.norm kp
      exact wp_exit (hk (.exit id) _ h g2 a w hI2 hs)
    · exact wp_exit (hk (.exit id) _ h g a w hI hs)
  | ret=>
    intro b σ k r Q g a w hn h hk hI hs
    obtain ⟨g2,hI2⟩:=hI.norm E.ret
    exact wp_ret (hk .ret _ h g2 a w hI2 hs)
  | _=>intro b σ k r Q g a w hn h;cases h
theorem Zwi2 (hE:EnvOk P E) (hC:Zgf P E) {dr:Array Oper→St→(St→Option R)→Option R} (hdr:DrOk P B ok0 w0 R n dr):∀ m,JobOk P B ok0 w0 R n m (evJ E dr m)
  | 0=>fun _ _ _ _ _ _ _ _ _ _ h=>by cases h
  | m+1=>by
    have ih:=Zwi2 hE hC hdr m
    intro j b σ k r Q g a w hn h hk hI hs
    cases j with
    | tail c=>exact Zwn1 hE hC ih hdr c b σ k r Q g a w hn h hk hI hs
    | loop c=>
      show c.wp P (Exit.then (Code.rounds P c Q m) Q) a w
      refine Zwn1 hE hC ih hdr c b σ _ r _ g a w hn h ?_ hI hs
      intro e σ' he g' a' w' hI' hs'
      cases e with
      | normal=>
        obtain ⟨g2,hI2⟩:=hI'.norm (E.loop b)
        exact ih (.loop c) b _ k r Q g2 a' w' hn he hk hI2 hs'
      | exit id=>exact hk (.exit id) σ' he g' a' w' hI' hs'
      | ret=>exact hk .ret σ' he g' a' w' hI' hs'
end
end Go.AM
end

section
/- Operations look at slots by their operands alone. -/
namespace Go.AM
open Go.RowKit (Below)
set_option linter.unusedSectionVars false
variable [Lay]
def St.onT (σ:St) (t:Nat→AV):St:={ σ with t:=t }
def tset (t:Nat→AV) (d:Option Nat) (a:AV):Nat→AV:=match d with | some d=>fset t d a | none=>t
def dv (σ:St) (d:Option Nat):AV:=match d with | some d=>σ.t d | none=> .undef
def Step.reT (t':Nat→AV) (d:Option Nat):Step→Step
  | .no=> .no
  | .go c σ=> .go c (σ.onT (tset t' d (dv σ d)))
  | .call α m f=> .call α m fun x=>(f x).onT (tset t' d (dv (f x) d))
section
variable {E : Env} {o : Oper} {σ : St} {t' : Nat → AV}
theorem Zat {α:Type} (f:Nat→α) (k:Nat) (a:α):fset f k a k=a:=by rw [Zz,if_pos rfl]
theorem Zni (ρ:St) (d:Option Nat) (a:AV):(ρ.onT t').setT d a=(ρ.setT d a).onT (tset t' d (dv (ρ.setT d a) d)):=by
  cases d with
  | none=>rfl
  | some d=>
    show St.mk (fset t' d a) _ _ _=St.mk (fset t' d (fset ρ.t d a d)) _ _ _
    rw [Zat]
    rfl
theorem Zgk (c:Bool) (ρ:St) (d:Option Nat) (a:AV):Step.go c ((ρ.onT t').setT d a)=(Step.go c (ρ.setT d a)).reT t' d:=by
  rw [Zni];rfl
theorem Zjd {c:Bool} {s s':Step} {d:Option Nat} (h:s'=s.reT t' d):(bif c then Step.no else s')=(bif c then Step.no else s).reT t' d:=by
  cases c
  · exact h
  · rfl
theorem Zpk (a:AV):put o (σ.onT t') a=(put o σ a).reT t' o.dst:=Zgk _ _ _ _
theorem Zna2 (c:Bool) (a:AV):chk o c (σ.onT t') a=(chk o c σ a).reT t' o.dst:=Zgk _ _ _ _
section
variable {t : Nat → AV} {c : Nat → Option Con} {v r : Nat → Nat}
theorem putL (a:AV):put o ⟨t',c,v,r⟩ a=(put o ⟨t,c,v,r⟩ a).reT t' o.dst:=Zpk (σ:=⟨t,c,v,r⟩) a
theorem chkL (b:Bool) (a:AV):chk o b ⟨t',c,v,r⟩ a=(chk o b ⟨t,c,v,r⟩ a).reT t' o.dst:=Zna2 (σ:=⟨t,c,v,r⟩) b a
theorem boxL (b:Bool) (d:Option Nat) (id:Nat) (k:Con) (a:AV):Step.go b ((St.Zdc ⟨t',c,v,r⟩ id k).setT d a)=(Step.go b ((St.Zdc ⟨t,c,v,r⟩ id k).setT d a)).reT t' d:=
  Zgk (t':=t') b (St.Zdc ⟨t,c,v,r⟩ id k) d a
theorem newL (b:Bool) (d:Option Nat) (id:Nat) (k:Con) (a:AV):Step.go b ((St.Zub ⟨t',c,v,r⟩ id k).setT d a)=(Step.go b ((St.Zub ⟨t,c,v,r⟩ id k).setT d a)).reT t' d:=
  Zgk (t':=t') b (St.Zub ⟨t,c,v,r⟩ id k) d a
theorem bumpT (b:Bool) (d:Option Nat) (id:Nat) (a:AV):Step.go b ((St.bump ⟨t',c,v,r⟩ id).setT d a)=(Step.go b ((St.bump ⟨t,c,v,r⟩ id).setT d a)).reT t' d:=
  Zgk (t':=t') b (St.bump ⟨t,c,v,r⟩ id) d a
end
theorem Zsy2 (T:Nat) (a:AV):load' E T o (σ.onT t') a=(load' E T o σ a).reT t' o.dst:=by
  obtain ⟨t,c,v,r⟩:=σ
  show load' E T o ⟨t',c,v,r⟩ a=_
  unfold load' Znn Zzq
  try dsimp only
  ((repeat' split) <;> first | rfl | exact putL _ | exact chkL _ _ | exact boxL _ _ _ _ _ | exact newL _ _ _ _ _ | exact bumpT _ _ _ _ | exact Zjd (boxL _ _ _ _ _) | exact Zjd (newL _ _ _ _ _) | (simp_all;done))
theorem Zpi2 (T:Nat) (a x:AV):Zvp E T o (σ.onT t') a x=(Zvp E T o σ a x).reT t' o.dst:=by
  obtain ⟨t,c,v,r⟩:=σ
  show Zvp E T o ⟨t',c,v,r⟩ a x=_
  unfold Zvp
  try dsimp only
  ((repeat' split) <;> first | rfl | exact putL _ | exact chkL _ _ | exact boxL _ _ _ _ _ | exact newL _ _ _ _ _ | exact bumpT _ _ _ _ | exact Zjd (boxL _ _ _ _ _) | exact Zjd (newL _ _ _ _ _) | (simp_all;done))
theorem Zkg1 (S f:Nat) (x:AV):Zih E S f o (σ.onT t') x=(Zih E S f o σ x).reT t' o.dst:=by
  obtain ⟨t,c,v,r⟩:=σ
  show Zih E S f o ⟨t',c,v,r⟩ x=_
  unfold Zih
  try dsimp only
  ((repeat' split) <;> first | rfl | exact putL _ | exact chkL _ _ | exact boxL _ _ _ _ _ | exact newL _ _ _ _ _ | exact bumpT _ _ _ _ | exact Zjd (boxL _ _ _ _ _) | exact Zjd (newL _ _ _ _ _) | (simp_all;done))
theorem Zqi2 (S f:Nat) (x:AV):Ztp E S f o (σ.onT t') x=(Ztp E S f o σ x).reT t' o.dst:=by
  obtain ⟨t,c,v,r⟩:=σ
  show Ztp E S f o ⟨t',c,v,r⟩ x=_
  unfold Ztp
  try dsimp only
  ((repeat' split) <;> first | rfl | exact putL _ | exact chkL _ _ | exact boxL _ _ _ _ _ | exact newL _ _ _ _ _ | exact bumpT _ _ _ _ | exact Zjd (boxL _ _ _ _ _) | exact Zjd (newL _ _ _ _ _) | (simp_all;done))
theorem Zup1 (i:Nat) (x:AV):Zbl i o (σ.onT t') x=(Zbl i o σ x).reT t' o.dst:=by
  obtain ⟨t,c,v,r⟩:=σ
  show Zbl i o ⟨t',c,v,r⟩ x=_
  unfold Zbl
  try dsimp only
  ((repeat' split) <;> first | rfl | exact putL _ | exact chkL _ _ | exact boxL _ _ _ _ _ | exact newL _ _ _ _ _ | exact bumpT _ _ _ _ | exact Zjd (boxL _ _ _ _ _) | exact Zjd (newL _ _ _ _ _) | (simp_all;done))
theorem Zlg1 (T:Nat) (x i:AV):Zjh E T o (σ.onT t') x i=(Zjh E T o σ x i).reT t' o.dst:=by
  obtain ⟨t,c,v,r⟩:=σ
  show Zjh E T o ⟨t',c,v,r⟩ x i=_
  unfold Zjh
  try dsimp only
  ((repeat' split) <;> first | rfl | exact putL _ | exact chkL _ _ | exact boxL _ _ _ _ _ | exact newL _ _ _ _ _ | exact bumpT _ _ _ _ | exact Zjd (boxL _ _ _ _ _) | exact Zjd (newL _ _ _ _ _) | (simp_all;done))
theorem Zri2 (T:Nat) (x i:AV):Zup E T o (σ.onT t') x i=(Zup E T o σ x i).reT t' o.dst:=by
  obtain ⟨t,c,v,r⟩:=σ
  show Zup E T o ⟨t',c,v,r⟩ x i=_
  unfold Zup
  try dsimp only
  ((repeat' split) <;> first | rfl | exact putL _ | exact chkL _ _ | exact boxL _ _ _ _ _ | exact newL _ _ _ _ _ | exact bumpT _ _ _ _ | exact Zjd (boxL _ _ _ _ _) | exact Zjd (newL _ _ _ _ _) | (simp_all;done))
theorem Zsi2 (T:Nat):Zwp E T o (σ.onT t')=(Zwp E T o σ).reT t' o.dst:=by
  obtain ⟨t,c,v,r⟩:=σ
  show Zwp E T o ⟨t',c,v,r⟩=_
  unfold Zwp
  try dsimp only
  ((repeat' split) <;> first | rfl | exact putL _ | exact chkL _ _ | exact boxL _ _ _ _ _ | exact newL _ _ _ _ _ | exact bumpT _ _ _ _ | exact Zjd (boxL _ _ _ _ _) | exact Zjd (newL _ _ _ _ _) | (simp_all;done))
theorem Zoa2 (T:Nat) (x:AV):box' E T o (σ.onT t') x=(box' E T o σ x).reT t' o.dst:=by
  obtain ⟨t,c,v,r⟩:=σ
  show box' E T o ⟨t',c,v,r⟩ x=_
  unfold box' boxTo
  try dsimp only
  ((repeat' split) <;> first | rfl | exact putL _ | exact chkL _ _ | exact boxL _ _ _ _ _ | exact newL _ _ _ _ _ | exact bumpT _ _ _ _ | exact Zjd (boxL _ _ _ _ _) | exact Zjd (newL _ _ _ _ _) | (simp_all;done))
theorem Zbt (t t':Nat→AV) (c:Nat→Option Con) (v r:Nat→Nat):content ⟨t',c,v,r⟩=content ⟨t,c,v,r⟩:=by
  funext e x;cases x <;> rfl
theorem Zrn1 (t t':Nat→AV) (c:Nat→Option Con) (v r:Nat→Nat) (d sz:Nat):∀ g:List Tag,Zbj ⟨t',c,v,r⟩ d sz g=Zbj ⟨t,c,v,r⟩ d sz g
  | []=>rfl
  | x :: g=>by unfold Zbj;rw [Zrn1 t t' c v r d sz g]
theorem Zbz1 (T U:Nat) (s x:AV):Ztg E T U o (σ.onT t') s x=(Ztg E T U o σ s x).reT t' o.dst:=by
  obtain ⟨t,c,v,r⟩:=σ
  show Ztg E T U o ⟨t',c,v,r⟩ s x=_
  unfold Ztg
  simp only [Zbt t t' c v r,Zrn1 t t' c v r]
  ((repeat' split) <;> first | rfl | exact putL _ | exact chkL _ _ | exact boxL _ _ _ _ _ | exact newL _ _ _ _ _ | exact bumpT _ _ _ _ | exact Zjd (boxL _ _ _ _ _) | exact Zjd (newL _ _ _ _ _) | (simp_all;done))
theorem Zvp1 (T U id ver:Nat) (x:AV):Zsl E T U o (σ.onT t') id ver x=(Zsl E T U o σ id ver x).reT t' o.dst:=by
  obtain ⟨t,c,v,r⟩:=σ
  show Zsl E T U o ⟨t',c,v,r⟩ id ver x=_
  unfold Zsl Zar
  simp only [Zbt t t' c v r]
  ((repeat' split) <;> first | rfl | exact putL _ | exact chkL _ _ | exact boxL _ _ _ _ _ | exact newL _ _ _ _ _ | exact bumpT _ _ _ _ | exact Zjd (boxL _ _ _ _ _) | exact Zjd (newL _ _ _ _ _) | (simp_all;done))
theorem Zsn1 (t t':Nat→AV) (c:Nat→Option Con) (v r:Nat→Nat):partOf ⟨t',c,v,r⟩=partOf ⟨t,c,v,r⟩:=by
  funext x;cases x <;> rfl
theorem Zti2 (T:Nat) (s:AV):Zdo E T o (σ.onT t') s=(Zdo E T o σ s).reT t' o.dst:=by
  obtain ⟨t,c,v,r⟩:=σ
  show Zdo E T o ⟨t',c,v,r⟩ s=_
  unfold Zdo
  simp only [Zsn1 t t' c v r]
  ((repeat' split) <;> first | rfl | exact boxL _ _ _ _ _ | (simp_all;done))
theorem Zty2 (T U:Nat) (s x:AV):copy' E T U o (σ.onT t') s x=(copy' E T U o σ s x).reT t' o.dst:=by
  obtain ⟨t,c,v,r⟩:=σ
  show copy' E T U o ⟨t',c,v,r⟩ s x=_
  unfold copy' Zar
  simp only [Zsn1 t t' c v r,Zbt t t' c v r]
  ((repeat' split) <;> first | rfl | exact boxL _ _ _ _ _ | (simp_all;done))
theorem Ztn1 {c:Bool} (x:AV):move' E o (σ.onT t') c x=(move' E o σ c x).reT t' o.dst:=by
  unfold move'
  split
  · rename_i d hd
    cases E.bx d && c with
    | true=>
      dsimp only [cond]
      split
      · exact Zgk _ (σ.Zub _ _) _ _
      · rfl
    | false=>exact Zpk _
  · exact Zpk _
theorem Zwp1 (src dst:Nat) (x:AV):Zdh E src dst o (σ.onT t') x=(Zdh E src dst o σ x).reT t' o.dst:=by
  obtain ⟨t,c,v,r⟩:=σ
  show Zdh E src dst o ⟨t',c,v,r⟩ x=_
  unfold Zdh
  simp only [Zbt t t' c v r]
  ((repeat' split) <;> first | rfl | exact putL _ | exact chkL _ _ | exact boxL _ _ _ _ _ | exact newL _ _ _ _ _ | exact bumpT _ _ _ _ | exact Zjd (boxL _ _ _ _ _) | exact Zjd (newL _ _ _ _ _) | (simp_all;done))
theorem Zcz1 (op:BinOp) (k j:IntKind) (a b:Int):Zkm op o (σ.onT t') k j a b=(Zkm op o σ k j a b).reT t' o.dst:=by
  obtain ⟨t,c,v,r⟩:=σ
  show Zkm op o ⟨t',c,v,r⟩ k j a b=_
  unfold Zkm
  ((repeat' split) <;> first | rfl | exact putL _ | exact chkL _ _ | exact boxL _ _ _ _ _ | exact newL _ _ _ _ _ | exact bumpT _ _ _ _ | exact Zjd (boxL _ _ _ _ _) | exact Zjd (newL _ _ _ _ _) | (simp_all;done))
theorem Zdz1 (op:BinOp) (a b:ByteArray):Zlm op o (σ.onT t') a b=(Zlm op o σ a b).reT t' o.dst:=by
  obtain ⟨t,c,v,r⟩:=σ
  show Zlm op o ⟨t',c,v,r⟩ a b=_
  unfold Zlm
  ((repeat' split) <;> first | rfl | exact putL _ | exact chkL _ _ | exact boxL _ _ _ _ _ | exact newL _ _ _ _ _ | exact bumpT _ _ _ _ | exact Zjd (boxL _ _ _ _ _) | exact Zjd (newL _ _ _ _ _) | (simp_all;done))
theorem Zui2 (T:Nat) (op:BinOp) (x y:AV):Zbo E T op o (σ.onT t') x y=(Zbo E T op o σ x y).reT t' o.dst:=by
  unfold Zbo
  split
  · split
    · exact Zcz1 _ _ _ _ _
    · exact Zdz1 _ _ _
    · split
      · split
        · split
          · exact Zpk _
          · exact Zpk _
          · rfl
        · rfl
      · rfl
  · rfl
theorem Zuy2 (op:UnOp) (x:AV):unOp' op o (σ.onT t') x=(unOp' op o σ x).reT t' o.dst:=by
  obtain ⟨t,c,v,r⟩:=σ
  show unOp' op o ⟨t',c,v,r⟩ x=_
  unfold unOp'
  ((repeat' split) <;> first | rfl | exact putL _ | exact chkL _ _ | exact boxL _ _ _ _ _ | exact newL _ _ _ _ _ | exact bumpT _ _ _ _ | exact Zjd (boxL _ _ _ _ _) | exact Zjd (newL _ _ _ _ _) | (simp_all;done))
theorem Zpa2 (T:Option Ty) (x:AV):len' T o (σ.onT t') x=(len' T o σ x).reT t' o.dst:=by
  obtain ⟨t,c,v,r⟩:=σ
  show len' T o ⟨t',c,v,r⟩ x=_
  unfold len'
  try dsimp only
  ((repeat' split) <;> first | rfl | exact putL _ | exact chkL _ _ | exact boxL _ _ _ _ _ | exact newL _ _ _ _ _ | exact bumpT _ _ _ _ | exact Zjd (boxL _ _ _ _ _) | exact Zjd (newL _ _ _ _ _) | (simp_all;done))
theorem Zob1 (f:Int→Int→Int) (xs:List AV):Zmj f o (σ.onT t') xs=(Zmj f o σ xs).reT t' o.dst:=by
  unfold Zmj
  split
  · split
    · exact Zpk _
    · rfl
  · rfl
theorem Zqt1 {x:Option Operand} (d:Int) (h:∀ y,x=some y→opd (σ.onT t') y=opd σ y):bnd (σ.onT t') d x=bnd σ d x:=by
  cases x with
  | none=>rfl
  | some y=>unfold bnd;dsimp only;rw [h y rfl]
theorem Zvi2 (T:Nat) (x:AV) (lo hi:Option Operand) (h1:∀ y,lo=some y→opd (σ.onT t') y=opd σ y) (h2:∀ y,hi=some y→opd (σ.onT t') y=opd σ y):
    Zco E T o (σ.onT t') x lo hi=(Zco E T o σ x lo hi).reT t' o.dst:=by
  unfold Zco
  simp only [Zqt1 _ h1,Zqt1 _ h2]
  obtain ⟨t,c,v,r⟩:=σ
  simp only [show St.onT ⟨t,c,v,r⟩ t'=⟨t',c,v,r⟩ from rfl]
  ((repeat' split) <;> first | rfl | exact putL _ | exact chkL _ _ | exact boxL _ _ _ _ _ | exact newL _ _ _ _ _ | exact bumpT _ _ _ _ | exact Zjd (boxL _ _ _ _ _) | exact Zjd (newL _ _ _ _ _) | (simp_all;done))
theorem Zff1 (T:Nat):∀ (ps:List (Nat×Operand)) (t:Ty) (z:t.D) (g:List Tag),(∀ p∈ps,opd (σ.onT t') p.2=opd σ p.2)→Zaj E T (σ.onT t') t ps z g=Zaj E T σ t ps z g
  | [],t,z,g,_=>rfl
  | (f,x) :: ps,t,z,g,h=>by
    have ih:=fun z g=>Zff1 T ps t z g fun p hp=>h p (List.mem_cons_of_mem _ hp)
    unfold Zaj
    rw [show opd (σ.onT t') x=opd σ x from h (f,x) (List.mem_cons_self ..)]
    simp only [ih]
theorem Zrt1 (e:Ty):∀ (ps:List (Nat×Operand)) (i:Nat),(∀ p∈ps,opd (σ.onT t') p.2=opd σ p.2)→lit' (σ.onT t') e i ps=lit' σ e i ps
  | [],_,_=>rfl
  | (j,x) :: ps,i,h=>by
    unfold lit'
    rw [show opd (σ.onT t') x=opd σ x from h (j,x) (List.mem_cons_self ..),Zrt1 e ps (i+1) fun p hp=>h p (List.mem_cons_of_mem _ hp)]
theorem Zdd1 (T n:Nat) (ps:Array (Nat×Operand)) (h:∀ p∈ps.toList,opd (σ.onT t') p.2=opd σ p.2):Zfi E T n ps o (σ.onT t')=(Zfi E T n ps o σ).reT t' o.dst:=by
  unfold Zfi
  split
  · rename_i d e _ _
    rw [Zrt1 _ _ _ h]
    split
    · split
      · cases E.lit d with
        | true=>exact Zgk _ _ _ _
        | false=>exact Zgk _ (σ.bump _) _ _
      · rfl
    · rfl
  · rfl
theorem Zmg1 (T:Nat) (x y:Operand) (hx:opd (σ.onT t') x=opd σ x) (hy:opd (σ.onT t') y=opd σ y):Zuj E T o (σ.onT t') x y=(Zuj E T o σ x y).reT t' o.dst:=by
  unfold Zuj
  rw [hx,hy]
  split
  · rename_i d e k n g1 j m g2 hd hT hn hm
    split
    · exact Zgk _ (σ.Zub _ _) _ _
    · split
      · cases E.bx d with
        | true=>exact Zgk _ (σ.Zub _ _) _ _
        | false=>exact Zgk _ (σ.bump _) _ _
      · rfl
  · rfl
theorem Zqa2 (T:Nat) (m:Bool) (x:AV):arg' E T m (σ.onT t') x=(arg' E T m σ x).map fun p=>(p.1,p.2.onT t'):=by
  obtain ⟨t,c,v,r⟩:=σ
  show arg' E T m ⟨t',c,v,r⟩ x=_
  cases m with
  | false=>
    unfold arg'
    simp only [cond_false]
    try dsimp only
    (repeat' split) <;> first | rfl | (simp_all;done)
  | true=>
    unfold arg'
    simp only [cond_true]
    try dsimp only
    (repeat' split) <;> first | rfl | (simp_all;done)
theorem arg_t {T:Nat} {m:Bool} {x a:AV} {σ1:St} (h:arg' E T m σ x=some (a,σ1)):σ1.t = σ.t:=by
  cases m with
  | false=>
    unfold arg' at h
    simp only [cond_false] at h
    (repeat' split at h) <;> first | (cases h;rfl) | cases h
  | true=>
    unfold arg' at h
    simp only [cond_true] at h
    (repeat' split at h) <;> first | (cases h;rfl) | cases h
theorem opd_t {σ ρ:St} (h:σ.t = ρ.t) (x:Operand):opd σ x=opd ρ x:=by
  cases x <;> first | rfl | (unfold opd;rw [h])
  
theorem Zn7:∀ (ms:List Bool) (ps:List (Operand×Nat)) (σ:St),(∀ p∈ps,opd (σ.onT t') p.1=opd σ p.1)→args' E ms ps (σ.onT t')=(args' E ms ps σ).map fun p=>(p.1,p.2.onT t')
  | _,[],σ,_=>by unfold args';rfl
  | ms,(x,T) :: ps,σ,h=>by
    unfold args'
    rw [show opd (σ.onT t') x=opd σ x from h (x,T) (List.mem_cons_self ..),Zqa2]
    cases ha:arg' E T (ms.headD false) σ (opd σ x) with
    | none=>rfl
    | some p=>
      obtain ⟨a,σ1⟩:=p
      simp only [Option.map_some]
      have ht:=arg_t ha
      rw [Zn7 ms.tail ps σ1 fun p hp=>by
        rw [show opd (σ1.onT t') p.1=opd (σ.onT t') p.1 from opd_t (σ:=σ1.onT t') (ρ:=σ.onT t') rfl _,h p (List.mem_cons_of_mem _ hp)];exact (opd_t ht _).symm]
      cases args' E ms.tail ps σ1 with
      | none=>rfl
      | some q=>rfl
theorem Zra2 (x:AV):cap' (σ.onT t') x=(cap' σ x).map fun p=>(p.1,p.2.onT t'):=by
  obtain ⟨t,c,v,r⟩:=σ
  show cap' ⟨t',c,v,r⟩ x=_
  unfold cap'
  try dsimp only
  (repeat' split) <;> first | rfl | (simp_all;done)
theorem cap_t {x:AV} {a:Dat} {σ1:St} (h:cap' σ x=some (a,σ1)):σ1.t = σ.t:=by
  unfold cap' at h
  (repeat' split at h) <;> first | (cases h;rfl) | cases h
theorem Zun1:∀ (ps:List Operand) (σ:St),(∀ p∈ps,opd (σ.onT t') p=opd σ p)→caps' ps (σ.onT t')=(caps' ps σ).map fun p=>(p.1,p.2.onT t')
  | [],σ,_=>rfl
  | x :: ps,σ,h=>by
    unfold caps'
    rw [show opd (σ.onT t') x=opd σ x from h x (List.mem_cons_self ..),Zra2]
    cases ha:cap' σ (opd σ x) with
    | none=>rfl
    | some p=>
      obtain ⟨a,σ1⟩:=p
      simp only [Option.map_some]
      have ht:=cap_t ha
      rw [Zun1 ps σ1 fun p hp=>by
        rw [show opd (σ1.onT t') p=opd (σ.onT t') p from opd_t (σ:=σ1.onT t') (ρ:=σ.onT t') rfl _,h p (List.mem_cons_of_mem _ hp)];exact (opd_t ht _).symm]
      cases caps' ps σ1 with
      | none=>rfl
      | some q=>rfl
theorem Zgf1:∀ (ps:List Operand),(∀ p∈ps,opd (σ.onT t') p=opd σ p)→capsB (σ.onT t') ps=capsB σ ps
  | [],_=>rfl
  | x :: ps,h=>by
    unfold capsB
    rw [show opd (σ.onT t') x=opd σ x from h x (List.mem_cons_self ..),Zgf1 ps fun p hp=>h p (List.mem_cons_of_mem _ hp)]
    rfl
theorem Zvn1:∀ (ps:List (Nat×Nat)),cloA (σ.onT t') ps=cloA σ ps
  | []=>rfl
  | (id,ver) :: ps=>by
    unfold cloA
    rw [Zvn1 ps]
    rfl
theorem Zkx:∀ (ids:List Nat),Zuh (σ.onT t') ids=Zuh σ ids
  | []=>rfl
  | id :: ids=>by
    unfold Zuh
    rw [Zkx ids]
    rfl
theorem Zyj:∀ (ids:List Nat) (ds:List Con) (σ:St),Zlf ids ds (σ.onT t')=(Zlf ids ds σ).onT t'
  | [],_,_=>rfl
  | _ :: _,[],_=>rfl
  | id :: ids,d :: ds,σ=>Zyj ids ds (σ.Zdc id d)
theorem Zq3:∀ (hs:List Nat) (σ:St),bumpL hs (σ.onT t')=(bumpL hs σ).onT t'
  | [],_=>rfl
  | h :: hs,σ=>Zq3 hs (σ.bump h)
theorem Zlx:∀ (ms:List Bool) (xs:List Operand),(∀ x∈xs,opd (σ.onT t') x=opd σ x)→Zse (σ.onT t') ms xs=Zse σ ms xs
  | _,[],_=>by unfold Zse;rfl
  | ms,x :: xs,h=>by
    unfold Zse
    rw [h x (List.mem_cons_self ..),Zlx ms.tail xs fun y hy=>h y (List.mem_cons_of_mem _ hy)]
end
end Go.AM
end

section
/- Operations look at slots by their operands alone: all of them. -/
namespace Go.AM
open Go.RowKit (Below)
set_option linter.unusedSectionVars false
variable [Lay]
section
variable {E : Env} {o : Oper} {σ : St} {t' : Nat → AV}
theorem Zgs (d:Nat):∀ (g:List Tag) (j:Nat) (σ:St),impG d g j (σ.onT t')=((impG d g j σ).1,(impG d g j σ).2.1,(impG d g j σ).2.2.onT t')
  | [],_,_=>rfl
  | x :: g,j,σ=>by
    unfold impG
    split
    · simp only [Zgs d g j σ]
    · have:=Zgs d g (j+1) (σ.bump (rid d j))
      simp only [show (σ.onT t').bump (rid d j)=(σ.bump (rid d j)).onT t' from rfl,this]
      rfl
theorem Zon1 (d:Nat):∀ (ds:List Dat) (j:Nat) (σ:St),impD d ds j (σ.onT t')=((impD d ds j σ).1,(impD d ds j σ).2.1,(impD d ds j σ).2.2.onT t')
  | [],_,_=>rfl
  | x :: ds,j,σ=>by
    unfold impD
    simp only [Zgs d x.g j σ,Zon1 d ds _ (impG d x.g j σ).2.2]
theorem Zhs (d:Nat):∀ (ds:List Con) (j:Nat) (σ:St),impC d ds j (σ.onT t')=((impC d ds j σ).1,(impC d ds j σ).2.1,(impC d ds j σ).2.2.onT t')
  | [],_,_=>rfl
  | .var t x g :: ds,j,σ=>by
    unfold impC
    simp only [Zgs d g j σ,Zhs d ds _ (impG d g j σ).2.2]
  | .arr e l f :: ds,j,σ=>by
    unfold impC
    simp only [Zhs d ds j σ]
  | .val v :: ds,j,σ=>by
    unfold impC
    simp only [Zhs d ds j σ]
theorem Zot1 (ids:List Nat) (a:AV) (ios:List Con):imp o ids (σ.onT t') a ios=(imp o ids σ a ios).onT (tset t' o.dst (dv (imp o ids σ a ios) o.dst)):=by
  unfold imp
  cases hd:o.dst with
  | none=>exact Zyj _ _ _
  | some d=>
    dsimp only
    split
    · simp only [Zgs,Zhs,Zyj]
      exact Zni _ _ _
    · simp only [Zon1,Zhs,Zyj]
      exact Zni _ _ _
    · simp only [Zyj]
      exact Zni (ρ:=(Zlf ids (ios.map bareC) σ).Zub d _) _ _
    · simp only [Zyj]
      split
      · exact Zni _ _ _
      · exact Zni _ _ _
    · rw [Zyj];exact Zni _ _ _
theorem Zni2 (T:Nat) (op:BinOp) (x:AV):errOp E T op o (σ.onT t') x=(errOp E T op o σ x).reT t' o.dst:=by
  unfold errOp
  split
  · split
    · exact Zpk _
    · exact Zpk _
    · rfl
  · rfl
theorem Zpn1 (b:Bool) (σ σ1:St):lent b (σ.onT t') (σ1.onT t')=(lent b σ σ1).onT t':=by cases b <;> rfl
theorem Zry2 {c:Call} (h:∀ x∈c.operands,opd (σ.onT t') x=opd σ x):call' E c o (σ.onT t')=(call' E c o σ).reT t' o.dst:=by
  have hargs:∀ x∈c.args.toList,opd (σ.onT t') x=opd σ x:=fun x hx=>h x (by unfold Call.operands;exact Array.mem_append.2 (.inr (Array.mem_toList_iff.1 hx)))
  have hmap:∀ xs:List Operand,(∀ x∈xs,opd (σ.onT t') x=opd σ x)→xs.map (opd (σ.onT t'))=xs.map (opd σ):=fun xs hx=>List.map_congr_left hx
  unfold call'
  split
  · rename_i b hb
    split
    · rename_i x T ha hat
      rw [hargs x (by rw [ha];exact List.mem_cons_self ..)]
      exact Zpa2 _ _
    · rename_i s x T U ha hat
      rw [hargs x (by rw [ha];simp),hargs s (by rw [ha];simp)]
      split
      · exact Zvp1 _ _ _ _ _
      · exact Zbz1 _ _ _ _
    · rename_i x T ha hat
      rw [hargs x (by rw [ha];exact List.mem_cons_self ..)]
      exact Zti2 _ _
    · rename_i s x T U ha hat
      rw [hargs x (by rw [ha];simp),hargs s (by rw [ha];simp)]
      exact Zty2 _ _ _ _
    · rw [hmap _ hargs];exact Zob1 _ _
    · rw [hmap _ hargs];exact Zob1 _ _
    · rfl
  · rename_i f hf
    rw [h f (by unfold Call.operands;rw [hf];exact Array.mem_append.2 (.inl (by simp)))]
    split
    · rename_i fn ds hfn
      split
      · rename_i s hs
        split
        · rename_i hlen
          rw [Zn7 _ _ _ fun p hp=>hargs p.1 (List.of_mem_zip hp).1]
          cases ha:args' E (E.inpl fn) (c.args.toList.zip c.argTypes.toList) σ with
          | none=>rfl
          | some q=>
            obtain ⟨l,σ1⟩:=q
            simp only [Option.map_some]
            split
            · rename_i r hr
              rw [Zlx _ _ hargs,Zpn1,Zkx]
              cases Zuh (lent (E.lend fn) σ σ1) (Zse σ (E.inpl fn) c.args.toList) && (dis (handR (joinA l (capsA ds))) && (!E.lend fn || ((handR (joinA l (capsA ds))).isEmpty && !anyA (joinA l (capsA ds))))) with
              | false=>rfl
              | true=>
                dsimp only [cond]
                unfold Step.reT
                simp only [Zq3,Zot1]
            · rfl
        · rfl
      · rfl
    · rename_i fn ps hfn
      split
      · rename_i s hs
        split
        · rename_i hlen
          rw [Zn7 _ _ _ fun p hp=>hargs p.1 (List.of_mem_zip hp).1,Zvn1]
          cases ha:args' E (E.inpl fn) (c.args.toList.zip c.argTypes.toList) σ with
          | none=>rfl
          | some q=>
            obtain ⟨l,σ1⟩:=q
            cases hcl:cloA σ ps with
            | none=>rfl
            | some cs=>
              simp only [Option.map_some]
              split
              · rename_i r hr
                rw [Zlx _ _ hargs,Zpn1,Zkx]
                cases Zuh (lent (E.lend fn) σ σ1) (Zse σ (E.inpl fn) c.args.toList++ps.map (·.1)) && (dis (handR (joinA l cs)) && (!E.lend fn || ((handR (joinA l cs)).isEmpty && !anyA (joinA l cs)))) with
                | false=>rfl
                | true=>
                  dsimp only [cond]
                  unfold Step.reT
                  simp only [Zq3,Zot1]
              · rfl
        · rfl
      · rfl
    · rfl
  · rfl
theorem Zqn1 (h:∀ x∈o.op.operands,opd (σ.onT t') x=opd σ x):evOp E (σ.onT t') o=(evOp E σ o).reT t' o.dst:=by
  unfold evOp
  cases ho:o.op <;> rw [ho] at h <;> (try dsimp only)
  case move x=>rw [h x (by simp [Op.operands])];exact Ztn1 _
  case assign x=>rw [h x (by simp [Op.operands])];exact Ztn1 _
  case alloc T=>exact Zsi2 T
  case box T x=>rw [h x (by simp [Op.operands])];exact Zoa2 T _
  case build T ps=>
    split
    · split
      · rw [Zff1 T ps.toList _ _ _ fun p hp=>h p.2 (by simp only [Op.operands,List.mem_toArray,List.mem_map];exact ⟨p,hp,rfl⟩)]
        split
        · exact Zpk _
        · rfl
      · rfl
    · rfl
  case buildSlice T n ps=>exact Zdd1 T n ps fun p hp=>h p.2 (by simp only [Op.operands,List.mem_toArray,List.mem_map];exact ⟨p,hp,rfl⟩)
  case load T x=>rw [h x (by simp [Op.operands])];exact Zsy2 T _
  case store T x y=>rw [h x (by simp [Op.operands]),h y (by simp [Op.operands])];exact Zpi2 T _ _
  case nilCheck x=>
    rw [h x (by simp [Op.operands])]
    obtain ⟨t,c,v,r⟩:=σ
    simp only [show St.onT ⟨t,c,v,r⟩ t'=⟨t',c,v,r⟩ from rfl]
    ((repeat' split) <;> first | rfl | exact putL _ | exact chkL _ _ | exact boxL _ _ _ _ _ | exact newL _ _ _ _ _ | exact bumpT _ _ _ _ | (simp_all;done))
  case binOp op T x y U=>
    rw [h x (by simp [Op.operands]),h y (by simp [Op.operands])]
    cases Zzt y with
    | true=>exact Zni2 T op _
    | false=>exact Zui2 T op _ _
  case unOp op T x=>rw [h x (by simp [Op.operands])];exact Zuy2 op _
  case convert s d x=>rw [h x (by simp [Op.operands])];exact Zwp1 s d _
  case makeFunc fn p q=>
    cases fn with
    | func f=>
      dsimp only
      split
      · have hq:∀ x∈q.toList,opd (σ.onT t') x=opd σ x:=fun x hx=>h x (by simp only [Op.operands];exact Array.mem_append.2 (.inr (Array.mem_toList_iff.1 hx)))
        cases bxAt E o.dst with
        | true=>
          dsimp only [cond]
          rw [Zgf1 q.toList hq]
          cases capsB σ q.toList with
          | none=>rfl
          | some z=>exact Zpk _
        | false=>
          dsimp only [cond]
          rw [Zun1 q.toList σ hq]
          cases caps' q.toList σ with
          | none=>rfl
          | some z=>exact Zgk _ _ _ _
      · rfl
    | _=>rfl
  case makeSlice T x y=>exact Zmg1 T x y (h x (by simp [Op.operands])) (h y (by simp [Op.operands]))
  case slice T x lo hi mx=>
    cases mx with
    | none=>
      dsimp only
      rw [h x (by simp [Op.operands])]
      exact Zvi2 T _ lo hi (fun y hy=>h y (by simp [Op.operands,hy])) (fun y hy=>h y (by simp [Op.operands,hy]))
    | some m=>rfl
  case fieldAddr S x f=>rw [h x (by simp [Op.operands])];exact Zkg1 S f _
  case field S x f=>rw [h x (by simp [Op.operands])];exact Zqi2 S f _
  case indexAddr T x i=>rw [h x (by simp [Op.operands]),h i (by simp [Op.operands])];exact Zlg1 T _ _
  case index T x i=>rw [h x (by simp [Op.operands]),h i (by simp [Op.operands])];exact Zri2 T _ _
  case extract x i=>rw [h x (by simp [Op.operands])];exact Zup1 i _
  case call c=>exact Zry2 h
  all_goals rfl
theorem Step.Zoi2 {s:Step} {σ':St} {d:Option Nat} (h:s.to σ'):(s.reT t' d).to (σ'.onT (tset t' d (dv σ' d))):=by
  cases s with
  | no=>exact h
  | go c σ1=>obtain ⟨rfl,rfl⟩:=h;exact ⟨rfl,rfl⟩
  | call α m f=>obtain ⟨x,hx,rfl⟩:=h;exact ⟨x,hx,rfl⟩
theorem Zpt1 {σ':St} (h:∀ x∈o.op.operands,opd (σ.onT t') x=opd σ x) (hg:OneTo E σ o σ'):OneTo E (σ.onT t') o (σ'.onT (tset t' o.dst (dv σ' o.dst))):=by
  unfold OneTo at *
  split at hg
  · rename_i c x y ho
    obtain ⟨t,gs,hc,rfl⟩:=hg
    rw [ho] at h
    refine ⟨t,gs,(h c (by simp [Op.operands])).trans hc,?_⟩
    rw [h x (by simp [Op.operands]),h y (by simp [Op.operands])]
    exact (Zni _ _ _).symm
  · rename_i hno
    rw [Zqn1 h]
    exact Step.Zoi2 hg
theorem Zm5 {ops:Array Oper} {σ':St} (h:∀ d∈o.looksAt ops,t' d = σ.t d) (hg:GTo E ops o σ σ'):GTo E ops o (σ.onT t') (σ'.onT (tset t' o.dst (dv σ' o.dst))):=by
  have hop:∀ x∈o.op.operands,opd (σ.onT t') x=opd σ x:=fun x hx=>by
    cases x with
    | tmp d=>exact h d (List.mem_append_left _ (List.mem_filterMap.2 ⟨.tmp d,by simpa using hx,rfl⟩))
    | _=>unfold opd;split <;> simp_all
  unfold GTo at *
  split at hg
  · exact Zpt1 hop hg
  · rename_i j want hgd
    split at hg
    · rename_i hs
      subst hg
      exact (Zni _ _ _).symm
    · rename_i s hs
      rw [show (σ.onT t').t s = σ.t s from h s (List.mem_append_right _ (by rw [hgd];have h':(ops[j]?).bind (fun (o:Oper)=>o.dst)=some s:=hs;simp only [h'];simp))]
      split at hg
      · subst hg;exact (Zni _ _ _).symm
      · split at hg
        · rename_i he;subst he;rw [if_pos rfl];exact Zpt1 hop hg
        · rename_i he;rw [if_neg he];subst hg;exact (Zni _ _ _).symm
      · exact hg
end
end Go.AM
end
