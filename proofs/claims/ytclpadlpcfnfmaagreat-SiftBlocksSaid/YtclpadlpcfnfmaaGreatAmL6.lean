import Derived.Test.YtclpadlpcfnfmaaGreatAmL5
import Derived.Laws.StructEq
import Derived.DataElems
import Derived.WideShapes
import Derived.ChangeOld
section
/- A function's contract out of what the evaluator answers of its body. -/
namespace Go.AM
open Go.RowKit (Below)
set_option linter.unusedSectionVars false
variable [Lay]
def GU:PK→Nat
 | .io _ _=>1
 | .ioa _=>1
 | _=>0
def MJ:PK→Nat
 | .io _ g=>g.length
 | _=>0
def I7:List PK→Nat
 | []=>0
 | p :: ps=>GU p+I7 ps
def QC:(ps:List PK)→DO ps→Nat→Nat→List (Nat×AV)
 | [],_,_,_=>[]
 | p :: ps,x,i,k=>(i,iq k p x.1) :: QC ps x.2 (i+1) (k+GU p)
def J5:(ps:List PK)→DO ps→Nat→Nat→List (Nat×Option Con)
 | [],_,_,_=>[]
 | p :: ps,x,k,q=>match ir q p x.1 with
  | some c=>(pid0+k,some c) :: J5 ps x.2 (k+GU p) (q+MJ p)
  | none=>J5 ps x.2 (k+GU p) (q+MJ p)
def Q3 (ps:List PK) (x:DO ps):St:=mk (QC ps x 0 0) (J5 ps x 0 0)
def Wy (σ:St) (t:Tag):List Tag→Option Nat
 | []=>none
 | h :: r=>if h.off=t.off∧h.sz=t.sz then (if h.id=0 then some 0 else if σ.r h.id=h.ver then some h.id else none) else Wy σ t r
def Mw (σ:St) (gs:List Tag):List Tag→Option (List Nat)
 | []=>some []
 | t :: r=>if t.id=0 then none else match Wy σ t gs with
  | some i=>match Mw σ gs r with
   | some l=>some (i :: l)
   | none=>none
  | none=>none
def Pu (E:Env) (σ:St):ResultVar→AV
 | .tmp t=>σ.t t
 | .cell a T=>match σ.t a with
  | .ptr id ver off=>if σ.v id=ver then
    match σ.c id with
    | some (.var t z g)=>match E.ty T with
     | some u=>match sub u t z off with
      | some y=> .dat u y (WT g off u.sz)
      | none=> .undef
     | none=> .undef
    | some (.arr e l _)=>match E.ty T with
     | some (.arr m e')=>if off=0 then
       match C7 (t:= .sl e) (.sl e') l with
       | some l'=> .dat (.arr m e') l' []
       | none=> .undef
      else .undef
     | _=> .undef
    | _=> .undef
   else .undef
  | _=> .undef
def b9 (σ:St) (id ver:Nat):St:=
 if σ.v id=ver∧Nat.blt id pid0=true then
  match σ.c id with
  | some (.arr e l _)=>σ.CR id (.arr e l true)
  | _=>σ
 else σ
def me (σ:St):AV→St
 | .slw id ver=>b9 σ id ver
 | .slm id ver _ _=>b9 σ id ver
 | _=>σ
def Ub:List ResultVar→St→St
 | [],σ=>σ
 | .tmp t :: r,σ=>Ub r (me σ (σ.t t))
 | .cell .. :: r,σ=>Ub r σ
def bl (σ:St):AV→AV
 | .slw id ver=>if σ.v id=ver then
   match σ.c id with
   | some (.arr e l true)=> .dat (.sl e) l []
   | _=> .undef
  else .undef
 | .slm id ver lo n=>if σ.v id=ver then
   match σ.c id with
   | some (.arr e l true)=> .dat (.sl e) ((l.drop lo).take n) []
   | _=> .undef
  else .undef
 | x=>x
def TU (E:Env) (σ:St):List ResultVar→List AV
 | []=>[]
 | t :: r=>bl σ (Pu E σ t) :: TU E σ r
def Pg (σ:St) (p:PK) (id:Nat):AV:=
 match p with
 | .io _ _=>match σ.c id with
  | some (.var t x g)=> .dat t x g
  | _=> .undef
 | .ioa _=>match σ.c id with
  | some (.arr e l false)=> .dat (.sl e) l []
  | _=> .undef
 | _=> .undef
def Qs (σ:St):List PK→Nat→List AV
 | [],_=>[]
 | p :: ps,k=>Pg σ p (pid0+k) :: Qs σ ps (k+1)
def NQ {R:Type} (σ:St):List PK→Nat→Option R→Option R
 | [],_,r=>r
 | .ioa _ :: ps,k,r=>match σ.c (pid0+k) with
  | some (.arr e l _)=>bif decide (0<List.length (α:=e.D) l) then NQ σ ps (k+1) r else none
  | _=>none
 | _ :: ps,k,r=>NQ σ ps (k+1) r
def R6 (σ:St):List AV→(rs:List (Ty×List Tag))→Option (DX rs×List Nat)
 | [],[]=>some ((),[])
 | [v],[u]=>match v.as u.1,Mw σ (v.tags u.1) u.2 with
  | some x,some l=>some (x,l)
  | _,_=>none
 | v :: v2 :: vs,u :: u2 :: rs=>match v.as u.1,Mw σ (v.tags u.1) u.2,R6 σ (v2 :: vs) (u2 :: rs) with
  | some x,some l,some y=>some ((x,y.1),l++y.2)
  | _,_,_=>none
 | _,_=>none
def Wz (E:Env) (σ:St):ResultVar→Option Bool
 | .tmp _=>none
 | .cell a T=>match σ.t a with
  | .ptr id _ _=>match σ.c id with
   | some (.arr e l _)=>match E.ty T with
    | some (.arr m _)=>some (decide (List.length (α:=e.D) l=m+1))
    | _=>none
   | _=>none
  | _=>none
def lens {R:Type} (E:Env) (σ:St):List ResultVar→Option R→Option R
 | [],r=>r
 | t :: ts,r=>match Wz E σ t with
  | some c=>bif c then lens E σ ts r else none
  | none=>lens E σ ts r
def mf (E:Env) (σ:St) (ts:List ResultVar) (qs:List PK) (rs:List (Ty×List Tag)):Option (DX rs):=
 lens E σ ts (NQ σ qs 0 (match R6 σ (TU E σ ts++Qs σ qs 0) rs with
 | some y=>bif Jr y.2 then some y.1 else none
 | none=>none))
def fin (E:Env) (ts:List ResultVar) (qs:List PK) (rs:List (Ty×List Tag)):K (DX rs):=fun e σ=>
 match e with
 | .exit _=>none
 | _=>mf E (Ub ts σ) ts qs rs
def WA (σ:St) (k:Nat):AV→AV
 | .slw id ver=>if id=pid0+k∧σ.v id=ver then
   match σ.c id with
   | some (.arr e l false)=> .dat (.int .i64) ((List.length (α:=e.D) l:Nat):Int) []
   | _=> .undef
  else .undef
 | .slm id ver lo n=>if id=pid0+k∧σ.v id=ver∧lo=0 then
   match σ.c id with
   | some (.arr _ _ false)=> .dat (.int .i64) (n:Int) []
   | _=> .undef
  else .undef
 | _=> .undef
def W2 (k t:Nat) (qs:List PK) (rs:List (Ty×List Tag)):K (DX rs):=fun e σ=>
 match e with
 | .exit _=>none
 | _=>NQ σ qs 0 (match R6 σ (WA σ k (σ.t t) :: Qs σ qs 0) rs with
  | some y=>bif Jr y.2 then some y.1 else none
  | none=>none)
section
variable {P : Program} {B : Bd} {ok0 ok : Nat → Nat → Prop} {w0 w w' : World} {g g' : G} {σ σ1 τ : St} {a : Act} {E : Env}
theorem sh:∀ {ts:List Ty} {ds:List Dat} {x:Wi ts} {vs:List Value},Vm ts ds=some x→CA (fun (d:Dat) u=>IQ ok w d.t d.x 0 u) ds vs→CA (fun (d:Dat) u=>IQ ok w d.t d.x 0 u) (fS ts x) vs
 | [],[],_,vs,_,h=>h
 | t :: ts,d :: ds,x,[],_,h=>h.elim
 | t :: ts,d :: ds,x,v :: vs,hd,h=>by
  unfold Vm at hd
  split at hd
  ·rename_i y hy
   split at hd
   ·rename_i z hz
    cases hd
    refine ⟨?_,sh hz h.2⟩
    obtain ⟨e,he⟩:=Fj hy
    have h1:=h.1
    revert he h1
    obtain ⟨dt,dx,dg⟩:=d
    dsimp only at e ⊢
    subst e
    intro he h1
    cases he
    exact h1
   ·cases hd
  ·cases hd
 | [],_ :: _,_,_,hd,_=>by cases hd
 | _ :: _,[],_,_,hd,_=>by cases hd
theorem Yvm {p:PK} {av:AV} {x:p.D} {v:Value} (h:Qi p av=some x) (hr:NR ok w av v):RepA ok g σ w (iq 0 p x) v:=by
 cases p with
 | val t=>
  have h':av.as t=some x:=h
  cases av with
  | dat u x' gs=>
   obtain ⟨cs,h1,h2⟩:=hr
   have h3:=h1.cast h'
   refine ⟨cs,h3,?_,fun _ h=>by cases h⟩
   obtain ⟨e,_⟩:=Fj h'
   subst e
   exact h2
  | nils=>exact hr.elim
  | ept t x off=>cases h'
  | fn f ds=>cases h'
  | _=>exact hr.elim
 | ref t=>
  cases av with
  | ept u y off=>
   cases off with
   | zero=>
    have h':C7 (t:=u) t y=some x:=h
    obtain ⟨e,he⟩:=Fj h'
    subst e
    cases he
    exact hr
   | succ n=>cases h
  | _=>cases h
 | fn f ts=>
  cases av with
  | fn g ds=>
   have h':(if g=f then Vm ts ds else none)=some x:=h
   split at h'
   ·rename_i hgf
    subst hgf
    obtain ⟨vs,h1,h2⟩:=hr
    exact ⟨vs,h1,sh h' h2⟩
   ·cases h'
  | _=>cases h
 | io t g=>
  cases av with
  | iov u y h=>exact hr.elim
  | _=>cases h
 | ioa e=>
  cases av with
  | ioa u y=>exact hr.elim
  | _=>cases h
theorem ga {e:Ty} {av:AV} {x:List e.D} (h:Qi (.ioa e) av=some x):av = .ioa e x:=by
 cases av with
 | ioa u y=>
  obtain ⟨q,he⟩:=Fj (h:C7 (t:= .sl u) (.sl e) y=some x)
  cases q
  cases he
  rfl
 | _=>cases h
theorem iW {t:Ty} {g:List (Nat×Nat)} {av:AV} {x:t.D} (h:Qi (.io t g) av=some x):∃ gs:List Tag,av = .iov t x gs∧gs.map (fun τ=>(τ.off,τ.sz))=g:=by
 cases av with
 | iov u y gs=>
  have h':(if gs.map (fun τ=>(τ.off,τ.sz))=g then C7 (t:=u) t y else none)=some x:=h
  split at h'
  ·rename_i hg
   obtain ⟨e,he⟩:=Fj h'
   subst e
   cases he
   exact ⟨gs,rfl,hg⟩
  ·cases h'
 | _=>cases h
theorem Vu {p:PK} {av:AV} {x:p.D} (hp:GU p=0) (h:Qi p av=some x):(∀ t y g,av≠ .iov t y g)∧∀ e l,av≠ .ioa e l:=by
 constructor
 ·intro t y g e
  subst e
  cases p with
  | io t=>cases hp
  | _=>cases h
 ·intro t y e
  subst e
  cases p with
  | ioa t=>cases hp
  | _=>cases h
theorem U8 {av:AV} {v:Value} {bs r:List Nat} {rs s:List (Option (Nat×Nat))} (hn:(∀ t y g,av≠ .iov t y g)∧∀ e l,av≠ .ioa e l) (h:WB ok w av v bs r rs s):NR ok w av v∧bs=r∧rs=s:=by
 unfold WB at h
 split at h
 ·exact absurd rfl (hn.1 _ _ _)
 ·exact absurd rfl (hn.2 _ _)
 ·exact h
theorem oZ {cs:List Value}:∀ {h:List Tag} {rs s:List (Option (Nat×Nat))},TE w cs h rs s→s=rs.drop h.length
 | [],_,_,h=>by cases h;rfl
 | _ :: h,_,_,⟨q,r1,rfl,h1,_⟩=>by rw [oZ h1];rfl
theorem sk {cs:List Value} {rws:List (Option (Nat×Nat))} (hg:∀ q,g.rw (B3 pid0 q)=(rws[q]?).join) {r0:Nat→Nat} (hr:∀ i,r0 i=0):∀ {h:List Tag} {s:List (Option (Nat×Nat))} (q:Nat),TE w cs h (rws.drop q) s→
  Hg g r0 w (marks q (h.map fun τ=>(τ.off,τ.sz))) cs
 | [],_,_,_=>fun _ hm=>by cases hm
 | τ :: h,s,q,⟨qv,r1,he,h1,h2⟩=>by
  have hq:rws[q]? = some qv:=by
   have:=congrArg (fun l=>l[0]?) he
   simp only [List.getElem?_drop,Nat.add_zero,List.getElem?_cons_zero] at this
   exact this
  have hd:r1=rws.drop (q+1):=by
   have:=congrArg List.tail he
   rw [List.tail_drop] at this
   exact this.symm
  intro τ' hm
  rcases List.mem_cons.1 hm with rfl | hm
  ·refine ⟨fun h0=>absurd h0 (TF _ _),fun _=>⟨Nat.zero_le _,fun _=>?_⟩⟩
   cases qv with
   | none=>exact .inl h2
   | some bu=>
    obtain ⟨b,u⟩:=bu
    obtain ⟨n,cap,cur,T,k1,k2,k3,k4,k5,k6⟩:=h2
    refine .inr ⟨b,n,cap,cur,T,k1,?_,k3,k4,k5,k6⟩
    show g.rw (B3 pid0 q)=_
    rw [hg,hq,k2]
    rfl
  ·subst hd
   exact sk hg hr (q+1) h1 τ' hm
theorem eJ:∀ {ps:List PK} {x:DO ps} {k q id:Nat} {c:Con},IZ (J5 ps x k q) id=some c→pid0+k≤id
 | [],_,_,_,_,_,h=>by cases h
 | p :: ps,x,k,q,id,c,h=>by
  unfold J5 at h
  split at h
  ·rename_i c0 Iz
   have h:(bif Nat.beq id (pid0+k) then some c0 else IZ (J5 ps x.2 (k+GU p) (q+MJ p)) id)=some c:=h
   cases hb:Nat.beq id (pid0+k) with
   | true=>have:=Nat.eq_of_beq_eq_true hb;omega
   | false=>
    rw [hb] at h
    have:=eJ (ps:=ps) h
    omega
  ·have:=eJ (ps:=ps) h
   omega
theorem Ywm {p:PK} (h:GU p=0) (q:Nat) (x:p.D):ir q p x=none:=by cases p <;> first | rfl | cases h
theorem Zqn {p:PK} {ps:List PK} {x:p.D} {z:DO ps} {k q id:Nat} {c:Con} (h:IZ (J5 ps z (k+GU p) (q+MJ p)) id=some c):IZ (J5 (p :: ps) (x,z) k q) id=some c:=by
 unfold J5
 split
 ·rename_i c0 Iz
  have h1:GU p=1:=by
   cases p <;> first | rfl | cases Iz
  have IT:=eJ h
  have:Nat.beq id (pid0+k)=false:=by rw [Bool.eq_false_iff];intro e;have:=Nat.eq_of_beq_eq_true e;omega
  show (bif Nat.beq id (pid0+k) then some c0 else IZ (J5 ps z (k+GU p) (q+MJ p)) id)=some c
  rw [this]
  exact h
 ·exact h
theorem sn:∀ {ps:List PK} {l:List AV} {vs:List Value} {bs:List Nat} {rws:List (Option (Nat×Nat))} {x:DO ps} (i k q t:Nat),E6 ps l=some x→KV ok0 w l vs bs rws→(∀ b o,ok0 b o→ok b o)→
  (∀ j b,bs[j]? = some b→Ob g σ (pid0+(k+j)) 0 0 (.pointer (some ⟨b,0,none⟩)))→(∀ id c,IZ (J5 ps x k q) id=some c→σ.c id=some c∧σ.v id=0)→RepA ok g σ w (MC (QC ps x i k) t) (vs.getD (t-i) undef)
 | [],_,_,_,_,_,_,_,_,_,_,_,_,_,_=>trivial
 | p :: ps,[],_,_,_,_,_,_,_,_,h,_,_,_,_=>by cases h
 | p :: ps,av :: l,[],_,_,_,_,_,_,_,_,h,_,_,_=>h.elim
 | p :: ps,av :: l,v :: vs,bs,rws,x,i,k,q,t,h,⟨r,s,ha,hr⟩,hm,hg,hc=>by
  unfold E6 at h
  split at h
  ·rename_i y hy
   split at h
   ·rename_i z hz
    cases h
    have Zef:RepA ok g σ w (iq k p y) v∧∀ j b,r[j]? = some b→Ob g σ (pid0+(k+GU p+j)) 0 0 (.pointer (some ⟨b,0,none⟩)):=by
     by_cases hp:∃ t g,p = .io t g
     ·obtain ⟨t,gg,rfl⟩:=hp
      obtain ⟨hh,I8,_⟩:=iW hy
      rw [I8] at ha
      obtain ⟨b,rfl,hv,_⟩:=ha
      subst hv
      refine ⟨hg 0 b rfl,fun j b' hj=>?_⟩
      have:=hg (j+1) b' (by simpa using hj)
      rw [show k+GU (.io t gg)+j=k+(j+1) by show k+1+j=_;omega]
      exact this
     by_cases Px:∃ e,p = .ioa e
     ·obtain ⟨e,rfl⟩:=Px
      have I8:=ga hy
      rw [I8] at ha
      obtain ⟨b,cap,cur,T,rfl,_,hv,hh,Co,hle,CL,HH,BO⟩:=ha
      subst hv
      have Lb:=hc (pid0+k) (.arr e y false) (by
       show (bif Nat.beq (pid0+k) (pid0+k) then _ else _)=_
       rw [Nat.beq_refl]
       rfl)
      refine ⟨⟨Nat.zero_le _,fun _=>⟨e,y,false,Lb.1,?_⟩⟩,fun j b' hj=>?_⟩
      ·obtain ⟨b2,f2,h1,h2⟩:=(hg 0 b rfl).2 Lb.2
       cases h2
       exact .inr ⟨b,f2,cap,cur,T,_,h1,hh,Co,hle,CL,rfl⟩
      ·have:=hg (j+1) b' (by simpa using hj)
       rw [show k+GU (.ioa e)+j=k+(j+1) by show k+1+j=_;omega]
       exact this
     have Uu:GU p=0:=by cases p <;> first | rfl | exact absurd ⟨_,_,rfl⟩ hp | exact absurd ⟨_,rfl⟩ Px
     obtain ⟨h1,rfl,rfl⟩:=U8 (Vu Uu hy) ha
     refine ⟨?_,fun j b' hj=>by rw [Uu];exact hg j b' hj⟩
     have:=Yvm (g:=g) (σ:=σ) hy (h1.mono hm)
     cases p <;> first | exact this | exact absurd ⟨_,_,rfl⟩ hp | exact absurd ⟨_,rfl⟩ Px
    unfold QC MC
    dsimp only
    cases hb:Nat.beq t i with
    | true=>
     have:t=i:=Nat.eq_of_beq_eq_true hb
     subst this
     rw [Nat.sub_self]
     exact Zef.1
    | false=>
     have Cb:t≠i:=fun e=>by subst e;simp at hb
     by_cases AO:t<i
     ·have:∀ (ps:List PK) (x:DO ps) (i k:Nat),t<i→MC (QC ps x i k) t = .undef:=by
       intro ps
       induction ps with
       | nil=>intro _ _ _ _;rfl
       | cons p ps ih=>
        intro x i k hk
        unfold QC MC
        have:Nat.beq t i=false:=by rw [Bool.eq_false_iff];intro e;have:=Nat.eq_of_beq_eq_true e;omega
        rw [this]
        exact ih _ _ _ (by omega)
      show RepA ok g σ w (MC (QC ps z (i+1) (k+GU p)) t) _
      rw [this ps z (i+1) _ (by omega)]
      trivial
     ·have hi:=sn (i+1) (k+GU p) (q+MJ p) t hz hr hm Zef.2 fun id c hid=>hc id c (Zqn (x:=y) hid)
      have:t-i=(t-(i+1))+1:=by omega
      rw [this]
      exact hi
   ·cases h
  ·cases h
def Ya1 (ok0:Nat→Nat→Prop) (w:World) (rws:List (Option (Nat×Nat))) (q b:Nat) (c:Con):Prop:=
 (∃ t y j2 h s,c = .var t y (marks (q+j2) (h.map fun τ=>(τ.off,τ.sz)))∧∃ cs T,w.heap[b]? = some (.cells cs.toArray T (0,0))∧RepD ok0 w t y cs∧VJ b t T cs∧TE w cs h (rws.drop j2) s)∨
 ∃ e l cur T,c = .arr e l false∧w.heap[b]? = some (.cells cur T (0,0))∧List.length (α:=e.D) l*e.sz≤cur.size∧List.length (α:=e.D) l≤maxLen∧J9 ok0 w e l cur
theorem Zh:∀ {ps:List PK} {l:List AV} {vs:List Value} {bs:List Nat} {rws:List (Option (Nat×Nat))} {x:DO ps} (k q:Nat),E6 ps l=some x→KV ok0 w l vs bs rws→bs.length=I7 ps∧
  ∀ id c,IZ (J5 ps x k q) id=some c→∃ j b,id=pid0+(k+j)∧bs[j]? = some b∧Ya1 ok0 w rws q b c
 | [],[],[],_,_,_,_,_,_,h=>by obtain ⟨rfl,rfl⟩:=h;exact ⟨rfl,fun _ _ h=>by cases h⟩
 | [],[],_ :: _,_,_,_,_,_,_,h=>h.elim
 | [],_ :: _,_,_,_,_,_,_,h,_=>by cases h
 | p :: ps,[],_,_,_,_,_,_,h,_=>by cases h
 | p :: ps,av :: l,[],_,_,_,_,_,_,h=>h.elim
 | p :: ps,av :: l,v :: vs,bs,rws,x,k,q,h,⟨r,s,ha,hr⟩=>by
  unfold E6 at h
  split at h
  ·rename_i y hy
   split at h
   ·rename_i z hz
    cases h
    obtain ⟨ih1,nd⟩:=Zh (k+GU p) (q+MJ p) hz hr
    by_cases hp:∃ t g,p = .io t g
    ·obtain ⟨t,gg,rfl⟩:=hp
     obtain ⟨hh,I8,hgg⟩:=iW hy
     rw [I8] at ha
     obtain ⟨b,rfl,hv,cs,T,c1,c2,c3,c4⟩:=ha
     refine ⟨by show r.length+1=1+I7 ps;omega,fun id c hid=>?_⟩
     have Nf:(bif Nat.beq id (pid0+k) then some (Con.var t y (marks q gg)) else IZ (J5 ps z (k+GU (.io t gg)) (q+MJ (.io t gg))) id)=some c:=hid
     cases hb:Nat.beq id (pid0+k) with
     | true=>
      rw [hb] at Nf
      cases Nf
      exact ⟨0,b,Nat.eq_of_beq_eq_true hb,rfl, .inl ⟨t,y,0,hh,s,by rw [hgg];rfl,cs,T,c1,c2,c3,by rw [List.drop_zero];exact c4⟩⟩
     | false=>
      rw [hb] at Nf
      obtain ⟨j,b',h1,h2,h3⟩:=nd id c Nf
      have hlen:hh.length=gg.length:=by rw [← hgg,Ai]
      refine ⟨j+1,b',by rw [h1];show _+(k+1+j)=_;omega,by simpa using h2,?_⟩
      rcases h3 with ⟨t',y',j2,h',s',h3,Lo,T',k1,k2,k3,k4⟩ | h3
      ·refine .inl ⟨t',y',gg.length+j2,h',s',?_,Lo,T',k1,k2,k3,?_⟩
       ·rw [h3,show q+MJ (.io t gg)+j2=q+(gg.length+j2) by show q+gg.length+j2=_;omega]
       ·rw [oZ c4,List.drop_drop,hlen] at k4
        exact k4
      ·exact .inr h3
    by_cases Px:∃ e,p = .ioa e
    ·obtain ⟨e,rfl⟩:=Px
     have I8:=ga hy
     rw [I8] at ha
     obtain ⟨b,cap,cur,T,rfl,rfl,hv,hh,Co,hle,CL,HH,BO⟩:=ha
     refine ⟨by show r.length+1=1+I7 ps;omega,fun id c hid=>?_⟩
     have Nf:(bif Nat.beq id (pid0+k) then some (Con.arr e y false) else IZ (J5 ps z (k+GU (.ioa e)) (q+MJ (.ioa e))) id)=some c:=hid
     cases hb:Nat.beq id (pid0+k) with
     | true=>
      rw [hb] at Nf
      cases Nf
      exact ⟨0,b,Nat.eq_of_beq_eq_true hb,rfl, .inr ⟨e,y,cur,T,rfl,hh,by rw [Co];exact AJ _ hle,by omega,BO⟩⟩
     | false=>
      rw [hb] at Nf
      obtain ⟨j,b',h1,h2,h3⟩:=nd id c Nf
      refine ⟨j+1,b',by rw [h1];show _+(k+1+j)=_;omega,by simpa using h2,h3⟩
    ·have Uu:GU p=0:=by cases p <;> first | rfl | exact absurd ⟨_,_,rfl⟩ hp | exact absurd ⟨_,rfl⟩ Px
     have hp1:MJ p=0:=by cases p <;> first | rfl | exact absurd ⟨_,_,rfl⟩ hp
     obtain ⟨h1,rfl,rfl⟩:=U8 (Vu Uu hy) ha
     refine ⟨by show _=GU p+I7 ps;omega,fun id c hid=>?_⟩
     have:J5 (p :: ps) (y,z) k q=J5 ps z (k+GU p) (q+MJ p):=by
      show (match ir q p y with | some c=>_ | none=>_)=_
      rw [Ywm Uu]
     rw [this] at hid
     obtain ⟨j,b',h1,h2,h3⟩:=nd id c hid
     exact ⟨j,b',by rw [h1,Uu];rfl,h2,by rw [hp1] at h3;exact h3⟩
   ·cases h
  ·cases h
theorem Yjt {u:Ty} {av:AV} {x:u.D} {v:Value} (h:av.as u=some x) (hr:RepA ok g σ w av v):∃ cs,RepD ok w u x cs∧v=valOf u cs∧Hg g σ.r w (av.tags u) cs:=by
 cases av with
 | dat t y gs=>
  obtain ⟨cs,h1,h2,h3⟩:=hr
  obtain ⟨e,he⟩:=Fj h
  subst e
  subst he
  exact ⟨cs,h1,h2,h3⟩
 | nils=>
  cases u with
  | sl e=>
   cases h
   have:v = .slice none 0 0:=hr
   subst this
   refine ⟨[.slice none 0 0],⟨none,0,0,rfl,rfl,Ah _,Nat.zero_le _,fun i x h=>by simp at h⟩,rfl,?_⟩
   intro t ht
   cases List.mem_singleton.1 ht
   exact ⟨fun _=>rfl,fun h=>absurd rfl h⟩
  | _=>cases h
 | _=>cases h
theorem so {t:Tag} {i:Nat} {cs:List Value}:∀ {gs:List Tag},Wy σ t gs=some i→Hg g σ.r w gs cs→(i=0→cs[t.off]? = some (.slice none 0 0))∧(i≠0→TV g w t.sz i cs[t.off]?)
 | [],h,_=>by cases h
 | x :: gs,h,hk=>by
  unfold Wy at h
  split at h
  ·rename_i hx
   have Dt:=hk x (Av ..)
   split at h
   ·rename_i h0
    cases h
    exact ⟨fun _=>hx.1 ▸ Dt.1 h0,fun h=>absurd rfl h⟩
   ·rename_i h0
    split at h
    ·rename_i hv
     cases h
     exact ⟨fun h=>absurd h h0,fun _=>by rw [← hx.1,← hx.2];exact (Dt.2 h0).2 hv⟩
    ·cases h
  ·exact so h fun y hy=>hk y (Az _ hy)
def rowsOf (g:G) (ids:List Nat) (j:Nat):Option (Nat×Nat):=match ids[j]? with
 | some 0=>none
 | some i=>g.rw i
 | none=>none
theorem gb {gs:List Tag} {cs:List Value} (hk:Hg g σ.r w gs cs) {ids:List Nat}:∀ {want:List Tag} {l:List Nat} (j:Nat),Mw σ gs want=some l→(∀ i,i<l.length→ids[j+i]? = l[i]?)→
  OX (rowsOf g ids) w cs j want∧Ge want=l.length
 | [],l,j,h,_=>by cases h;exact ⟨trivial,rfl⟩
 | t :: r,l,j,h,hi=>by
  unfold Mw at h
  split at h
  ·cases h
  ·rename_i h0
   split at h
   ·rename_i i ht
    split at h
    ·rename_i l' GS
     cases h
     obtain ⟨h1,h2⟩:=gb hk (ids:=ids) (j+1) GS fun i hi'=>by
      have:=hi (i+1) (by simp;omega)
      rw [show j+1+i=j+(i+1) by omega,this];rfl
     unfold OX Ge
     rw [if_neg h0,if_neg h0]
     refine ⟨⟨?_,h1⟩,by rw [h2];rfl⟩
     obtain ⟨k1,k2⟩:=so ht hk
     by_cases hz:i=0
     ·exact .inl (k1 hz)
     ·rcases k2 hz with LX | ⟨b,n,cap,cur,T,hv,ER,rest⟩
      ·exact .inl LX
      ·refine .inr ⟨b,n,cap,cur,T,hv,?_,rest⟩
       show rowsOf g ids j=_
       have:=hi 0 (by simp)
       unfold rowsOf
       rw [show ids[j]? = some i from this]
       cases i with
       | zero=>exact absurd rfl hz
       | succ i=>exact ER
    ·cases h
   ·cases h
def QD (tmps:Array Value):ResultVar→Sem Value
 | .tmp t=>pure (tmps.getD t undef)
 | .cell a t=>do loadVar t (← asAddr (tmps.getD a undef))
theorem eK {R:Type} {y:R}:∀ {ts:List ResultVar} {r:Option R},lens E σ ts r=some y→(∀ t∈ts,∀ c,Wz E σ t=some c→c=true)∧r=some y
 | [],r,h=>⟨fun _ ht=>(by cases ht),h⟩
 | t :: ts,r,h=>by
  unfold lens at h
  split at h
  ·rename_i c hc
   cases c with
   | false=>cases h
   | true=>
    obtain ⟨h1,h2⟩:=eK (ts:=ts) h
    refine ⟨fun t' GV c' CP=>?_,h2⟩
    rcases List.mem_cons.1 GV with rfl | GV
    ·rw [hc] at CP;cases CP;rfl
    ·exact h1 t' GV c' CP
  ·rename_i hc
   obtain ⟨h1,h2⟩:=eK (ts:=ts) h
   refine ⟨fun t' GV c' CP=>?_,h2⟩
   rcases List.mem_cons.1 GV with rfl | GV
   ·rw [hc] at CP;cases CP
   ·exact h1 t' GV c' CP
theorem Yxm (hI:Inv B ok0 w0 g σ a w) {id b:Nat} {f fz:Bool} {e:Ty} {l:List e.D} {m:Nat} (hb:g.bx id=some (b,f)) (hc:σ.c id=some (.arr e l fz)) (hlen:List.length (α:=e.D) l=m+1):
  ∃ cs,RepD (okG B ok0 g w) w (.arr m e) l cs∧∀ (j:Nat) v,cs[j]? = some v→w.cell? ⟨b,j,none⟩=some v:=by
 obtain ⟨Jv,cur,TT,ym,hh,Il,Bu,CL,BO⟩:=hI.Hj hb hc
 obtain ⟨cs,EG,Co,_⟩:=SO (ok:=okG B ok0 g w) (w:=w) (e:=e) (c:=fun k=>cur[k]?) (l:=l) (base:=0) (fun i x hi=>by
  obtain ⟨ys,hy,B4⟩:=BO i x hi
  exact ⟨ys,hy,fun j u hj=>by rw [Au];exact B4 j u hj⟩)
 refine ⟨cs,⟨hlen,by rw [EG.1,hlen],fun i x hi=>?_⟩,fun j v hj=>?_⟩
 ·obtain ⟨ys,hy,B4⟩:=EG.2 i x hi
  have Hb:=hy.len
  have:(cs.drop (i*e.sz)).take e.sz=ys:=by
   apply List.ext_getElem?
   intro j
   rw [AA]
   split
   ·rename_i hj
    rw [List.getElem?_drop,Ap (show j<ys.length by omega)]
    exact B4 j _ (Ap (by omega))
   ·rw [List.getElem?_eq_none (by omega)]
  rw [this]
  exact hy
 ·have:=Co j v hj
  simp only [World.cell?,hh]
  simpa using this
theorem Yym (hE:EnvOk P E) (hI:Inv B ok0 w0 g σ a w) {t:ResultVar} {u:Ty} {x:u.D} (AO:∀ c,Wz E σ t=some c→c=true) (h:(Pu E σ t).as u=some x):
  ∃ v,(QD a.tmps t).run P w = .ok v w∧RepA (okG B ok0 g w) g σ w (Pu E σ t) v:=by
 unfold Pu at *
 cases t with
 | tmp t=>exact ⟨_,rfl,hI.slots t⟩
 | cell s T=>
  dsimp only at *
  have rx:=hI.slots s
  split at h
  ·rename_i id ver off hx
   rw [hx] at rx
   split at h
   ·rename_i hv
    obtain ⟨b,f,hb,hp⟩:=rx.2 hv
    split at h
    ·rename_i t z gs hc
     obtain ⟨Jv,cs,TT,hh,hr,_,ht⟩:=hI.Hj hb hc
     split at h
     ·rename_i u' hu
      split at h
      ·rename_i y hy
       obtain ⟨hs,cI⟩:=OR hy hr
       have hl:=(hE.ty T u' hu).load (b:=b) (o:=off) hs (fun j v hj=>by
        rw [AA] at hj
        split at hj
        ·rw [List.getElem?_drop] at hj
         simp only [World.cell?,hh]
         simpa using hj
        ·cases hj)
       refine ⟨valOf u' ((cs.drop off).take u'.sz),?_,by rw [if_pos hv];exact ⟨_,hs,rfl,gd ht⟩⟩
       unfold QD
       dsimp only
       rw [show a.tmps.getD s undef = .pointer (some ⟨b,off,none⟩) from hp]
       simp only [asAddr,Sem.run_bind,Sem.run_pure,Result.andThen_ok,hl]
      ·cases h
     ·cases h
    ·rename_i e l fz hc
     split at h
     ·rename_i m e' hT
      split at h
      ·rename_i h0
       split at h
       ·rename_i l' GS
        obtain ⟨ee,Dt⟩:=Fj GS
        have Ss:e=e':=by cases ee;rfl
        subst Ss
        have W4:l=l':=Dt
        subst W4
        have hlen:List.length (α:=e.D) l=m+1:=Ak (AO _ (by unfold Wz;simp only [hx,hc,hT]))
        obtain ⟨cs,E0,Co⟩:=Yxm hI hb hc hlen
        have hl:=(hE.ty T _ hT).load (b:=b) (o:=off) E0 (fun j v hj=>by rw [h0,Au];exact Co j v hj)
        refine ⟨valOf (.arr m e) cs,?_,by rw [if_pos hv,if_pos h0];exact ⟨cs,E0,rfl,fun t ht=>by cases ht⟩⟩
        unfold QD
        dsimp only
        rw [show a.tmps.getD s undef = .pointer (some ⟨b,off,none⟩) from hp]
        simp only [asAddr,Sem.run_bind,Sem.run_pure,Result.andThen_ok,hl]
       ·cases h
      ·cases h
     ·cases h
    ·cases h
   ·cases h
  ·cases h
theorem uI (hI:Inv B ok0 w0 g σ a w) (id ver:Nat):∃ g',Inv B ok0 w0 g' (b9 σ id ver) a w:=by
 unfold b9
 split
 ·rename_i hv
  have hid:id<pid0:=Nat.le_of_ble_eq_true hv.2
  split
  ·rename_i e l fz hc
   cases hb:g.bx id with
   | none=>exact ⟨g,(hI.eL hc hb).1⟩
   | some q=>
    obtain ⟨b,f⟩:=q
    obtain ⟨g',_,B9,_⟩:=hI.freeze hc hb hid
    exact ⟨g',B9⟩
  ·exact ⟨g,hI⟩
 ·exact ⟨g,hI⟩
theorem gh:∀ (ts:List ResultVar) {σ:St} {g:G},Inv B ok0 w0 g σ a w→∃ g',Inv B ok0 w0 g' (Ub ts σ) a w
 | [],_,g,hI=>⟨g,hI⟩
 | .tmp t :: ts,σ,g,hI=>by
  have:∃ g',Inv B ok0 w0 g' (me σ (σ.t t)) a w:=by
   unfold me
   split
   ·exact uI hI _ _
   ·exact uI hI _ _
   ·exact ⟨g,hI⟩
  obtain ⟨g',B9⟩:=this
  exact gh ts B9
 | .cell _ _ :: ts,σ,g,hI=>gh ts hI
theorem Zj5 (hI:Inv B ok0 w0 g σ a w) {av:AV} {v:Value} (hr:RepA (okG B ok0 g w) g σ w av v):RepA (okG B ok0 g w) g σ w (bl σ av) v:=by
 have L1:∀ {id b:Nat} {f:Bool} {e:Ty} {l:List e.D},σ.c id=some (.arr e l true)→g.bx id=some (b,f)→∃ cur T y,w.heap[b]? = some (.cells cur T y)∧(∀ o,okG B ok0 g w b o)∧
   ∀ (i:Nat) (x:e.D),l[i]? = some x→∃ ys,RepD (okG B ok0 g w) w e x ys∧∀ j u,ys[j]? = some u→cur[i*e.sz+j]? = some u:=by
  intro id b f e l hc hb
  obtain ⟨hf,cur,T,ym,hh,_,_,_,BO⟩:=hI.Hj hb hc
  subst hf
  have E2:=hI.bb id b true hb
  have Im:B.n≤b:=by rcases E2.1 with h | h;exact h;exact absurd h.2.1 (by simp)
  refine ⟨cur,T,ym,hh,fun o=> .inr ⟨.inl Im,E2.2,fun id' he=>?_,fun id' u he=>?_⟩,BO⟩
  ·have:=hI.bi _ _ _ _ _ he hb
   subst this
   rw [hb] at he
   cases he
  ·exact absurd hb ((hI.rb id' b u he).2.2 id true)
 unfold bl
 split
 ·rename_i id ver
  split
  ·rename_i hv
   split
   ·rename_i e l hc
    obtain ⟨e2,l2,Hp,B2,Io⟩:=hr.2 hv
    rw [hc] at B2;cases B2
    rcases Io with ⟨hn,Iw,hv⟩ | ⟨b,f,cap,cur,T,ym,hb,hh,Co,hle,CL,hv⟩
    ·have W6:l=[]:=AI Iw
     subst W6
     exact ⟨[v],by rw [hv];exact ⟨none,0,0,rfl,rfl,Ah _,Nat.zero_le _,fun i x hi=>by simp at hi⟩,rfl,fun t ht=>by cases ht⟩
    ·obtain ⟨cur',T',y',DS,BE,BO⟩:=L1 hc hb
     refine ⟨[v],?_,rfl,fun t ht=>by cases ht⟩
     rw [hv]
     refine ⟨_,_,_,rfl,rfl,hle,CL,fun i x hi=>?_⟩
     obtain ⟨ys,hy,B4⟩:=BO i x hi
     refine ⟨_,rfl,rfl,ys,hy,fun j u hj=>⟨BE _,?_⟩⟩
     simp only [World.cell?,DS,Au]
     exact B4 j u hj
   ·trivial
  ·trivial
 ·rename_i id ver lo n
  split
  ·rename_i hv
   split
   ·rename_i e l hc
    obtain ⟨e2,l2,Hp,A,cap,B2,MK,Fa,Kf,hA,KH,hp⟩:=hr.2 hv
    rw [hc] at B2;cases B2
    refine ⟨[v],?_,rfl,fun t ht=>by cases ht⟩
    rw [hp]
    refine ⟨_,_,_,rfl,by rw [Ag,List.length_drop];omega,Fa,Kf,fun i x hi=>?_⟩
    obtain ⟨CB,hi'⟩:=dh hi
    obtain ⟨b2,f2,Da,PN⟩:=hA (by omega)
    obtain ⟨cur',T',y',DS,BE,BO⟩:=L1 hc Da
    obtain ⟨ys,hy,B4⟩:=BO _ x hi'
    refine ⟨_,PN,rfl,ys,hy,fun j u hj=>⟨BE _,?_⟩⟩
    simp only [World.cell?,DS]
    rw [show lo*e.sz+(i*e.sz+j)=(lo+i)*e.sz+j by rw [Nat.add_mul];omega]
    exact B4 j u hj
   ·trivial
  ·trivial
 ·exact hr
def Lc (σ:St):List AV→List Dat→List Nat→Prop
 | [],[],l=>l=[]
 | av :: On,d :: ds,l=>av.as d.t=some d.x∧∃ l1 l2,Mw σ (av.tags d.t) d.g=some l1∧l=l1++l2∧Lc σ On ds l2
 | _,_,_=>False
theorem eM:∀ {On:List AV} {rs:List (Ty×List Tag)} {y:DX rs} {l:List Nat},R6 σ On rs=some (y,l)→Lc σ On (Fo rs y) l
 | [],[],_,_,h=>by cases h;rfl
 | [],_ :: _,_,_,h=>by cases h
 | [_],[],_,_,h=>by cases h
 | _ :: _ :: _,[],_,_,h=>by cases h
 | [v],[u],y,l,h=>by
  unfold R6 at h
  split at h
  ·rename_i x l' hx GS
   cases h
   exact ⟨hx,l,[],GS,by simp,rfl⟩
  ·cases h
 | [_],_ :: _ :: _,_,_,h=>by cases h
 | _ :: _ :: _,[_],_,_,h=>by cases h
 | v :: v2 :: vs,u :: u2 :: rs,y,l,h=>by
  unfold R6 at h
  split at h
  ·rename_i x l' z hx GS hz
   cases h
   exact ⟨hx,l',z.2,GS,rfl,eM hz⟩
  ·cases h
theorem Lc.split:∀ {a b:List AV} {ds:List Dat} {l:List Nat},Lc σ (a++b) ds l→∃ l1 l2,l=l1++l2∧Lc σ a (ds.take a.length) l1∧Lc σ b (ds.drop a.length) l2
 | [],_,ds,l,h=>⟨[],l,rfl,rfl,h⟩
 | v :: a,b,[],l,h=>h.elim
 | v :: a,b,d :: ds,l,⟨h1,l1,l2,h2,h3,h4⟩=>by
  obtain ⟨m1,m2,k1,k2,k3⟩:=Lc.split h4
  exact ⟨l1++m1,m2,by rw [h3,k1,Al],⟨h1,l1,m1,h2,rfl,k2⟩,k3⟩
theorem Lc.len:∀ {a:List AV} {ds:List Dat} {l:List Nat},Lc σ a ds l→ds.length=a.length
 | [],[],_,_=>rfl
 | _ :: _,_ :: _,_,⟨_,_,_,_,_,h⟩=>by rw [Aj,Aj,h.len]
 | [],_ :: _,_,h=>h.elim
 | _ :: _,[],_,h=>h.elim
theorem sq {ids:List Nat}:∀ {On:List AV} {ds:List Dat} {vs:List Value} {l:List Nat} (j:Nat),Lc σ On ds l→CA (fun av v=>RepA ok g σ w av v) On vs→(∀ i,i<l.length→ids[j+i]? = l[i]?)→
  K4 ok (rowsOf g ids) w j ds vs
 | [],[],[],_,_,_,_,_=>trivial
 | av :: On,d :: ds,v :: vs,l,j,⟨h1,l1,l2,h2,h3,h4⟩,hr,hi=>by
  subst h3
  obtain ⟨cs,k1,k2,k3⟩:=Yjt h1 hr.1
  have hf:=gb (ids:=ids) k3 j h2 fun i hi'=>by rw [hi i (by simp;omega),AD hi']
  refine ⟨⟨cs,k1,k2,hf.1⟩,?_⟩
  rw [hf.2]
  exact sq (j+l1.length) h4 hr.2 fun i hi'=>by
   rw [Nat.add_assoc,hi (l1.length+i) (by simp;omega),Aw (by omega)]
   congr 1
   omega
 | [],_ :: _,_,_,_,h,_,_=>h.elim
 | _ :: _,[],_,_,_,h,_,_=>h.elim
 | [],[],_ :: _,_,_,_,h,_=>h.elim
 | _ :: _,_ :: _,[],_,_,_,h,_=>h.elim
theorem su (hE:EnvOk P E) (hI:Inv B ok0 w0 g σ a w):∀ {ts:List ResultVar} {ds:List Dat} {l:List Nat},(∀ t∈ts,∀ c,Wz E σ t=some c→c=true)→Lc σ (TU E σ ts) ds l→
  ∃ vs,CA (fun rv v=>(QD a.tmps rv).run P w = .ok v w) ts vs∧CA (fun av v=>RepA (okG B ok0 g w) g σ w av v) (TU E σ ts) vs
 | [],_,_,_,_=>⟨[],trivial,trivial⟩
 | t :: ts,[],_,_,h=>h.elim
 | t :: ts,d :: ds,l,AO,⟨h1,_,l2,_,_,h2⟩=>by
  obtain ⟨vs,k1,k2⟩:=su hE hI (fun t' GV=>AO t' (Az _ GV)) h2
  have:∃ v,(QD a.tmps t).run P w = .ok v w∧RepA (okG B ok0 g w) g σ w (Pu E σ t) v:=by
   cases t with
   | tmp t=>exact ⟨_,rfl,hI.slots t⟩
   | cell s T=>
    have Cb:∀ (av:AV),(bl σ av).as d.t=some d.x→(∃ u x gs,av = .dat u x gs)∨av = .nils∨(∃ id ver,av = .slw id ver)∨∃ id ver lo n,av = .slm id ver lo n:=by
     intro av h
     cases av with
     | dat u x gs=>exact .inl ⟨u,x,gs,rfl⟩
     | nils=>exact .inr (.inl rfl)
     | slw id ver=>exact .inr (.inr (.inl ⟨id,ver,rfl⟩))
     | slm id ver lo n=>exact .inr (.inr (.inr ⟨id,ver,lo,n,rfl⟩))
     | _=>cases h
    have C8:(Pu E σ (.cell s T) = .undef)∨∃ u x gs,Pu E σ (.cell s T) = .dat u x gs:=by
     unfold Pu
     dsimp only
     (repeat' split) <;> first | exact .inl rfl | exact .inr ⟨_,_,_,rfl⟩
    rcases C8 with hu | ⟨u,x,gs,hu⟩
    ·rw [hu] at h1;cases h1
    ·have hx:(Pu E σ (.cell s T)).as d.t=some d.x:=by rw [hu] at h1 ⊢;exact h1
     exact Yym hE hI (AO _ (Av ..)) hx
  obtain ⟨v,BA,hv⟩:=this
  exact ⟨v :: vs,⟨BA,k1⟩,Zj5 hI hv,k2⟩
theorem sw {want:List Tag} {l:List Nat} (h:Mw σ [] want=some l):want=[]∧l=[]:=by
 cases want with
 | nil=>cases h;exact ⟨rfl,rfl⟩
 | cons t r=>
  unfold Mw Wy at h
  split at h <;> cases h
theorem dM {R:Type} {y:R}:∀ {ps:List PK} {k:Nat} {r:Option R},NQ σ ps k r=some y→r=some y∧∀ (j:Nat) e0 e l f,ps[j]? = some (.ioa e0)→σ.c (pid0+(k+j))=some (.arr e l f)→0<List.length (α:=e.D) l
 | [],_,_,h=>⟨h,fun j _ _ _ _ h=>by simp at h⟩
 | p :: ps,k,r,h=>by
  have tail:NQ σ ps (k+1) r=some y→r=some y∧∀ (j:Nat) e0 e l f,ps[j]? = some (.ioa e0)→σ.c (pid0+(k+(j+1)))=some (.arr e l f)→0<List.length (α:=e.D) l:=fun h'=>by
   obtain ⟨h1,h2⟩:=dM h'
   exact ⟨h1,fun j e0 e l f hj hc=>h2 j e0 e l f hj (by rw [show k+1+j=k+(j+1) by omega];exact hc)⟩
  by_cases hp:∃ e,p = .ioa e
  ·obtain ⟨e,rfl⟩:=hp
   unfold NQ at h
   split at h
   ·rename_i e' l f hc
    cases hd:decide (0<List.length (α:=e'.D) l) with
    | false=>rw [hd] at h;cases h
    | true=>
     rw [hd] at h
     obtain ⟨h1,h2⟩:=tail h
     refine ⟨h1,fun j e0 e2 l2 f2 hj B2=>?_⟩
     cases j with
     | zero=>rw [Nat.add_zero,hc] at B2;cases B2;exact Ak hd
     | succ j=>exact h2 j e0 e2 l2 f2 (by simpa using hj) B2
   ·cases h
  ·have he:NQ σ (p :: ps) k r=NQ σ ps (k+1) r:=by
    cases p <;> first | rfl | exact absurd ⟨_,rfl⟩ hp
   rw [he] at h
   obtain ⟨h1,h2⟩:=tail h
   refine ⟨h1,fun j e0 e2 l2 f2 hj B2=>?_⟩
   cases j with
   | zero=>simp at hj;exact absurd ⟨_,hj⟩ hp
   | succ j=>exact h2 j e0 e2 l2 f2 (by simpa using hj) B2
theorem YD (hI:Inv B ok0 w0 g σ a w) {ids:List Nat}:∀ {qs:List PK} {k:Nat} {ds:List Dat} {l:List Nat} (j:Nat),Lc σ (Qs σ qs k) ds l→B.io.length=k+qs.length→(∀ (j:Nat) e0 e l f,qs[j]? = some (.ioa e0)→σ.c (pid0+(k+j))=some (.arr e l f)→0<List.length (α:=e.D) l)→
  (∀ i,i<l.length→ids[j+i]? = l[i]?)→Ld (okG B ok0 g w) (rowsOf g ids) w j (K9 qs ds) (B.io.drop k)
 | [],k,[],_,_,_,hl,_,_=>by rw [List.drop_eq_nil_of_le (by simp at hl;omega)];trivial
 | [],_,_ :: _,_,_,h,_,_,_=>h.elim
 | q :: qs,k,[],_,_,h,_,_,_=>h.elim
 | q :: qs,k,d :: ds,l,j,⟨h1,l1,l2,h4,h3,h2⟩,hl,hf,hi=>by
  subst h3
  rw [Aj] at hl
  have hk:k<B.io.length:=by omega
  rw [List.drop_eq_getElem_cons hk]
  have ML:∀ b f,g.bx (pid0+k)=some (b,f)→b=B.io[k]:=fun b f hb=>by
   have:=hI.nm _ _ _ (by omega) hb
   rw [show pid0+k-pid0=k by omega,Ap hk] at this
   exact (Option.some.inj this).symm
  have Jv:∀ (j:Nat) e0 e l f,qs[j]? = some (.ioa e0)→σ.c (pid0+(k+1+j))=some (.arr e l f)→0<List.length (α:=e.D) l:=fun j e0 e l f hj hc=>
   hf (j+1) e0 e l f (by simpa using hj) (by rw [show k+(j+1)=k+1+j by omega];exact hc)
  cases q with
  | io t0 g0=>
   have h1:(Pg σ (.io t0 g0) (pid0+k)).as d.t=some d.x:=h1
   unfold Pg at h1 h4
   dsimp only at h1 h4
   split at h1
   ·rename_i t x gs hc
    rw [hc] at h4
    obtain ⟨b,f,hb,Xw,cs,T,hh,hr,Oo,Su⟩:=hI.mg hc (fun _ _ _ he=>by cases he)
    have:=ML _ _ hb
    subst this
    obtain ⟨e,_⟩:=Fj (h1:C7 (t:=t) d.t x=some d.x)
    obtain ⟨q1,q2⟩:=gb (ids:=ids) Su j (h4:Mw σ gs d.g=some l1) fun i hi'=>by rw [hi i (by simp;omega),AD hi']
    refine ⟨⟨cs,T,hh,hr.cast h1,by rw [← e];exact Oo,q1⟩,?_⟩
    show Ld _ _ _ (j+Ge d.g) _ _
    rw [q2]
    exact YD hI (k:=k+1) (j+l1.length) h2 (by omega) Jv fun i hi'=>by
     rw [Nat.add_assoc,hi (l1.length+i) (by simp;omega),Aw (by omega)]
     congr 1
     omega
   ·cases h1
  | ioa e0=>
   have h1:(Pg σ (.ioa e0) (pid0+k)).as d.t=some d.x:=h1
   unfold Pg at h1 h4
   dsimp only at h1 h4
   split at h1
   ·rename_i e lx hc
    rw [hc] at h4
    obtain ⟨JR,Iw⟩:=sw (h4:Mw σ [] d.g=some l1)
    have HH:=hf 0 e0 e lx false rfl hc
    obtain ⟨dt,dx,dg⟩:=d
    obtain ⟨he,hx⟩:=Fj (h1:C7 (t:= .sl e) dt lx=some dx)
    dsimp only at he
    subst he
    have hx:lx=dx:=hx
    subst hx
    rcases hI.con _ _ hc with ⟨_,e2,fz,Uv⟩ | ⟨b,f,hb,Xw,cur,T,hh,q1,q2,q3⟩
    ·cases Uv
     simp at HH
    ·have:=ML _ _ hb
     subst this
     refine ⟨⟨rfl,cur,T,hh,q1,q2,q3⟩,?_⟩
     show Ld _ _ _ (j+0) _ _
     subst Iw
     exact YD hI (k:=k+1) j h2 (by omega) Jv fun i hi'=>by
      have:=hi i (by simpa using hi')
      simpa using this
   ·cases h1
  | val t=>exact absurd h1 (by intro h;cases h)
  | ref t=>exact absurd h1 (by intro h;cases h)
  | fn f ts=>exact absurd h1 (by intro h;cases h)
theorem sx {gs:List Tag}:∀ {want:List Tag} {l:List Nat},Mw σ gs want=some l→Ge want=l.length
 | [],l,h=>by cases h;rfl
 | t :: r,l,h=>by
  unfold Mw at h
  split at h
  ·cases h
  ·rename_i h0
   split at h
   ·split at h
    ·rename_i l' GS
     cases h
     unfold Ge
     rw [if_neg h0,sx GS]
     rfl
    ·cases h
   ·cases h
theorem sy:∀ {On:List AV} {ds:List Dat} {l:List Nat},Lc σ On ds l→JM ds=l.length
 | [],[],l,h=>by cases h;rfl
 | _ :: _,_ :: _,l,⟨_,l1,l2,h2,h3,h4⟩=>by
  unfold JM
  rw [sx h2,sy h4,h3,Ae]
 | [],_ :: _,_,h=>h.elim
 | _ :: _,[],_,h=>h.elim
theorem Yzm:∀ ds:List Dat,Zmh (Ml ds)=JM ds
 | []=>rfl
 | [_]=>rfl
 | _ :: _ :: _=>rfl
theorem K4.mono {ok ok':Nat→Nat→Prop} {ρ:Nat→Option (Nat×Nat)} (hm:∀ b o,ok b o→ok' b o):∀ {j:Nat} {ds:List Dat} {vs:List Value},K4 ok ρ w j ds vs→K4 ok' ρ w j ds vs
 | _,[],[],_=>trivial
 | _,[],_ :: _,h=>h.elim
 | _,_ :: _,[],h=>h.elim
 | _,_ :: _,_ :: _,⟨⟨cs,h1,h2,h3⟩,h4⟩=>⟨⟨cs,h1.mono fun b o hk=>⟨hm b o hk,rfl⟩,h2,h3⟩,h4.mono hm⟩
theorem o6 {fn:Func} {ts:List ResultVar} (h:fn.results=ts.toArray) (hl:ts.length≤4) {tmps:Array Value} {P:Program} {w:World} {vs:List Value}
  (hv:CA (fun rv v=>(QD tmps rv).run P w = .ok v w) ts vs):(results fn tmps).run P w = .ok (match vs with | [v]=>v | vs=> .tuple vs.toArray) w:=by
 have h0:results fn tmps=(do let vs ← fn.results.mapM (QD tmps);pure (if h:vs.size=1 then vs[0] else .tuple vs)):=by
  unfold results QD;rfl
 rw [h0,h]
 match ts,vs,hv,hl with
 | [],[],_,_=>simp
 | [_],[_],h,_=>simp [h.1]
 | [_,_],[_,_],h,_=>simp [h.1,h.2.1]
 | [_,_,_],[_,_,_],h,_=>simp [h.1,h.2.1,h.2.2.1]
 | [_,_,_,_],[_,_,_,_],h,_=>simp [h.1,h.2.1,h.2.2.1,h.2.2.2.1]
 | _ :: _ :: _ :: _ :: _ :: _,_,_,hl=>simp at hl
theorem Ld.mono {ok ok':Nat→Nat→Prop} {ρ:Nat→Option (Nat×Nat)} (hm:∀ b o,ok b o→ok' b o):∀ {j:Nat} {ds:List Con} {bs:List Nat},Ld ok ρ w j ds bs→Ld ok' ρ w j ds bs
 | _,[],[],_=>trivial
 | _,d :: ds,b :: bs,⟨h,h3⟩=>by
  refine ⟨?_,h3.mono hm⟩
  cases d with
  | var t x g=>obtain ⟨cs,T,h1,h2,h4⟩:=h;exact ⟨cs,T,h1,h2.mono (fun b o hk=>⟨hm b o hk,rfl⟩),h4⟩
  | arr e l f=>obtain ⟨hf,cur,T,y,h1,hy,h2,h3,h4⟩:=h;exact ⟨hf,cur,T,y,h1,hy,h2,h3,h4.mono hm⟩
  | val v=>exact h.elim
 | _,[],_ :: _,h=>h.elim
 | _,_ :: _,[],h=>h.elim
theorem eN (E:Env) (σ:St):∀ ts:List ResultVar,(TU E σ ts).length=ts.length
 | []=>rfl
 | _ :: ts=>by unfold TU;rw [Aj,Aj,eN E σ ts]
theorem pJ {ok:Nat→Nat→Prop}:∀ {l:List AV} {vs:List Value} {bs:List Nat} {rws:List (Option (Nat×Nat))},KV ok w l vs bs rws→l.length=vs.length
 | [],[],_,_,_=>rfl
 | _ :: _,_ :: _,_,_,⟨_,_,_,h⟩=>by rw [Aj,Aj,pJ h]
 | [],_ :: _,_,_,h=>h.elim
 | _ :: _,[],_,_,h=>h.elim
theorem sA {E:Env} (hE:EnvOk P E) (hC:GJ P E) (hm:P.follows .mixedOrders=true) {f:FuncId} {fn:Func} {c:Code} {ps:List PK} {R:Type} {kf:K R} {Q:Value→World→Prop}
    (hf:P.funcs[f]? = some fn) (hb:fn.body=some c) (CB:F9 fn.ntmps c=true) (Ek:ps.length≤fn.ntmps∧fn.ntmps≤pid0)
    {l:List AV} {x:DO ps} {y:R} {n:Nat} (hn:JO E (Li E (I6 E) n) (I6 E) c 0 (Q3 ps x) kf=some y) (hx:E6 ps l=some x) {ok0:Nat→Nat→Prop} {w:World} {vs:List Value} {bs:List Nat} {rws:List (Option (Nat×Nat))} (LR:∃ z,Lay.ok z w∧(∀ b∈bs,z≤b)∧∀ b u,some (b,u)∈rws→z≤b) (hk:∀ b o,ok0 b o→b<w.heap.size∧b∉bs∧∀ u,some (b,u)∈rws→o<u) (Hc:bs.Nodup) (DK:∀ b∈bs,b<w.heap.size)
    (C4:ZL w bs rws) (Cy:KV ok0 w l vs bs rws)
    (Yb1:∀ e σ' g1 a' w',kf e σ'=some y→Inv ⟨w.heap.size,bs,rws⟩ ok0 w g1 σ' a' w'→(∀ id,e≠ .exit id)∧a'.defers=[]∧∃ v,(results fn a'.tmps).run P w' = .ok v w'∧Q v w'):
    Calls P f vs.toArray w fun e w'=>∃ v,e = .returned v∧Q v w':=by
  refine calls_of_wp hf hb ?_
  have hlen:vs.length≤fn.ntmps:=by
    have h1:=pJ Cy
    have h2:∀ {ps:List PK} {l:List AV} {x:DO ps},E6 ps l=some x→l.length=ps.length:=by
      intro ps
      induction ps with
      | nil=>intro l x h;cases l with
        | nil=>rfl
        | cons _ _=>cases h
      | cons p ps ih=>
        intro l x h
        cases l with
        | nil=>cases h
        | cons a l=>
          unfold E6 at h
          split at h
          · split at h
            · rename_i z hz;rw [Aj,Aj,ih hz]
            · cases h
          · cases h
    have:=h2 hx
    omega
  have Bu:(vs.toArray++Array.replicate (fn.ntmps-vs.toArray.size) undef).size=fn.ntmps:=by simp;omega
  obtain ⟨hbl,Lb⟩:=Zh (ps:=ps) (x:=x) 0 0 hx Cy
  let Sv:Nat→Option (Nat×Bool):=fun id=>if pid0≤id then (match bs[id-pid0]? with | some b=>some (b,false) | none=>none) else none
  have Db:∀ id b f,Sv id=some (b,f)→pid0≤id∧bs[id-pid0]? = some b∧f=false:=fun id b f hh=>by
    simp only [Sv] at hh
    split at hh
    · rename_i hp
      split at hh
      · rename_i b' Ff;cases hh;exact ⟨hp,Ff,rfl⟩
      · cases hh
    · cases hh
  have mh:∀ j b,bs[j]? = some b→Sv (pid0+j)=some (b,false):=fun j b hj=>by
    simp only [Sv]
    rw [if_pos (by omega),show pid0+j-pid0=j by omega,hj]
  let Sw:Nat→Option (Nat×Nat):=fun id=>if B3 pid0 0≤id then (rws[id-B3 pid0 0]?).join else none
  have ml:∀ id b u,Sw id=some (b,u)→B3 pid0 0≤id∧rws[id-B3 pid0 0]? = some (some (b,u)):=fun id b u hh=>by
    simp only [Sw] at hh
    split at hh
    · rename_i hp
      refine ⟨hp,?_⟩
      cases hq:rws[id-B3 pid0 0]? with
      | none=>rw [hq] at hh;cases hh
      | some o=>rw [hq] at hh;have:o=some (b,u):=hh;rw [this]
    · cases hh
  have hI:Inv ⟨w.heap.size,bs,rws⟩ ok0 w ⟨Sv,Sw⟩ (Q3 ps x) { tmps:=vs.toArray++Array.replicate (fn.ntmps-vs.toArray.size) undef,defers:=[] } w:=
    { below := BelowX.refl _ _, hB := rfl, h0 := hk, hR := fun b u hm => ⟨(C4.2 b u hm).1, (C4.2 b u hm).2, fun u' Lm => by
        obtain ⟨i,hi⟩:=List.mem_iff_getElem?.1 hm
        obtain ⟨j,hj⟩:=List.mem_iff_getElem?.1 Lm
        have:=C4.1 i j b u u' hi hj
        subst this
        rw [hi] at hj
        cases hj
        rfl⟩,defers:=rfl,lay:=LR,tm:=by show Array.size _≤_;rw [Bu];exact Ek.2
      nm:=fun id b f _ hh=>(Db id b f hh).2.1
      bb:=fun id b f hh=>by
        obtain ⟨h1,h2,h3⟩:=Db id b f hh
        have Jm:=List.mem_of_getElem? h2
        exact ⟨.inr ⟨Jm,h3,h1⟩,DK b Jm⟩
      bi:=fun id id' b f f' e1 e2=>by
        obtain ⟨h1,h2,_⟩:=Db id b f e1
        obtain ⟨h3,h4,_⟩:=Db id' b f' e2
        have AO:=(List.getElem?_eq_some_iff.1 h2).1
        have:=(List.getElem?_inj AO Hc).1 (h2.trans h4.symm)
        omega
      rb:=fun id b u hh=>by
        obtain ⟨_,h2⟩:=ml id b u hh
        have hm:=List.mem_of_getElem? h2
        exact ⟨.inr ⟨u,hm,Ah _⟩,(C4.2 b u hm).1,fun id' f he=>(C4.2 b u hm).2 (List.mem_of_getElem? (Db id' b f he).2.1)⟩
      ri:=fun id id' b u u' e1 e2=>by
        obtain ⟨h1,h2⟩:=ml id b u e1
        obtain ⟨h3,h4⟩:=ml id' b u' e2
        have:=C4.1 _ _ b u u' h2 h4
        omega
      con:=fun id c hc=>by
        obtain ⟨j,b,h1,h2,h3⟩:=Lb id c hc
        subst h1
        rw [Au]
        rcases h3 with ⟨t,y,j2,h,s,h3,cs,T,h4,h5,h6,h7⟩ | ⟨e,l,cur,T,h3,h4,h5,h6,h7⟩
        · subst h3
          rw [Au]
          refine .inr ⟨b,false,mh j b h2,rfl,cs,T,h4,h5.mono (fun b o hk=>⟨.inl hk,rfl⟩),h6,sk (rws:=rws) (fun q=>?_) (fun _=>rfl) j2 h7⟩
          show Sw (B3 pid0 q)=_
          simp only [Sw]
          rw [if_pos (by unfold B3;omega),show B3 pid0 q-B3 pid0 0=q by unfold B3;omega]
        · subst h3
          exact .inr ⟨b,false,mh j b h2,rfl,cur,T,_,h4, .inl rfl,h5,h6,J9.mono (fun b o hk=> .inl hk) h7⟩
      slots:=fun t=>by
        have hv:(vs.toArray++Array.replicate (fn.ntmps-vs.toArray.size) undef).getD t undef=vs.getD t undef:=by
          rw [Array.getD_eq_getD_getElem?,Ax,Array.getElem?_append]
          by_cases ht:t<vs.length
          · simp [ht]
          · simp [ht]
            cases hh:(Array.replicate (fn.ntmps-vs.length) undef)[t-vs.length]? with
            | none=>rfl
            | some u=>
              have:=Array.getElem?_eq_some_iff.1 hh
              obtain ⟨_,h2⟩:=this
              simp at h2
              rw [← h2];rfl
        show RepA _ _ _ _ (MC (QC ps x 0 0) t) (Array.getD (vs.toArray++Array.replicate (fn.ntmps-vs.toArray.size) undef) t undef)
        rw [hv]
        exact sn (ok:=okG ⟨w.heap.size,bs,rws⟩ ok0 ⟨Sv,Sw⟩ w) (g:=⟨Sv,Sw⟩) (σ:=Q3 ps x) (w:=w) 0 0 0 t hx Cy (fun b o hk=> .inl hk)
          (fun j b hj=>⟨Nat.zero_le _,fun _=>⟨b,false,by rw [Au];exact mh j b hj,rfl⟩⟩) (fun id c hid=>⟨hid,rfl⟩) }
  refine iX hE hC (zJ hE hC (Zff hE hC hm fn.ntmps) n) (Zff hE hC hm fn.ntmps) c 0 _ _ _ _ _ _ _ CB hn ?_ hI Bu
  intro e σ' he g1 a' w' Gu Ev
  obtain ⟨h1,h2,v,h3,h4⟩:=Yb1 e σ' g1 a' w' he Gu
  cases e with
  | exit id=>exact absurd rfl (h1 id)
  | normal=>exact ⟨h2,v,h3,v,rfl,h4⟩
  | ret=>exact ⟨h2,v,h3,v,rfl,h4⟩
theorem uJ {E:Env} (hE:EnvOk P E) (hC:GJ P E) (hm:P.follows .mixedOrders=true) {f:FuncId} {fn:Func} {c:Code} {ts:List ResultVar} {ps:List PK} {rs:List (Ty×List Tag)} {F:DO ps→Option (DX rs)}
  (hf:P.funcs[f]? = some fn) (hb:fn.body=some c) (IP:fn.results=ts.toArray) (hl:ts.length≤4) (CB:F9 fn.ntmps c=true) (Ek:ps.length≤fn.ntmps∧fn.ntmps≤pid0)
  (h:∀ x y,F x=some y→∃ n,JO E (Li E (I6 E) n) (I6 E) c 0 (Q3 ps x) (fin E ts (ps.filter GQ) rs)=some y)
  {l:List AV} {x:DO ps} {y:DX rs} (hx:E6 ps l=some x) (hr:F x=some y) {ok0:Nat→Nat→Prop} {w:World} {vs:List Value} {bs:List Nat} {rws:List (Option (Nat×Nat))} (LR:∃ z,Lay.ok z w∧(∀ b∈bs,z≤b)∧∀ b u,some (b,u)∈rws→z≤b) (hk:∀ b o,ok0 b o→b<w.heap.size∧b∉bs∧∀ u,some (b,u)∈rws→o<u) (Hc:bs.Nodup) (DK:∀ b∈bs,b<w.heap.size)
  (C4:ZL w bs rws) (Cy:KV ok0 w l vs bs rws):
  Calls P f vs.toArray w fun e w'=>∃ v,e = .returned v∧(Fo rs y).length=ts.length+I7 ps∧BelowX ⟨w.heap.size,bs,rws⟩ w w'∧NS ok0 w w' (Ml ((Fo rs y).take ts.length)) (K9 (ps.filter GQ) ((Fo rs y).drop ts.length)) bs rws v:=by
 obtain ⟨n,hn⟩:=h x y hr
 have hbl:=(Zh (ps:=ps) (x:=x) 0 0 hx Cy).1
 refine sA hE hC hm hf hb CB Ek hn hx LR hk Hc DK C4 Cy fun e σ' g1 a' w' he Gu=>?_
 have key:mf E (Ub ts σ') ts (ps.filter GQ) rs=some y→a'.defers=[]∧∃ v,(results fn a'.tmps).run P w' = .ok v w'∧(Fo rs y).length=ts.length+I7 ps∧BelowX ⟨w.heap.size,bs,rws⟩ w w'∧
   NS ok0 w w' (Ml ((Fo rs y).take ts.length)) (K9 (ps.filter GQ) ((Fo rs y).drop ts.length)) bs rws v:=by
  intro GO
  obtain ⟨g',B9⟩:=gh ts Gu
  revert B9 GO
  generalize Ub ts σ' = σf
  intro GO B9
  unfold mf at GO
  obtain ⟨AO,GO⟩:=eK GO
  obtain ⟨GO,TW⟩:=dM GO
  have Xx:∀ ps:List PK,(ps.filter GQ).length=I7 ps:=fun ps=>by
   induction ps with
   | nil=>rfl
   | cons p ps ih=>
    unfold I7
    cases p <;> simp [List.filter_cons,GQ,GU,ih] <;> omega
  split at GO
  ·rename_i p hp
   obtain ⟨y',ids⟩:=p
   cases hd:Jr ids with
   | false=>rw [hd] at GO;cases GO
   | true=>
    rw [hd] at GO
    cases GO
    have hL:=eM hp
    obtain ⟨l1,l2,Znh,Xy,nf⟩:=hL.split
    rw [eN] at Xy nf
    obtain ⟨us,Sx,hua⟩:=su hE B9 AO Xy
    have hrd:=sq (ids:=ids) 0 Xy hua fun i hi=>by rw [Au,Znh,AD hi]
    have H8:=sy Xy
    have Iy:=YD (ids:=ids) B9 l1.length nf (by show bs.length=_;rw [Xx];omega) TW fun i hi=>by
     rw [Znh,Aw (by omega)]
     congr 1
     omega
    rw [List.drop_zero] at Iy
    have bm:=hL.len
    dsimp only at Xy nf hrd Iy bm H8 ⊢
    rw [Ae,eN] at bm
    have Yj4:∀ (m:List PK) k,(Qs σf m k).length=m.length:=fun m=>by
     induction m with
     | nil=>intro _;rfl
     | cons p m ih=>intro k;unfold Qs;rw [Aj,ih,Aj]
    rw [Yj4,Xx] at bm
    refine ⟨B9.defers,_,o6 IP hl Sx,bm,B9.below,?_⟩
    have BO:∀ j b u,rowsOf g' ids j=some (b,u)→∃ i,ids[j]? = some i∧i≠0∧g'.rw i=some (b,u):=fun j b u hj=>by
     unfold rowsOf at hj
     split at hj
     ·cases hj
     ·rename_i i Cb hi;exact ⟨i,hi,fun e=>Cb e,hj⟩
     ·cases hj
    have QP:∀ b o,okG ⟨w.heap.size,bs,rws⟩ ok0 g' w' b o→DE ok0 w w' rws (rowsOf g' ids) b o:=fun b o hk=>by
     rcases hk with hk | ⟨h1,h2,_,h4⟩
     ·exact .inl hk
     ·refine .inr ⟨h1,h2,fun j u hj=>?_⟩
      obtain ⟨i,_,_,hi⟩:=BO j b u hj
      exact h4 i u hi
    refine ⟨rowsOf g' ids,fun j b u hj=>?_,fun j k b u u' hj hk=>?_,by rw [Yzm,H8];exact Iy.mono QP,?_⟩
    ·obtain ⟨i,_,_,hi⟩:=BO j b u hj
     obtain ⟨h1,h2,_⟩:=B9.rb i b u hi
     exact ⟨h1,h2⟩
    ·obtain ⟨i,h1,h2,h3⟩:=BO j b u hj
     obtain ⟨i',QV,JN,Nj⟩:=BO k b u' hk
     have:=B9.ri i i' b u u' h3 Nj
     subst this
     exact YZ hd j k i h1 QV h2
    ·have Zoh:=hrd.mono QP
     generalize (Fo rs y').take ts.length=ds at Zoh ⊢
     match ds,us,Zoh with
     | [],[],_=>exact ⟨[],rfl,trivial⟩
     | [d],[v],h=>exact h.1
     | d :: d2 :: ds,v :: v2 :: us,h=>exact ⟨_,rfl,h⟩
  ·cases GO
 unfold fin at he
 cases e with
 | exit id=>cases he
 | normal=>exact ⟨(fun _ h=>nomatch h),key he⟩
 | ret=>exact ⟨(fun _ h=>nomatch h),key he⟩
theorem Znn {E:Env} (hE:EnvOk P E) (hC:GJ P E) (hm:P.follows .mixedOrders=true) {f:FuncId} {fn:Func} {c:Code} {ts:List ResultVar} {ps:List PK} {rs:List (Ty×List Tag)} {F:DO ps→Option (DX rs)}
  (hf:P.funcs[f]? = some fn) (hb:fn.body=some c) (IP:fn.results=ts.toArray) (hl:ts.length≤4) (CB:F9 fn.ntmps c=true) (Ek:ps.length≤fn.ntmps∧fn.ntmps≤pid0) (Iy:I7 ps=0)
  (h:∀ x y,F x=some y→∃ n,JO E (Li E (I6 E) n) (I6 E) c 0 (Q3 ps x) (fin E ts [] rs)=some y):AY P f (spec ps rs F):=by
 intro l r y hs hr ok0 w vs bs rws LR hk Hc DK C4 Cy
 unfold spec at hs
 split at hs
 ·rename_i x hx
  cases hs
  have hq:ps.filter GQ=[]:=by
   have:∀ ps:List PK,I7 ps=0→ps.filter GQ=[]:=fun ps=>by
    induction ps with
    | nil=>intro _;rfl
    | cons p ps ih=>
     intro h
     unfold I7 at h
     have h1:GU p=0:=by omega
     have h2:=ih (by omega)
     cases p <;> first | exact h2 | cases h1
   exact this ps Iy
  refine (uJ hE hC hm hf hb IP hl CB Ek (by rw [hq];exact h) hx hr LR hk Hc DK C4 Cy).mono fun e w' h=>?_
  obtain ⟨v,he,hlen,hB,Pv⟩:=h
  refine ⟨v,he,hB,?_⟩
  rw [Iy] at hlen
  rw [AF (by omega),List.drop_eq_nil_of_le (by omega),hq] at Pv
  exact Pv
 ·cases hs
theorem Zon {E:Env} (hE:EnvOk P E) (hC:GJ P E) (hm:P.follows .mixedOrders=true) {f:FuncId} {fn:Func} {c:Code} {ts:List ResultVar} {ps:List PK} {rs:List (Ty×List Tag)} {F:DO ps→Option (DX rs)}
  (hf:P.funcs[f]? = some fn) (hb:fn.body=some c) (IP:fn.results=ts.toArray) (hl:ts.length≤4) (CB:F9 fn.ntmps c=true) (Ek:ps.length≤fn.ntmps∧fn.ntmps≤pid0)
  (h:∀ x y,F x=some y→∃ n,JO E (Li E (I6 E) n) (I6 E) c 0 (Q3 ps x) (fin E ts (ps.filter GQ) rs)=some y):AY P f (Gp ts.length ps rs F):=by
 intro l r y hs hr ok0 w vs bs rws LR hk Hc DK C4 Cy
 unfold Gp at hs
 split at hs
 ·rename_i x hx
  cases hs
  refine (uJ hE hC hm hf hb IP hl CB Ek h hx hr LR hk Hc DK C4 Cy).mono fun e w' h=>?_
  obtain ⟨v,he,_,hB,Pv⟩:=h
  exact ⟨v,he,hB,Pv⟩
 ·cases hs
theorem Zau {k:Nat} {av:AV} {u:Ty} {x:u.D} (h:(WA σ k av).as u=some x):∃ e l,∃ n:Nat,σ.c (pid0+k)=some (.arr e l false)∧u = .int .i64∧HEq x (n:Int)∧
  (WA σ k av).tags u=[]∧((∃ ver,av = .slw (pid0+k) ver∧σ.v (pid0+k)=ver∧n=List.length (α:=e.D) l)∨∃ ver,av = .slm (pid0+k) ver 0 n∧σ.v (pid0+k)=ver):=by
 unfold WA at h ⊢
 cases av with
 | slw id ver=>
  dsimp only at h ⊢
  split at h
  ·rename_i hv
   obtain ⟨rfl,hv⟩:=hv
   split at h
   ·rename_i e l hc
    obtain ⟨e1,e2⟩:=Fj (h:C7 (t:= .int .i64) u _=some x)
    subst e1
    refine ⟨e,l,_,hc,rfl,?_,?_, .inl ⟨ver,rfl,hv,rfl⟩⟩
    ·exact heq_of_eq e2.symm
    ·rw [if_pos ⟨rfl,hv⟩];rfl
   ·cases h
  ·cases h
 | slm id ver lo n=>
  dsimp only at h ⊢
  split at h
  ·rename_i hv
   obtain ⟨rfl,hv,rfl⟩:=hv
   split at h
   ·rename_i e l hc
    obtain ⟨e1,e2⟩:=Fj (h:C7 (t:= .int .i64) u _=some x)
    subst e1
    refine ⟨e,l,n,hc,rfl,?_,?_, .inr ⟨ver,rfl,hv⟩⟩
    ·exact heq_of_eq e2.symm
    ·rw [if_pos ⟨rfl,hv,rfl⟩];rfl
   ·cases h
  ·cases h
 | _=>cases h
theorem uK:∀ {qs:List PK} {k0 k:Nat} {ds:List Dat} {l:List Nat} {e:Ty} {lx:List e.D},Lc σ (Qs σ qs k0) ds l→k<qs.length→σ.c (pid0+(k0+k))=some (.arr e lx false)→(∃ e0,qs[k]? = some (.ioa e0))∧(K9 qs ds)[k]? = some (.arr e lx false)
 | [],_,_,_,_,_,_,_,h,_=>by simp at h
 | q :: qs,k0,k,[],_,_,_,h,_,_=>h.elim
 | q :: qs,k0,0,d :: ds,l,e,lx,⟨h1,_⟩,_,hc=>by
  rw [Nat.add_zero] at hc
  cases q with
  | io t0 g0=>
   have h1:(Pg σ (.io t0 g0) (pid0+k0)).as d.t=some d.x:=h1
   unfold Pg at h1
   rw [hc] at h1
   cases h1
  | ioa e0=>
   have h1:(Pg σ (.ioa e0) (pid0+k0)).as d.t=some d.x:=h1
   unfold Pg at h1
   rw [hc] at h1
   refine ⟨⟨e0,rfl⟩,?_⟩
   obtain ⟨dt,dx,dg⟩:=d
   obtain ⟨he,hx⟩:=Fj (h1:C7 (t:= .sl e) dt lx=some dx)
   dsimp only at he
   subst he
   have hx:lx=dx:=hx
   subst hx
   rfl
  | _=>cases h1
 | q :: qs,k0,k+1,d :: ds,l,e,lx,⟨_,_,l2,_,_,h2⟩,hk,hc=>by
  obtain ⟨h3,h4⟩:=uK (k0:=k0+1) (k:=k) h2 (by simpa using hk) (by rw [show k0+1+k=k0+(k+1) by omega];exact hc)
  exact ⟨by simpa using h3,by unfold K9;simpa using h4⟩
theorem Zpn {E:Env} (hE:EnvOk P E) (hC:GJ P E) (hm:P.follows .mixedOrders=true) {f:FuncId} {fn:Func} {c:Code} {k t:Nat} {ps:List PK} {rs:List (Ty×List Tag)} {F:DO ps→Option (DX rs)}
  (hf:P.funcs[f]? = some fn) (hb:fn.body=some c) (IP:fn.results = #[.tmp t]) (CB:F9 fn.ntmps c=true) (Ek:ps.length≤fn.ntmps∧fn.ntmps≤pid0) (hk:k<I7 ps)
  (h:∀ x y,F x=some y→∃ n,JO E (Li E (I6 E) n) (I6 E) c 0 (Q3 ps x) (W2 k t (ps.filter GQ) rs)=some y):AY P f (O0 k ps rs F):=by
 intro l r y hs hr ok0 w vs bs rws LR cJ Hc DK C4 Cy
 unfold O0 at hs
 split at hs
 ·rename_i x hx
  cases hs
  obtain ⟨n,hn⟩:=h x y hr
  have hbl:=(Zh (ps:=ps) (x:=x) 0 0 hx Cy).1
  have Xx:∀ ps:List PK,(ps.filter GQ).length=I7 ps:=fun ps=>by
   induction ps with
   | nil=>rfl
   | cons p ps ih=>
    unfold I7
    cases p <;> simp [List.filter_cons,GQ,GU,ih] <;> omega
  refine sA hE hC hm hf hb CB Ek hn hx LR cJ Hc DK C4 Cy fun e σf g' a' w' he B9=>?_
  have key:NQ σf (ps.filter GQ) 0 (match R6 σf (WA σf k (σf.t t) :: Qs σf (ps.filter GQ) 0) rs with
    | some y=>bif Jr y.2 then some y.1 else none
    | none=>none)=some y→a'.defers=[]∧∃ v,(results fn a'.tmps).run P w' = .ok v w'∧BelowX ⟨w.heap.size,bs,rws⟩ w w'∧
    NS ok0 w w' (Zid k (Fo rs y)) (K9 (ps.filter GQ) ((Fo rs y).drop 1)) bs rws v:=by
   intro GO
   obtain ⟨GO,TW⟩:=dM GO
   split at GO
   ·rename_i p hp
    obtain ⟨y',ids⟩:=p
    cases hd:Jr ids with
    | false=>rw [hd] at GO;cases GO
    | true=>
     rw [hd] at GO
     cases GO
     have hL:=eM hp
     revert hL
     cases Xz:Fo rs y' with
     | nil=>intro hL;exact hL.elim
     | cons d ds=>
      intro hL
      obtain ⟨h1,l1,l2,h2,h3,h4⟩:=hL
      obtain ⟨dt,dx,dg⟩:=d
      obtain ⟨e,lx,m,hc,hu,ng,Su,Yc1⟩:=Zau h1
      dsimp only at hu
      subst hu
      have ng:dx=(m:Int):=eq_of_heq ng
      subst ng
      obtain ⟨JR,hl1⟩:=sw (by rw [← Su];exact h2)
      subst hl1
      rw [AH] at h3
      subst h3
      have Xp:k<(ps.filter GQ).length:=by rw [Xx];exact hk
      obtain ⟨⟨e0,hq⟩,Mv⟩:=uK (k0:=0) (k:=k) h4 Xp (by rw [Au];exact hc)
      have HH:=TW k e0 e lx false hq (by rw [Au];exact hc)
      have Iy:=YD (ids:=ids) B9 0 h4 (by show bs.length=_;rw [Xx];omega) TW fun i hi=>by rw [Au]
      rw [List.drop_zero] at Iy
      have Js:=B9.slots t
      have QI:∃ b cap A,bs[k]? = some b∧a'.tmps.getD t undef = .slice A m cap∧m≤cap∧cap≤maxLen∧m≤List.length (α:=e.D) lx∧(m≠0→A=some ⟨b,0,none⟩)∧(∀ a:Addr,A=some a→a.spot=none):=by
       have W7:∀ b f,g'.bx (pid0+k)=some (b,f)→bs[k]? = some b:=fun b f Db=>by
        have:=B9.nm _ _ _ (by omega) Db
        rwa [show pid0+k-pid0=k by omega] at this
       rcases Yc1 with ⟨ver,I8,hv,Lm⟩ | ⟨ver,I8,hv⟩
       ·rw [I8] at Js
        obtain ⟨e2,l2,Hp,B2,Io⟩:=Js.2 hv
        rw [hc] at B2
        cases B2
        obtain ⟨b,f,cap,Db,hle,CL,PD⟩:=Io.get HH
        exact ⟨b,cap,_,W7 b f Db,by rw [Lm];exact PD,by omega,CL,by omega,fun _=>rfl,fun a h=>by cases h;rfl⟩
       ·rw [I8] at Js
        obtain ⟨e2,l2,Hp,A,cap,B2,MK,Fa,Kf,hA,KH,PD⟩:=Js.2 hv
        rw [hc] at B2
        cases B2
        rcases B9.con _ _ hc with ⟨_,e2,fz,Uv⟩ | ⟨b,f,Db,_⟩
        ·cases Uv
         simp at HH
        ·refine ⟨b,cap,A,W7 b f Db,PD,Fa,Kf,by omega,fun h0=>?_,KH⟩
         obtain ⟨b2,f2,Da,PN⟩:=hA h0
         rw [Db] at Da
         cases Da
         rw [PN,Nat.zero_mul]
      obtain ⟨b,cap,A,nh,PD,hmc,CL,Jq,Sy,PN⟩:=QI
      refine ⟨B9.defers, .slice A m cap,?_,B9.below,?_⟩
      ·have:=o6 (fn:=fn) (ts:=[.tmp t]) (tmps:=a'.tmps) (P:=P) (w:=w') (vs:=[.slice A m cap]) IP (by simp) ⟨by show (pure (a'.tmps.getD t undef):Sem Value).run P w'=_;rw [PD];rfl,trivial⟩
       exact this
      ·have BO:∀ j b u,rowsOf g' ids j=some (b,u)→∃ i,ids[j]? = some i∧i≠0∧g'.rw i=some (b,u):=fun j b u hj=>by
        unfold rowsOf at hj
        split at hj
        ·cases hj
        ·rename_i i Cb hi;exact ⟨i,hi,fun e=>Cb e,hj⟩
        ·cases hj
       have QP:∀ b o,okG ⟨w.heap.size,bs,rws⟩ ok0 g' w' b o→DE ok0 w w' rws (rowsOf g' ids) b o:=fun b o hk=>by
        rcases hk with hk | ⟨h1,h2,_,h4⟩
        ·exact .inl hk
        ·refine .inr ⟨h1,h2,fun j u hj=>?_⟩
         obtain ⟨i,_,_,hi⟩:=BO j b u hj
         exact h4 i u hi
       refine ⟨rowsOf g' ids,fun j b u hj=>?_,fun j k b u u' hj hk=>?_,?_,?_⟩
       ·obtain ⟨i,_,_,hi⟩:=BO j b u hj
        obtain ⟨h1,h2,_⟩:=B9.rb i b u hi
        exact ⟨h1,h2⟩
       ·obtain ⟨i,h1,h2,h3⟩:=BO j b u hj
        obtain ⟨i',QV,JN,Nj⟩:=BO k b u' hk
        have:=B9.ri i i' b u u' h3 Nj
        subst this
        exact YZ hd j k i h1 QV h2
       ·exact Iy.mono QP
       ·show TX _ _ _ _ _ _ _ _ (.slp k (Int.toNat (m:Int)))
        exact ⟨b,cap,e,lx,false,A,nh,Mv,by rw [Int.toNat_natCast];exact Jq,by rw [Int.toNat_natCast];exact hmc,CL,by rw [Int.toNat_natCast];exact Sy,PN,by rw [Int.toNat_natCast]⟩
   ·cases GO
  unfold W2 at he
  cases e with
  | exit id=>cases he
  | normal=>exact ⟨(fun _ h=>nomatch h),key he⟩
  | ret=>exact ⟨(fun _ h=>nomatch h),key he⟩
 ·cases hs
end
end Go.AM
end

section
/- Tables of types: what the seat's facts must say for the environment to be sound. -/
namespace Go.AM
set_option linter.unusedSectionVars false
variable [Lay]
universe u
def look {α:Type u}:List (Nat×α)→Nat→Option α
 | [],_=>none
 | (i,a) :: r,k=>bif Nat.beq k i then some a else look r k
def AllL {α:Type} (p:α→Prop):List α→Prop
 | []=>True
 | a :: l=>p a∧AllL p l
theorem AllL.mem {α:Type} {p:α→Prop}:∀ {l:List α},AllL p l→∀ a∈l,p a
 | a :: l,h,b,hb=>by
  rcases List.mem_cons.1 hb with rfl | hb
  ·exact h.1
  ·exact AllL.mem h.2 b hb
theorem KP {α:Type u}:∀ {l:List (Nat×α)} {k:Nat} {a:α},look l k=some a→(k,a)∈l
 | [],_,_,h=>by cases h
 | (i,b) :: l,k,a,h=>by
  unfold look at h
  cases hb:Nat.beq k i with
  | true=>
   rw [hb] at h
   have:=Nat.eq_of_beq_eq_true hb
   subst this
   cases h
   exact Av ..
  | false=>rw [hb] at h;exact Az _ (KP h)
structure Tab where
 ty:List (Nat×Ty)
 fo:List (Nat×List (Nat×Ty))
 ar:List (Nat×(Nat×Ty))
 by_:List (Nat×Nat)
 eq:List (Nat×Ty)
structure Keeps where
 loop:List (Nat×Keep)
 blk:List (Nat×Keep)
 cut:List (Nat×Keep)
 ret:Keep
 bx:List Nat
 lend:List Nat
 inpl:List (Nat×List Bool)
 lit:List Nat
def Tab.env (tb:Tab) (call:Nat→Option Spec) (ks:Keeps):Env where
 ty:=look tb.ty
 fo:=fun S f=>(look tb.fo S).bind fun l=>l[f]?
 pl:=fun S f=>(look tb.fo S).bind fun l=>l[f]?
 ar:=look tb.ar
 by_:=fun T=>(look tb.by_ T).getD 0
 eq:=look tb.eq
 call:=call
 loop:=fun b=>(look ks.loop b).getD ⟨[],[]⟩
 blk:=look ks.blk
 cut:=look ks.cut
 ret:=ks.ret
 bx:=fun d=>ks.bx.any fun i=>Nat.beq i d
 lend:=fun d=>ks.lend.any fun i=>Nat.beq i d
 inpl:=fun f=>(look ks.inpl f).getD []
 lit:=fun d=>ks.lit.any fun x=>Nat.beq d x
section
variable (P : Program)
def SFact (S:Nat) (fl:List (Nat×Ty)):Prop:=∃ fs,P.underlying S=some (.struct fs)∧CA (fun (f:Field) (p:Nat×Ty)=>f.offset=p.1∧Fit P f.type p.2) fs.toList fl
def ArFact (T n:Nat) (e:Ty):Prop:=∃ ET,P.underlying T=some (.array n ET)∧Fit P ET e∧n≤maxLen∧
  ∃ i,P.info? T=some i∧i.zero=some (.agg (List.replicate n e.zcells).flatten.toArray)
def ByFact (tb:Tab) (T:Nat):Ty→Prop
 | .sl _=>∃ ET ie,P.underlying T=some (.slice ET)∧P.info? ET=some ie∧ie.bytes=(look tb.by_ T).getD 0∧0<(look tb.by_ T).getD 0
 | _=>True
def AggFact (tb:Tab) (T:Nat):Ty→Prop
 | .arr m e=>look tb.fo T=none∧look tb.ar T=some (m+1,e)
 | t=>t.isAgg=true→∃ fl,look tb.fo T=some fl
def EqAt (d:Nat) (T:Nat) (t:Ty):Prop:=∀ (ok:Nat→Nat→Prop) (w:World) (x y:t.D) (cs ds:List Value),RepD ok w t x cs→RepD ok w t y ds→
 (Op.equalIn d T (valOf t cs) (valOf t ds)).run P w = .ok (eqD t x y) w
def BX (n:Nat) (T:Nat) (t:Ty):Prop:=∀ d,n≤d→EqAt P d T t
def EqFact (T:Nat) (t:Ty):Prop:=(t.isAgg=true∧P.eqGuardType P.depth T=false∧BX P 10000 T t)∨(t = .bool∧P.underlying T=some .bool)
structure TabOk (tb:Tab):Prop where
 ty:AllL (fun p=>Fit P p.1 p.2∧ByFact P tb p.1 p.2∧AggFact tb p.1 p.2) tb.ty
 fo:AllL (fun p=>SFact P p.1 p.2) tb.fo
 ar:AllL (fun p=>ArFact P p.1 p.2.1 p.2.2) tb.ar
 eq:AllL (fun p=>EqFact P p.1 p.2) tb.eq
 slf:(tb.ty.all fun p=>!hasSlf p.2 || Nat.beq p.1 Lay.bld)=true
 byt:AllL (fun p=>p.2 = .sl (.int .u8)→P.underlying p.1=some (.slice Lay.byt)) tb.ty
 mixed:P.follows .mixedOrders=true
end
section
variable {P : Program} {tb : Tab}
theorem qy:∀ {fs:List Field} {fl:List (Nat×Ty)},CA (fun (f:Field) (p:Nat×Ty)=>f.offset=p.1∧Fit P f.type p.2) fs fl→
  fs.mapM (fun f=>(P.info? f.type).map fun i=>(f.offset,i.size))=some (fl.map fun p=>(p.1,p.2.sz))
 | [],[],_=>rfl
 | f :: fs,p :: fl,h=>by
  obtain ⟨⟨h1,h2⟩,h3⟩:=h
  obtain ⟨i,hi,hs,_⟩:=h2.info
  simp only [List.mapM_cons,hi,qy h3,Option.map_some,h1,hs,List.map_cons]
  rfl
 | [],_ :: _,h=>h.elim
 | _ :: _,[],h=>h.elim
theorem eq_int {T:Nat} {k:IntKind} (h:P.underlying T=some (.int k)):BX P 1 T (.int k):=by
 intro d hd ok w x y cs ds hx hy
 obtain ⟨d,rfl⟩:∃ e,d=e+1:=⟨d-1,by omega⟩
 simp only [RepD] at hx hy
 subst hx;subst hy
 exact run_equalIn_int w d T k k x y h
theorem Ytm {T:Nat} (h:P.underlying T=some .bool):BX P 1 T .bool:=by
 intro d hd ok w x y cs ds hx hy
 obtain ⟨d,rfl⟩:∃ e,d=e+1:=⟨d-1,by omega⟩
 simp only [RepD] at hx hy
 subst hx;subst hy
 exact run_equalIn_bool' w d T x y h
theorem Yls {T:Nat} (h:P.underlying T=some .string):BX P 1 T .str:=by
 intro d hd ok w x y cs ds hx hy
 obtain ⟨d,rfl⟩:∃ e,d=e+1:=⟨d-1,by omega⟩
 simp only [RepD] at hx hy
 subst hx;subst hy
 exact run_equalIn_string w d T x y h
theorem BX.mono {n m T:Nat} {t:Ty} (h:BX P n T t) (hm:n≤m):BX P m T t:=fun d hd=>h d (by omega)
def na (P:Program) (n:Nat):List Field→Nat→Ty→Prop
 | [f],off,a=>f.name≠ "_" ∧f.offset = off∧Fit P f.type a∧BX P n f.type a
 | f :: g :: fs,off, .pair a b=>(f.name≠ "_" ∧f.offset = off∧Fit P f.type a∧BX P n f.type a)∧na P n (g :: fs) (off + a.sz) b
 | _,_,_=>False
theorem Zg {f:Field} {u:Ty} (hf:Fit P f.type u) {ok:Nat→Nat→Prop} {w:World} {y:u.D} {c pre post:List Value} (hr:RepD ok w u y c) (hp:pre.length=f.offset):
  (part f.type (pre++(c++post)).toArray f.offset).run P w = .ok (valOf u c) w:=by
 have hc:((pre++(c++post)).drop f.offset).take u.sz=c:=by
  rw [← hp,List.drop_left,← hr.len,List.take_left]
 have:=uH (P:=P) (w:=w) hf (ok:=ok) (y:=y) (cs:=pre++(c++post)) (off:=f.offset) (by rw [hc];exact hr)
 rw [hc] at this
 exact this
theorem qz {n:Nat}:∀ {fs:List Field} {off:Nat} {t:Ty},na P n fs off t→∀ {d:Nat},n≤d→∀ {ok:Nat→Nat→Prop} {w:World} {x y:t.D} {cs ds pre pre':List Value},RepD ok w t x cs→RepD ok w t y ds→
  pre.length=off→pre'.length=off→(Op.eqFields d (pre++cs).toArray (pre'++ds).toArray fs).run P w = .ok (eqD t x y) w
 | [f],off,a,h,d,hd,ok,w,x,y,cs,ds,pre,pre',hx,hy,hp,Nn=>by
  obtain ⟨h1,h2,h3,h4⟩:=h
  have e1:=Zg h3 (post:=[]) (pre:=pre) hx (by rw [hp,h2])
  have e2:=Zg h3 (post:=[]) (pre:=pre') hy (by rw [Nn,h2])
  rw [Ay] at e1 e2
  have e3:=h4 d hd ok w x y cs ds hx hy
  simp only [Op.eqFields,if_pos h1,Sem.run_bind,e1,e2,e3,Result.andThen_ok]
  cases eqD a x y <;> simp
 | f :: g :: fs,off, .pair a b,h,d,hd,ok,w,x,y,cs,ds,pre,pre',hx,hy,hp,Nn=>by
  obtain ⟨⟨h1,h2,h3,h4⟩,h5⟩:=h
  obtain ⟨c1,c2,rfl,Ha,H9⟩:=hx
  obtain ⟨d1,d2,rfl,Ut,nc⟩:=hy
  have e1:=Zg h3 (post:=c2) (pre:=pre) Ha (by rw [hp,h2])
  have e2:=Zg h3 (post:=d2) (pre:=pre') Ut (by rw [Nn,h2])
  have e3:=h4 d hd ok w x.1 y.1 c1 d1 Ha Ut
  have e4:=qz h5 hd (pre:=pre++c1) (pre':=pre'++d1) H9 nc (by rw [Ae,hp,Ha.len]) (by rw [Ae,Nn,Ut.len])
  rw [Al,Al] at e4
  rw [Op.eqFields]
  simp only [if_pos h1,Sem.run_bind,e1,e2,e3,Result.andThen_ok]
  show _=Result.ok (eqD a x.1 y.1 && eqD b x.2 y.2) w
  cases eqD a x.1 y.1
  ·simp
  ·simpa using e4
 | [],_,_,h,_,_,_,_,_,_,_,_,_,_,_,_,_,_=>h.elim
 | _ :: _ :: _,_, .int _,h,_,_,_,_,_,_,_,_,_,_,_,_,_,_=>h.elim
 | _ :: _ :: _,_, .bool,h,_,_,_,_,_,_,_,_,_,_,_,_,_,_=>h.elim
 | _ :: _ :: _,_, .str,h,_,_,_,_,_,_,_,_,_,_,_,_,_,_=>h.elim
 | _ :: _ :: _,_, .sl _,h,_,_,_,_,_,_,_,_,_,_,_,_,_,_=>h.elim
 | _ :: _ :: _,_, .wrap _,h,_,_,_,_,_,_,_,_,_,_,_,_,_,_=>h.elim
 | _ :: _ :: _,_, .arr _ _,h,_,_,_,_,_,_,_,_,_,_,_,_,_,_=>h.elim
theorem KO {n T:Nat} {fs:Array Field} {a b:Ty} (hu:P.underlying T=some (.struct fs)) (hp:P.stoodInHeld T=false) (hf:na P n fs.toList 0 (.pair a b)):BX P (n+1) T (.pair a b):=by
 intro d hd ok w x y cs ds hx hy
 obtain ⟨d,rfl⟩:∃ e,d=e+1:=⟨d-1,by omega⟩
 have Om:P.fieldsOf T=fs:=by simp [Program.fieldsOf,hu]
 show (Op.equalIn (d+1) T (.agg cs.toArray) (.agg ds.toArray)).run P w=_
 rw [run_equalIn_struct (P:=P) w d T _ _ (by rw [Om];exact hu) hp,Om]
 exact qz hf (by omega) (pre:=[]) (pre':=[]) hx hy rfl rfl
theorem eI {t:Ty} (h:t.isAgg=true) (cs:List Value):valOf t cs = .agg cs.toArray:=by simp [valOf,h]
theorem Tab.ll (h:TabOk P tb) (call:Nat→Option Spec) (ks:Keeps):EnvOk P (tb.env call ks) where
 ty:=fun T t ht=>(h.ty.mem _ (KP ht)).1
 fo:=fun S f d u hf=>by
  obtain ⟨fl,h1,h2⟩:=Option.bind_eq_some_iff.1 hf
  obtain ⟨fs,h3,h4⟩:=h.fo.mem _ (KP h1)
  have hlen:fs.toList.length=fl.length:=h4.len
  have AO:f<fl.length:=(List.getElem?_eq_some_iff.1 h2).1
  have hfs:fs.toList[f]? = some fs.toList[f]:=Ap (by omega)
  obtain ⟨p,hp,h5,h6⟩:=h4.get hfs
  rw [h2] at hp
  cases hp
  exact ⟨fs,_,h3,by rw [← Array.getElem?_toList];exact hfs,h5,h6⟩
 ar:=fun T n e ha=>h.ar.mem _ (KP ha)
 by_:=fun T e ET ie ht hu hi=>by
  obtain ⟨ET',ie',h1,h2,h3,h4⟩:=(h.ty.mem _ (KP ht)).2.1
  rw [hu] at h1
  cases h1
  rw [hi] at h2
  cases h2
  exact ⟨h3,h4⟩
 byt:=fun T ET ht hu=>by
  have:=h.byt.mem _ (KP ht) rfl
  rw [hu] at this
  cases this
  rfl
 slf:=fun T t ht hs=>by
  have:=List.all_eq_true.1 h.slf _ (KP ht)
  simp only [hs,Bool.not_true,Bool.false_or] at this
  exact Nat.eq_of_beq_eq_true this
 arMax:=fun T m e ht=>by
  obtain ⟨_,h2⟩:=(h.ty.mem _ (KP ht)).2.2
  obtain ⟨_,_,_,h3,_⟩:=h.ar.mem _ (KP h2)
  exact h3
 pl:=fun T t ht ha=>by
  obtain ⟨DY,_,Oa⟩:=h.ty.mem _ (KP ht)
  have EP:∀ fl,look tb.fo T=some fl→∃ place:Nat→Option (Nat×Nat),(∀ i d u,(tb.env call ks).pl T i=some (d,u)→place i=some (d,u.sz))∧
    ∀ (w:World) (parts:Array (Nat×Value)) (cells:Array Value),Instr.fill place t.zcells.toArray parts.toList=some cells→(Instr.build T parts).run P w = .ok (.agg cells) w:=fun fl HQ=>by
   obtain ⟨fs,h3,h4⟩:=h.fo.mem _ (KP HQ)
   refine ⟨fun i=>(fl.map fun p=>(p.1,p.2.sz)).toArray[i]?,fun i d u hi=>?_,fun w parts cells hc=>?_⟩
   ·have hi':(look tb.fo T).bind (fun l=>l[i]?)=some (d,u):=hi
    rw [HQ] at hi'
    have Sq:fl[i]? = some (d,u):=hi'
    simp [Sq]
   ·obtain ⟨it,hit,_,hz⟩:=DY.info
    refine run_build w T parts cells ?_
    unfold Program.built
    rw [hit,h3]
    dsimp only
    rw [hz,qy h4]
    dsimp only
    rw [eI ha]
    exact hc
  cases t with
  | arr m e=>
   obtain ⟨Om,har⟩:=Oa
   obtain ⟨ET,hu,hfe,_,it,hit,hz⟩:=h.ar.mem _ (KP har)
   obtain ⟨ie,Em,_,_⟩:=hfe.info
   refine ⟨fun i=>some (i*ie.size,ie.size),fun i d u hi=>?_,fun w parts cells hc=>?_⟩
   ·have hi':(look tb.fo T).bind (fun l=>l[i]?)=some (d,u):=hi
    rw [Om] at hi'
    cases hi'
   ·refine run_build w T parts cells ?_
    unfold Program.built
    rw [hit,hu]
    dsimp only
    rw [hz,Em]
    exact hc
  | pair a b=>obtain ⟨fl,HQ⟩:=Oa ha;exact EP fl HQ
  | wrap a=>obtain ⟨fl,HQ⟩:=Oa ha;exact EP fl HQ
  | _=>cases ha
 eq:=fun T t he ok w x y cs ds p q hx hy=>by
  rcases h.eq.mem _ (KP he) with ⟨ha,hg,he⟩ | ⟨hb,hu⟩
  ·have:=he 10000 (Ah _) ok w x y cs ds hx hy
   rw [eI ha,eI ha] at this ⊢
   refine ⟨run_eqGuard_agg w _ T p q _ _ hg,run_eqGuard_agg w _ T p q _ _ hg,?_,?_⟩
   ·rw [run_eql_struct,this];rfl
   ·rw [run_neq_struct,this];rfl
  ·dsimp only at hb
   subst hb
   simp only [RepD] at hx hy
   subst hx;subst hy
   exact ⟨rfl,rfl,run_eql_bool w T x y hu,run_neq_bool w T x y hu⟩
 mixed:=h.mixed
end
end Go.AM
end

section
/- A law's row: arguments that can be read as data are represented; the call's answer. -/
namespace Go.AM
open Go.RowKit (Below)
set_option linter.unusedSectionVars false
variable [Lay]
mutual
/-- A type whose values are plain data of kind t, through and through. -/
inductive Deep (P:Program):Nat→Ty→Prop
 | int {T:Nat} {k:IntKind}:P.underlying T=some (.int k)→Deep P T (.int k)
 | bool {T:Nat}:P.underlying T=some .bool→Deep P T .bool
 | str {T:Nat}:P.underlying T=some .string→Deep P T .str
 | sl {T ET:Nat} {e:Ty}:P.underlying T=some (.slice ET)→P.cellsOf ET=e.sz→Deep P ET e→Deep P T (.sl e)
 | wrap {T:Nat} {fs:Array Field} {a:Ty}:P.underlying T=some (.struct fs)→P.cellsOf T=a.sz→fs.size=1→DeepF P fs.toList 0 a→Deep P T (.wrap a)
 | pair {T:Nat} {fs:Array Field} {a b:Ty}:P.underlying T=some (.struct fs)→P.cellsOf T=a.sz+b.sz→DeepF P fs.toList 0 (.pair a b)→Deep P T (.pair a b)
inductive DeepF (P:Program):List Field→Nat→Ty→Prop
 | last {f:Field} {off:Nat} {a:Ty}:f.offset=off→P.cellsOf f.type=a.sz→Deep P f.type a→DeepF P [f] off a
 | cons {f g:Field} {fs:List Field} {off:Nat} {a b:Ty}:f.offset=off→P.cellsOf f.type=a.sz→Deep P f.type a→DeepF P (g :: fs) (off+a.sz) b→DeepF P (f :: g :: fs) off (.pair a b)
end
def Nr:(t:Ty)→t.D→Prop
 | .int k,n=>(Lit.int k n).wf=true
 | .bool,_=>True
 | .str,s=>s.size≤maxLen
 | .sl e,l=>List.length (α:=e.D) l≤maxLen∧∀ x∈l,Nr e x
 | .wrap a,x=>Nr a x
 | .pair a b,x=>Nr a x.1∧Nr b x.2
 | .arr m e,l=>List.length (α:=e.D) l=m+1∧∀ x∈l,Nr e x
 | .lk _,_=>True
def RE (w:World) (b _o:Nat):Prop:=b<w.heap.size
theorem pI {w:World} {base:Nat} {a:Addr} {n:Nat} {cs:List Value} (h:w.cells? base a n=some cs):cs.length=n∧∀ j v,cs[j]? = some v→w.cell? (a.add j)=some v:=by
 unfold World.cells? at h
 split at h
 ·have hl:=mapM_some_length h
  rw [List.length_range] at hl
  refine ⟨hl,fun j v hj=>?_⟩
  have hjn:j<n:=by have:=(List.getElem?_eq_some_iff.1 hj).1;omega
  have:=mapM_some_get h j j (by simp [hjn])
  rw [this,hj]
 ·cases h
theorem Zh5 {w:World} {a:Addr} {v:Value} (h:w.cell? a=some v):a.block<w.heap.size:=by
 unfold World.cell? at h
 cases hb:w.heap[a.block]? with
 | none=>simp [hb] at h
 | some b=>exact (Array.getElem?_eq_some_iff.1 hb).1
section
variable {P : Program} {H : Type} {enc : TypeId × Value → H} {w : World} {base : Nat} {spare : Nat → Bool} {held : Bool}
theorem trod_int {T:Nat} {k:IntKind} {fuel:Nat} {cs:List Value} {p:DataW H×List MemPlace} (hu:P.underlying T=some (.int k)) (h:DataW.trod enc P w base spare held (fuel+1) T cs=some p):∃ n,cs=[.int k n]∧(Lit.int k n).wf=true:=by
 unfold DataW.trod at h
 rw [hu] at h
 dsimp only at h
 split at h <;> simp_all
theorem trod_bool {T:Nat} {fuel:Nat} {cs:List Value} {p:DataW H×List MemPlace} (hu:P.underlying T=some .bool) (h:DataW.trod enc P w base spare held (fuel+1) T cs=some p):∃ n,cs=[.bool n]:=by
 unfold DataW.trod at h
 rw [hu] at h
 dsimp only at h
 split at h <;> simp_all
theorem Zi5 {T:Nat} {fuel:Nat} {cs:List Value} {p:DataW H×List MemPlace} (hu:P.underlying T=some .string) (h:DataW.trod enc P w base spare held (fuel+1) T cs=some p):∃ n,cs=[.string n]∧n.size≤maxLen:=by
 unfold DataW.trod at h
 rw [hu] at h
 dsimp only at h
 split at h <;> simp_all
theorem Yum {T ET:Nat} {fuel:Nat} {cs:List Value} {p:DataW H×List MemPlace} (hu:P.underlying T=some (.slice ET)) (h:DataW.trod enc P w base spare held (fuel+1) T cs=some p):
   cs=[.slice none 0 0]∨∃ a len cap elems,cs=[.slice (some a) len cap]∧len≤cap∧cap≤maxLen∧(List.range len).mapM (fun i=>(w.cells? base (a.add (i*P.cellsOf ET)) (P.cellsOf ET)).bind (DataW.trod enc P w base spare held fuel ET))=some elems:=by
  unfold DataW.trod at h
  rw [hu] at h
  dsimp only at h
  split at h <;> simp_all
  obtain ⟨⟨_,h1,h2⟩,h3⟩:=h
  obtain ⟨el,he,_⟩:=Option.bind_eq_some_iff.1 h3
  exact ⟨_,_,_,⟨rfl,rfl,rfl⟩,h1,h2,el,he⟩
theorem uG {T:Nat} {fuel:Nat} {fs:Array Field} {cs:List Value} {p:DataW H×List MemPlace} (hu:P.underlying T=some (.struct fs)) (h:DataW.trod enc P w base spare held (fuel+1) T cs=some p):
   cs.length=P.cellsOf T∧∃ xs,(fs.toList.mapM fun f=>DataW.trod enc P w base spare held fuel f.type ((cs.drop f.offset).take (P.cellsOf f.type)))=some xs:=by
  unfold DataW.trod at h
  rw [hu] at h
  dsimp only at h
  split at h <;> simp_all
  exact ⟨h.choose,h.choose_spec.1⟩
mutual
theorem YC {T:Nat} {t:Ty} {fuel:Nat} {cs:List Value} {p:DataW H×List MemPlace} (hd:Deep P T t) (h:DataW.trod enc P w base spare held fuel T cs=some p):
  ∃ x,RepD (RE w) w t x cs∧Nr t x:=by
 cases fuel with
 | zero=>cases h
 | succ fuel=>
  cases hd with
  | int hu=>obtain ⟨n,rfl,hw⟩:=trod_int hu h;exact ⟨n,rfl,hw⟩
  | bool hu=>obtain ⟨n,rfl⟩:=trod_bool hu h;exact ⟨n,rfl,trivial⟩
  | str hu=>obtain ⟨n,rfl,hw⟩:=Zi5 hu h;exact ⟨n,rfl,hw⟩
  | @sl _ ET e hu hc Ur=>
   rcases Yum hu h with rfl | ⟨a,len,cap,elems,rfl,Us,JT,mZ⟩
   ·exact ⟨[],⟨none,0,0,rfl,rfl,Ah _,Nat.zero_le _,fun i x h=>by simp at h⟩,Nat.zero_le _,fun x hx=>by cases hx⟩
   ·have hlen:=mapM_some_length mZ
    rw [List.length_range] at hlen
    rw [hc] at mZ
    have key:∀ i,i<len→∃ ys,w.cells? base (a.add (i*e.sz)) e.sz=some ys∧∃ x,RepD (RE w) w e x ys∧Nr e x:=fun i hi=>by
     have h1:=mapM_some_get mZ i i (by simp [hi])
     obtain ⟨q,hq⟩:∃ q,elems[i]? = some q:=⟨elems[i],Ap (by omega)⟩
     rw [hq] at h1
     obtain ⟨ys,hy,PM⟩:=Option.bind_eq_some_iff.1 h1
     exact ⟨ys,hy,YC Ur PM⟩
    obtain ⟨l,hl⟩:∃ l:List e.D,l.length=len∧∀ (i:Nat) x,l[i]? = some x→∃ ys,w.cells? base (a.add (i*e.sz)) e.sz=some ys∧RepD (RE w) w e x ys∧Nr e x:=by
     have:∀ n,n≤len→∃ l:List e.D,l.length=n∧∀ (i:Nat) x,l[i]? = some x→∃ ys,w.cells? base (a.add (i*e.sz)) e.sz=some ys∧RepD (RE w) w e x ys∧Nr e x:=by
      intro n
      induction n with
      | zero=>intro _;exact ⟨[],rfl,fun i x h=>by simp at h⟩
      | succ n ih=>
       intro hn
       obtain ⟨l,hl,hx⟩:=ih (by omega)
       obtain ⟨ys,hy,x,hr,hk⟩:=key n (by omega)
       refine ⟨l++[x],by simp [hl],fun i z hz=>?_⟩
       by_cases hi:i<n
       ·rw [AD (by omega)] at hz
        exact hx i z hz
       ·rw [Aw (by omega)] at hz
        have:i=n:=by
         have:=(List.getElem?_eq_some_iff.1 hz).1
         simp at this
         omega
        subst this
        rw [hl,Nat.sub_self] at hz
        simp at hz
        subst hz
        exact ⟨ys,hy,hr,hk⟩
     exact this len (Ah _)
    refine ⟨l,⟨some a,len,cap,rfl,hl.1,Us,JT,fun i x hi=>?_⟩,?_,fun x hx=>?_⟩
    ·obtain ⟨ys,hy,hr,_⟩:=hl.2 i x hi
     obtain ⟨hly,C8⟩:=pI hy
     have Zdf:a.spot=none:=by
      obtain ⟨x0,EB⟩:∃ x0,l[0]? = some x0:=⟨l[0]'(by have:=(List.getElem?_eq_some_iff.1 hi).1;omega),Ap _⟩
      obtain ⟨ys0,MB,Ki,_⟩:=hl.2 0 x0 EB
      have Yz0:0<ys0.length:=by rw [Ki.len];exact Ty.LG e
      have:=(pI MB).2 0 ys0[0] (Ap Yz0)
      rw [Addr.add_add,Nat.zero_mul,Au] at this
      have h0:a.add 0=a:=by simp [Addr.add]
      rw [h0] at this
      exact World.cell?_spot this
     refine ⟨a,rfl,Zdf,ys,hr,fun j v hj=>?_⟩
     have h1:=C8 j v hj
     rw [Addr.add_add,Hx a Zdf] at h1
     exact ⟨Zh5 (a:=⟨a.block,a.off+(i*e.sz+j),none⟩) h1,h1⟩
    ·have:=hl.1;show List.length (α:=e.D) l≤maxLen;omega
    ·obtain ⟨i,hi⟩:=List.mem_iff_getElem?.1 hx
     obtain ⟨_,_,_,hk⟩:=hl.2 i x hi
     exact hk
  | wrap hu hc h1 hf=>
   obtain ⟨hlen,xs,Ol⟩:=uG hu h
   obtain ⟨x,hx,hk⟩:=dL hf (pre:=[]) (cs:=cs) (by rw [hlen,hc]) rfl Ol
   exact ⟨x,hx,hk⟩
  | pair hu hc hf=>
   obtain ⟨hlen,xs,Ol⟩:=uG hu h
   obtain ⟨x,hx,hk⟩:=dL hf (pre:=[]) (cs:=cs) (by rw [hlen,hc];rfl) rfl Ol
   exact ⟨x,hx,hk⟩
 termination_by (fuel,0)

theorem dL {fs:List Field} {off:Nat} {t:Ty} {fuel:Nat} {pre cs:List Value} {xs:List (DataW H×List MemPlace)} (hd:DeepF P fs off t) (hl:cs.length=t.sz) (hp:pre.length=off)
  (h:(fs.mapM fun f=>DataW.trod enc P w base spare held fuel f.type (((pre++cs).drop f.offset).take (P.cellsOf f.type)))=some xs):∃ x,RepD (RE w) w t x cs∧Nr t x:=by
 cases hd with
 | @last f _ _ ho hc Ur=>
  simp only [List.mapM_cons,List.mapM_nil,Option.bind_eq_bind,Option.pure_def] at h
  obtain ⟨q,hq,_⟩:=Option.bind_eq_some_iff.1 h
  rw [ho,← hp,List.drop_left,hc,AF (by omega)] at hq
  exact YC Ur hq
 | @cons f g fs _ a b ho hc Ur hr=>
  rw [List.mapM_cons] at h
  obtain ⟨q,hq,h2⟩:=Option.bind_eq_some_iff.1 h
  obtain ⟨qs,hqs,_⟩:=Option.bind_eq_some_iff.1 h2
  rw [ho,← hp,List.drop_left,hc] at hq
  have GS:cs.length=a.sz+b.sz:=hl
  obtain ⟨x,hx,hk⟩:=YC Ur hq
  have Co:cs=cs.take a.sz++cs.drop a.sz:=(List.take_append_drop _ _).symm
  have HM:pre++cs=(pre++cs.take a.sz)++cs.drop a.sz:=by rw [Al,← Co]
  rw [HM] at hqs
  obtain ⟨y,hy,hky⟩:=dL hr (pre:=pre++cs.take a.sz) (cs:=cs.drop a.sz) (by rw [List.length_drop];omega) (by rw [Ae,Ag,hp];omega) hqs
  exact ⟨(x,y),⟨_,_,Co,hx,hy⟩,hk,hky⟩
 termination_by (fuel,fs.length+1)
end
end
end Go.AM
end

section
/- A law's call: what is handed in can be read; it answers true, and nothing below turns. -/
namespace Go.AM
open Go.RowKit (Below)
set_option linter.unusedSectionVars false
variable [Lay]
theorem Zcq {P:Program} {w:World} {r:Reach} {base T:Nat} {t:Ty} {v:Value} (hd:Deep P T t) (h:Value.okWide P w r base T v):v=valOf t v.cells.toList:=by
 cases hd with
 | int hu=>obtain ⟨n,rfl⟩:=WideShapes.okWide_int hu h;rfl
 | bool hu=>obtain ⟨n,rfl⟩:=WideShapes.okWide_bool hu h;rfl
 | str hu=>obtain ⟨n,rfl⟩:=WideShapes.okWide_string hu h;rfl
 | sl hu hc Ur=>obtain ⟨a,len,cap,rfl⟩:=WideShapes.okWide_slice hu h;rfl
 | wrap hu hc h1 hf=>
  unfold Value.okWide at h
  rw [hu] at h
  obtain ⟨cs,rfl,_⟩:=h
  rfl
 | pair hu hc hf=>
  unfold Value.okWide at h
  rw [hu] at h
  obtain ⟨cs,rfl,_⟩:=h
  rfl
@[reducible] def Ez : List Ty → List PK
 | []=>[]
 | t :: ts=> .val t :: Ez ts
def iV:(ps:List Ty)→DO (Ez ps)→Prop
 | [],_=>True
 | p :: ps,x=>Nr p x.1∧iV ps x.2
def DeepAll (P:Program):List Nat→List Ty→Prop
 | [],[]=>True
 | T :: Ts,t :: ts=>Deep P T t∧DeepAll P Ts ts
 | _,_=>False
section
variable {P : Program} {H : Type} {enc : TypeId × Value → H} {W : World} {base : Nat}
theorem qx:∀ {Ts:List Nat} {ts:List Ty} {vs:List Value} {ds:List (DataW H)} {p:List MemPlace},DeepAll P Ts ts→DataW.TrodAll enc P W 0 (fun _=>true) true Ts vs ds p→
  (∀ (j:Nat) T v,Ts[j]? = some T→vs[j]? = some v→Value.okWide P W .any base T v)→
  ∃ (l:List AV) (x:DO (Ez ts)),E6 (Ez ts) l=some x∧KV (RE W) W l vs [] []∧iV ts x
 | [],[],[],[],p,_,_,_=>⟨[],(),rfl,⟨rfl,rfl⟩,trivial⟩
 | T :: Ts,t :: ts,v :: vs,d :: ds,p,hd,ha,hv=>by
  obtain ⟨p1,q,⟨fuel,hf⟩,hr,_⟩:=ha
  obtain ⟨x,hx,hk⟩:=YC hd.1 hf
  obtain ⟨l,y,h1,h2,h3⟩:=qx hd.2 hr fun j T v hT Ho=>hv (j+1) T v (by simpa using hT) (by simpa using Ho)
  refine ⟨.dat t x [] :: l,(x,y),?_,⟨[],[],⟨⟨_,hx,Zcq hd.1 (hv 0 T v rfl rfl)⟩,rfl,rfl⟩,h2⟩,hk,h3⟩
  show E6 (.val t :: Ez ts) _=_
  unfold E6
  have:Qi (.val t) (AV.dat t x [])=some x:=by unfold Qi AV.as C7;simp
  rw [this,h1]
 | [],[],_ :: _,_,_,_,ha,_=>by cases ‹List (DataW H)› <;> exact ha.elim
 | [],[],[],_ :: _,_,_,ha,_=>ha.elim
 | [],_ :: _,_,_,_,hd,_,_=>hd.elim
 | _ :: _,[],_,_,_,hd,_,_=>hd.elim
 | _ :: _,_ :: _,[],_,_,_,ha,_=>by cases ‹List (DataW H)› <;> exact ha.elim
 | _ :: _,_ :: _,_ :: _,[],_,_,ha,_=>ha.elim
theorem law_calls {f:FuncId} {Ts:List Nat} {ts:List Ty} {F:DO (Ez ts)→Option Bool} (hc:AY P f (spec (Ez ts) [(.bool,[])] F)) (hF:∀ x,iV ts x→F x=some true) (hd:DeepAll P Ts ts) {z:Nat} (LR:Lay.ok z W)
  {args:Array Value} {ds:List (DataW H)} {p:List MemPlace} (ha:DataW.TrodAll enc P W 0 (fun _=>true) true Ts args.toList ds p)
  (hv:∀ (j:Nat) T v,Ts[j]? = some T→args[j]? = some v→Value.okWide P W .any base T v):
  Calls P f args W fun e W'=>e = .returned (.bool true)∧Below W.heap.size W W':=by
 obtain ⟨l,x,h1,h2,h3⟩:=qx hd ha fun j T v hT Ho=>hv j T v hT (by rw [← Array.getElem?_toList];exact Ho)
 have hs:spec (Ez ts) [(.bool,[])] F l=some ⟨Bool,F x,iu [(.bool,[])],fun _=>[]⟩:=by unfold spec;rw [h1]
 have:=hc l _ true hs (hF x h3) (RE W) W args.toList [] [] ⟨z,LR,(fun _ hm=>by cases hm),fun _ _ hm=>by cases hm⟩ (fun _ _ h=>⟨h,(fun hm=>by cases hm),fun _ hm=>by cases hm⟩) List.nodup_nil (fun _ hm=>by cases hm) ⟨(fun _ _ _ _ _ h _=>by simp at h),(fun _ _ hm=>by cases hm)⟩ h2
 rw [Array.toArray_toList] at this
 refine this.mono fun e W' h=>?_
 obtain ⟨v,rfl,hb,ρ,_,_,_,cs,hr,Ho,_⟩:=h
 simp only [RepD] at hr
 subst hr
 subst Ho
 exact ⟨rfl,hb.below⟩
end
end Go.AM
end
