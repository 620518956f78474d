import Derived.Test.YtclpadlpcfnfmaaGreatAmL5
import Derived.Laws.StructEq
import Derived.DataElems
import Derived.WideShapes
import Derived.ChangeOld
section
/- A function's contract out of what the evaluator answers of its body. -/
namespace Go.AM
open Go.RowKit (Below)
set_option linter.unusedSectionVars false
variable [Lay]
def Iu:PK->Nat
 | .io _ _=>1
 | .ioa _=>1
 | _=>0
def NR:PK->Nat
 | .io _ g=>g.length
 | _=>0
def JQ:List PK->Nat
 | []=>0
 | p :: ps=>Iu p+JQ ps
def Vg:(ps:List PK)->En ps->Nat->Nat->List (Nat×AV)
 | [],_,_,_=>[]
 | p :: ps,x,i,k=>(i,lh k p x.1) :: Vg ps x.2 (i+1) (k+Iu p)
def K0:(ps:List PK)->En ps->Nat->Nat->List (Nat×Option Con)
 | [],_,_,_=>[]
 | p :: ps,x,k,q=>match lj q p x.1 with
  | some c=>(pid0+k,some c) :: K0 ps x.2 (k+Iu p) (q+NR p)
  | none=>K0 ps x.2 (k+Iu p) (q+NR p)
def Sb (ps:List PK) (x:En ps):St:=mk (Vg ps x 0 0) (K0 ps x 0 0)
def X9 (σ:St) (t:Tag):List Tag->Option Nat
 | []=>none
 | h :: r=>if h.off=t.off/\h.sz=t.sz then (if h.id=0 then some 0 else if σ.r h.id=h.ver then some h.id else none) else X9 σ t r
def Nz (σ:St) (gs:List Tag):List Tag->Option (List Nat)
 | []=>some []
 | t :: r=>if t.id=0 then none else match X9 σ t gs with
  | some i=>match Nz σ gs r with
   | some l=>some (i :: l)
   | none=>none
  | none=>none
def QF (E:Env) (σ:St):ResultVar->AV
 | .tmp t=>σ.t t
 | .cell a T=>match σ.t a with
  | .ptr id ver off=>if σ.v id=ver then
    match σ.c id with
    | some (.var t z g)=>match E.ty T with
     | some u=>match sub u t z off with
      | some y=> .dat u y (eb g off u.sz)
      | none=> .undef
     | none=> .undef
    | some (.arr e l _)=>match E.ty T with
     | some (.arr m e')=>if off=0 then
       match DM (t:= .sl e) (.sl e') l with
       | some l'=> .dat (.arr m e') l' []
       | none=> .undef
      else .undef
     | _=> .undef
    | _=> .undef
   else .undef
  | _=> .undef
def ew (σ:St) (id ver:Nat):St:=
 if σ.v id=ver/\Nat.blt id pid0=true then
  match σ.c id with
  | some (.arr e l _)=>σ.Dq id (.arr e l true)
  | _=>σ
 else σ
def pM (σ:St):AV->St
 | .slw id ver=>ew σ id ver
 | .slm id ver _ _=>ew σ id ver
 | _=>σ
def VA:List ResultVar->St->St
 | [],σ=>σ
 | .tmp t :: r,σ=>VA r (pM σ (σ.t t))
 | .cell .. :: r,σ=>VA r σ
def dz (σ:St):AV->AV
 | .slw id ver=>if σ.v id=ver then
   match σ.c id with
   | some (.arr e l true)=> .dat (.sl e) l []
   | _=> .undef
  else .undef
 | .slm id ver lo n=>if σ.v id=ver then
   match σ.c id with
   | some (.arr e l true)=> .dat (.sl e) ((l.drop lo).take n) []
   | _=> .undef
  else .undef
 | x=>x
def Vh (E:Env) (σ:St):List ResultVar->List AV
 | []=>[]
 | t :: r=>dz σ (QF E σ t) :: Vh E σ r
def Ya (σ:St) (p:PK) (id:Nat):AV:=
 match p with
 | .io _ _=>match σ.c id with
  | some (.var t x g)=> .dat t x g
  | _=> .undef
 | .ioa _=>match σ.c id with
  | some (.arr e l false)=> .dat (.sl e) l []
  | _=> .undef
 | _=> .undef
def Rw (σ:St):List PK->Nat->List AV
 | [],_=>[]
 | p :: ps,k=>Ya σ p (pid0+k) :: Rw σ ps (k+1)
def O2 {R:Type} (σ:St):List PK->Nat->Option R->Option R
 | [],_,r=>r
 | .ioa _ :: ps,k,r=>match σ.c (pid0+k) with
  | some (.arr e l _)=>bif decide (0<List.length (α:=e.D) l) then O2 σ ps (k+1) r else none
  | _=>none
 | _ :: ps,k,r=>O2 σ ps (k+1) r
def Tq (σ:St):List AV->(rs:List (Ty×List Tag))->Option (Ev rs×List Nat)
 | [],[]=>some ((),[])
 | [v],[u]=>match v.as u.1,Nz σ (v.tags u.1) u.2 with
  | some x,some l=>some (x,l)
  | _,_=>none
 | v :: v2 :: vs,u :: u2 :: rs=>match v.as u.1,Nz σ (v.tags u.1) u.2,Tq σ (v2 :: vs) (u2 :: rs) with
  | some x,some l,some y=>some ((x,y.1),l++y.2)
  | _,_,_=>none
 | _,_=>none
def Yb (E:Env) (σ:St):ResultVar->Option Bool
 | .tmp _=>none
 | .cell a T=>match σ.t a with
  | .ptr id _ _=>match σ.c id with
   | some (.arr e l _)=>match E.ty T with
    | some (.arr m _)=>some (decide (List.length (α:=e.D) l=m+1))
    | _=>none
   | _=>none
  | _=>none
def lens {R:Type} (E:Env) (σ:St):List ResultVar->Option R->Option R
 | [],r=>r
 | t :: ts,r=>match Yb E σ t with
  | some c=>bif c then lens E σ ts r else none
  | none=>lens E σ ts r
def Zlq (E:Env) (σ:St) (ts:List ResultVar) (qs:List PK) (rs:List (Ty×List Tag)):Option (Ev rs):=
 lens E σ ts (O2 σ qs 0 (match Tq σ (Vh E σ ts++Rw σ qs 0) rs with
 | some y=>bif Kh y.2 then some y.1 else none
 | none=>none))
def fin (E:Env) (ts:List ResultVar) (qs:List PK) (rs:List (Ty×List Tag)):K (Ev rs):=λ e σ=>
 match e with
 | .exit _=>none
 | _=>Zlq E (VA ts σ) ts qs rs
def Yc (σ:St) (k:Nat):AV->AV
 | .slw id ver=>if id=pid0+k/\σ.v id=ver then
   match σ.c id with
   | some (.arr e l false)=> .dat (.int .i64) ((List.length (α:=e.D) l:Nat):Int) []
   | _=> .undef
  else .undef
 | .slm id ver lo n=>if id=pid0+k/\σ.v id=ver/\lo=0 then
   match σ.c id with
   | some (.arr _ _ false)=> .dat (.int .i64) (n:Int) []
   | _=> .undef
  else .undef
 | _=> .undef
def YH (k t:Nat) (qs:List PK) (rs:List (Ty×List Tag)):K (Ev rs):=λ e σ=>
 match e with
 | .exit _=>none
 | _=>O2 σ qs 0 (match Tq σ (Yc σ k (σ.t t) :: Rw σ qs 0) rs with
  | some y=>bif Kh y.2 then some y.1 else none
  | none=>none)
section
variable {P : Program} {B : Bd} {ok0 ok : Nat -> Nat -> Prop} {w0 w w' : World} {g g' : G} {σ σ1 τ : St} {a : Act} {E : Env}
theorem wv:∀ {ts:List Ty} {ds:List Dat} {x:XU ts} {vs:List Value},WT ts ds=some x->C9 (λ (d:Dat) u=>JF ok w d.t d.x 0 u) ds vs->C9 (λ (d:Dat) u=>JF ok w d.t d.x 0 u) (jE ts x) vs
 | [],[],_,vs,_,h=>h
 | t :: ts,d :: ds,x,[],_,h=>h.elim
 | t :: ts,d :: ds,x,v :: vs,hd,h=>by
  unfold WT at hd;split at hd
  ·rename_i y hy;split at hd
   ·rename_i z hz;cases hd;refine ⟨?_,wv hz h.2⟩;obtain ⟨e,he⟩:=F6 hy;have h1:=h.1
    grind
   simp_all
  simp_all
 | [],_ :: _,_,_,hd,_=>by cases hd
 | _ :: _,[],_,_,hd,_=>by cases hd
theorem Yxy {p:PK} {av:AV} {x:p.D} {v:Value} (h:Rn p av=some x) (hr:O3 ok w av v):RepA ok g σ w (lh 0 p x) v:=by
 cases p with
 | val t=>
  have h':av.as t=some x:=h;cases av with
  | dat u x' gs=>
   obtain ⟨cs,h1,h2⟩:=hr;have h3:=h1.cast h';refine ⟨cs,h3,?_,λ _ h=>by cases h⟩;obtain ⟨e,_⟩:=F6 h';simp_all
  | nils=>exact hr.elim
  | ept t x off=>cases h'
  | fn f ds=>cases h'
  | _=>exact hr.elim
 | ref t=>
  cases av with
  | ept u y off=>
   cases off with
   | zero=>
    have h':DM (t:=u) t y=some x:=h;obtain ⟨e,he⟩:=F6 h';subst e;cases he;exact hr
   | succ n=>cases h
  | _=>cases h
 | fn f ts=>
  cases av with
  | fn g ds=>
   have h':(if g=f then WT ts ds else none)=some x:=h;split at h'
   ·rename_i hgf;subst hgf;obtain ⟨vs,h1,h2⟩:=hr;exact ⟨vs,h1,wv h' h2⟩
   simp_all
  | _=>cases h
 | io t g=>
  cases av with
  | iov u y h=>exact hr.elim
  | _=>cases h
 | ioa e=>
  cases av with
  | ioa u y=>exact hr.elim
  | _=>cases h
theorem jK {e:Ty} {av:AV} {x:List e.D} (h:Rn (.ioa e) av=some x):av = .ioa e x:=by
 cases av with
 | ioa u y=>
  obtain ⟨q,he⟩:=F6 (h:DM (t:= .sl u) (.sl e) y=some x)
  grind
 | _=>cases h
theorem lV {t:Ty} {g:List (Nat×Nat)} {av:AV} {x:t.D} (h:Rn (.io t g) av=some x):∃ gs:List Tag,av = .iov t x gs/\gs.map (λ τ=>(τ.off,τ.sz))=g:=by
 cases av with
 | iov u y gs=>
  have h':(if gs.map (λ τ=>(τ.off,τ.sz))=g then DM (t:=u) t y else none)=some x:=h;split at h'
  ·obtain ⟨e,he⟩:=F6 h'
   grind
  simp_all
 | _=>cases h
theorem W2 {p:PK} {av:AV} {x:p.D} (hp:Iu p=0) (h:Rn p av=some x):(∀ t y g,av≠ .iov t y g)/\∀ e l,av≠ .ioa e l:=by
 constructor
 ·intro t y g e;subst e;cases p with
  | io t=>cases hp
  | _=>cases h
 ·intro t y e;subst e;cases p with
  | ioa t=>cases hp
  | _=>cases h
theorem WA {av:AV} {v:Value} {bs r:List Nat} {rs s:List (Option (Nat×Nat))} (hn:(∀ t y g,av≠ .iov t y g)/\∀ e l,av≠ .ioa e l) (h:Yd ok w av v bs r rs s):O3 ok w av v/\bs=r/\rs=s:=by
 unfold Yd at h;simp_all
theorem sK {cs:List Value}:∀ {h:List Tag} {rs s:List (Option (Nat×Nat))},UX w cs h rs s->s=rs.drop h.length
 | [],_,_,h=>by cases h;rfl
 | _ :: h,_,_,⟨q,r1,rfl,h1,_⟩=>by rw [sK h1];rfl
theorem wx {cs:List Value} {rws:List (Option (Nat×Nat))} (hg:∀ q,g.rw (CK pid0 q)=(rws[q]?).join) {r0:Nat->Nat} (hr:∀ i,r0 i=0):∀ {h:List Tag} {s:List (Option (Nat×Nat))} (q:Nat),UX w cs h (rws.drop q) s->
  IB g r0 w (marks q (h.map λ τ=>(τ.off,τ.sz))) cs
 | [],_,_,_=>λ _ hm=>by cases hm
 | τ :: h,s,q,⟨qv,r1,he,h1,h2⟩=>by
  have hq:rws[q]? = some qv:=by
   have:=congrArg (λ l=>l[0]?) he
   grind
  have hd:r1=rws.drop (q+1):=by
   have:=congrArg List.tail he;rw [List.tail_drop] at this;simp_all
  intro τ' hm;rcases List.mem_cons.1 hm with rfl | hm
  ·refine ⟨λ h0=>absurd h0 (UY _ _),λ _=>⟨Nat.zero_le _,λ _=>?_⟩⟩;cases qv with
   | none=>exact .inl h2
   | some bu=>
    obtain ⟨b,u⟩:=bu;obtain ⟨n,cap,cur,T,k1,k2,k3,k4,k5,k6⟩:=h2;refine .inr ⟨b,n,cap,cur,T,k1,?_,k3,k4,k5,k6⟩;simp_all
  ·subst hd;exact wx hg hr (q+1) h1 τ' hm
theorem iC:∀ {ps:List PK} {x:En ps} {k q id:Nat} {c:Con},JK (K0 ps x k q) id=some c->pid0+k<=id
 | [],_,_,_,_,_,h=>by cases h
 | p :: ps,x,k,q,id,c,h=>by
  unfold K0 at h;split at h
  ·rename_i c0 IS;have h:(bif Nat.beq id (pid0+k) then some c0 else JK (K0 ps x.2 (k+Iu p) (q+NR p)) id)=some c:=h;cases hb:Nat.beq id (pid0+k) with
   | true=>simp_all
   | false=>
    rw [hb] at h;have:=iC (ps:=ps) h;omega
  ·have:=iC (ps:=ps) h;omega
theorem Yyy {p:PK} (h:Iu p=0) (q:Nat) (x:p.D):lj q p x=none:=by cases p <;> first | rfl | cases h
theorem Zuw {p:PK} {ps:List PK} {x:p.D} {z:En ps} {k q id:Nat} {c:Con} (h:JK (K0 ps z (k+Iu p) (q+NR p)) id=some c):JK (K0 (p :: ps) (x,z) k q) id=some c:=by
 unfold K0;split
 ·rename_i c0 IS;have h1:Iu p=1:=by
   cases p <;> first | rfl | cases IS
  have Kf:=iC h;have:Nat.beq id (pid0+k)=false:=by rw [Bool.eq_false_iff];simp_all;omega
  show (bif Nat.beq id (pid0+k) then some c0 else JK (K0 ps z (k+Iu p) (q+NR p)) id)=some c;simp_all
 simp_all
theorem wy:∀ {ps:List PK} {l:List AV} {vs:List Value} {bs:List Nat} {rws:List (Option (Nat×Nat))} {x:En ps} (i k q t:Nat),FQ ps l=some x->L3 ok0 w l vs bs rws->(∀ b o,ok0 b o->ok b o)->
  (∀ j b,bs[j]? = some b->Po g σ (pid0+(k+j)) 0 0 (.pointer (some ⟨b,0,none⟩)))->(∀ id c,JK (K0 ps x k q) id=some c->σ.c id=some c/\σ.v id=0)->RepA ok g σ w (Pr (Vg ps x i k) t) (vs.getD (t-i) undef)
 | [],_,_,_,_,_,_,_,_,_,_,_,_,_,_=>trivial
 | p :: ps,[],_,_,_,_,_,_,_,_,h,_,_,_,_=>by cases h
 | p :: ps,av :: l,[],_,_,_,_,_,_,_,_,h,_,_,_=>h.elim
 | p :: ps,av :: l,v :: vs,bs,rws,x,i,k,q,t,h,⟨r,s,ha,hr⟩,hm,hg,hc=>by
  unfold FQ at h;split at h
  ·rename_i y hy;split at h
   ·rename_i z hz;cases h;have Xvd:RepA ok g σ w (lh k p y) v/\∀ j b,r[j]? = some b->Po g σ (pid0+(k+Iu p+j)) 0 0 (.pointer (some ⟨b,0,none⟩)):=by
     by_cases hp:∃ t g,p = .io t g
     ·obtain ⟨t,gg,rfl⟩:=hp;obtain ⟨hh,Kl,_⟩:=lV hy;rw [Kl] at ha;obtain ⟨b,rfl,hv,_⟩:=ha;subst hv;refine ⟨hg 0 b rfl,λ j b' hj=>?_⟩;rw [show k+Iu (.io t gg)+j=k+(j+1) by show k+1+j=_;omega];simp_all
     by_cases qD:∃ e,p = .ioa e
     ·obtain ⟨e,rfl⟩:=qD;have Kl:=jK hy;rw [Kl] at ha;obtain ⟨b,cap,cur,T,rfl,_,hv,hh,CM,hle,Ds,IW,Cj⟩:=ha;subst hv
      have Md:=hc (pid0+k) (.arr e y false) (by
       show (bif Nat.beq (pid0+k) (pid0+k) then _ else _)=_
       simp)
      refine ⟨⟨Nat.zero_le _,λ _=>⟨e,y,false,Md.1,?_⟩⟩,λ j b' hj=>?_⟩
      ·obtain ⟨b2,f2,h1,h2⟩:=(hg 0 b rfl).2 Md.2;cases h2;exact .inr ⟨b,f2,cap,cur,T,_,h1,hh,CM,hle,Ds,rfl⟩
      ·rw [show k+Iu (.ioa e)+j=k+(j+1) by show k+1+j=_;omega];simp_all
     have fg:Iu p=0:=by cases p <;> first | rfl | simp_all | simp_all
     obtain ⟨h1,rfl,rfl⟩:=WA (W2 fg hy) ha;refine ⟨?_,(by simp_all)⟩;have:=Yxy (g:=g) (σ:=σ) hy (h1.mono hm);cases p <;> first | exact this | simp_all | simp_all
    unfold Vg Pr;cases hb:Nat.beq t i with
    | true=>
     simp_all
    | false=>
     have Cg:t≠i:=λ e=>by simp_all
     by_cases AY:t<i
     ·have:∀ (ps:List PK) (x:En ps) (i k:Nat),t<i->Pr (Vg ps x i k) t = .undef:=by
       intro ps;induction ps with
       | nil=>intro _ _ _ _;rfl
       | cons p ps ih=>
        intro x i k hk;unfold Vg Pr;have:Nat.beq t i=false:=by rw [Bool.eq_false_iff];intro e;simp_all
        grind
      rw [this ps z (i+1) _ Ad];trivial
     ·have hi:=wy (i+1) (k+Iu p) (q+NR p) t hz hr hm Xvd.2 λ id c hid=>hc id c (Zuw (x:=y) hid)
      grind
   simp_all
  simp_all
def Xwd (ok0:Nat->Nat->Prop) (w:World) (rws:List (Option (Nat×Nat))) (q b:Nat) (c:Con):Prop:=
 (∃ t y j2 h s,c = .var t y (marks (q+j2) (h.map λ τ=>(τ.off,τ.sz)))/\∃ cs T,w.heap[b]? = some (.cells cs.toArray T (0,0))/\RepD ok0 w t y cs/\Xi b t T cs/\UX w cs h (rws.drop j2) s)\/
 ∃ e l cur T,c = .arr e l false/\w.heap[b]? = some (.cells cur T (0,0))/\List.length (α:=e.D) l*e.sz<=cur.size/\List.length (α:=e.D) l<=maxLen/\K8 ok0 w e l cur
theorem aW:∀ {ps:List PK} {l:List AV} {vs:List Value} {bs:List Nat} {rws:List (Option (Nat×Nat))} {x:En ps} (k q:Nat),FQ ps l=some x->L3 ok0 w l vs bs rws->bs.length=JQ ps/\
  ∀ id c,JK (K0 ps x k q) id=some c->∃ j b,id=pid0+(k+j)/\bs[j]? = some b/\Xwd ok0 w rws q b c
 | [],[],[],_,_,_,_,_,_,h=>by obtain ⟨rfl,rfl⟩:=h;exact ⟨rfl,λ _ _ h=>by cases h⟩
 | [],[],_ :: _,_,_,_,_,_,_,h=>h.elim
 | [],_ :: _,_,_,_,_,_,_,h,_=>by cases h
 | p :: ps,[],_,_,_,_,_,_,h,_=>by cases h
 | p :: ps,av :: l,[],_,_,_,_,_,_,h=>h.elim
 | p :: ps,av :: l,v :: vs,bs,rws,x,k,q,h,⟨r,s,ha,hr⟩=>by
  unfold FQ at h;split at h
  ·rename_i y hy;split at h
   ·rename_i z hz;cases h;obtain ⟨ih1,ih2⟩:=aW (k+Iu p) (q+NR p) hz hr;by_cases hp:∃ t g,p = .io t g
    ·obtain ⟨t,gg,rfl⟩:=hp;obtain ⟨hh,Kl,hgg⟩:=lV hy;rw [Kl] at ha;obtain ⟨b,rfl,hv,cs,T,c1,c2,c3,c4⟩:=ha;refine ⟨by show r.length+1=1+JQ ps;omega,λ id c hid=>?_⟩;have Pp:(bif Nat.beq id (pid0+k) then some (Con.var t y (marks q gg)) else JK (K0 ps z (k+Iu (.io t gg)) (q+NR (.io t gg))) id)=some c:=hid;cases hb:Nat.beq id (pid0+k) with
     | true=>
      rw [hb] at Pp;exact ⟨0,b,(by simp_all),rfl, .inl ⟨t,y,0,hh,s,by simp_all,cs,T,c1,c2,c3,by simp_all⟩⟩
     | false=>
      rw [hb] at Pp;obtain ⟨j,b',h1,h2,h3⟩:=ih2 id c Pp;have hlen:hh.length=gg.length:=by grind
      refine ⟨j+1,b',by rw [h1];show _+(k+1+j)=_;omega,by simp_all,?_⟩;rcases h3 with ⟨t',y',j2,h',s',h3,Mq,T',k1,k2,k3,k4⟩ | h3
      ·refine .inl ⟨t',y',gg.length+j2,h',s',?_,Mq,T',k1,k2,k3,?_⟩
       ·rw [h3,show q+NR (.io t gg)+j2=q+(gg.length+j2) by show q+gg.length+j2=_;omega]
       ·rw [sK c4,List.drop_drop] at k4
        grind
      ·exact .inr h3
    by_cases qD:∃ e,p = .ioa e
    ·obtain ⟨e,rfl⟩:=qD;have Kl:=jK hy;rw [Kl] at ha;obtain ⟨b,cap,cur,T,rfl,rfl,hv,hh,CM,hle,Ds,IW,Cj⟩:=ha;refine ⟨by show r.length+1=1+JQ ps;omega,λ id c hid=>?_⟩;have Pp:(bif Nat.beq id (pid0+k) then some (Con.arr e y false) else JK (K0 ps z (k+Iu (.ioa e)) (q+NR (.ioa e))) id)=some c:=hid;cases hb:Nat.beq id (pid0+k) with
     | true=>
      rw [hb] at Pp;cases Pp;exact ⟨0,b,(by simp_all),rfl, .inr ⟨e,y,cur,T,rfl,hh,by rw [CM];exact AT _ hle,Ad,Cj⟩⟩
     | false=>
      rw [hb] at Pp;obtain ⟨j,b',h1,h2,h3⟩:=ih2 id c Pp;refine ⟨j+1,b',by rw [h1];show _+(k+1+j)=_;omega,by simp_all,h3⟩
    ·have fg:Iu p=0:=by cases p <;> first | rfl | simp_all | simp_all
     have hp1:NR p=0:=by cases p <;> first | rfl | simp_all
     obtain ⟨h1,rfl,rfl⟩:=WA (W2 fg hy) ha;refine ⟨by show _=Iu p+JQ ps;omega,λ id c hid=>?_⟩;have:K0 (p :: ps) (y,z) k q=K0 ps z (k+Iu p) (q+NR p):=by
      show (match lj q p y with | some c=>_ | none=>_)=_;rw [Yyy fg]
     simp_all
   simp_all
  simp_all
theorem Yf6 {u:Ty} {av:AV} {x:u.D} {v:Value} (h:av.as u=some x) (hr:RepA ok g σ w av v):∃ cs,RepD ok w u x cs/\v=valOf u cs/\IB g σ.r w (av.tags u) cs:=by
 cases av with
 | dat t y gs=>
  obtain ⟨cs,h1,h2,h3⟩:=hr;obtain ⟨e,he⟩:=F6 h;subst e;subst he;exact ⟨cs,h1,h2,h3⟩
 | nils=>
  cases u with
  | sl e=>
   cases h;have:v = .slice none 0 0:=hr;subst this;refine ⟨[.slice none 0 0],⟨none,0,0,rfl,rfl,Au _,Nat.zero_le _,λ i x h=>by simp at h⟩,rfl,?_⟩;intro t ht;cases List.mem_singleton.1 ht;exact ⟨λ _=>rfl,λ h=>absurd rfl h⟩
  | _=>cases h
 | _=>cases h
theorem wz {t:Tag} {i:Nat} {cs:List Value}:∀ {gs:List Tag},X9 σ t gs=some i->IB g σ.r w gs cs->(i=0->cs[t.off]? = some (.slice none 0 0))/\(i≠0->Vi g w t.sz i cs[t.off]?)
 | [],h,_=>by cases h
 | x :: gs,h,hk=>by
  unfold X9 at h;split at h
  ·rename_i hx;have D2:=hk x Ah;split at h
   ·rename_i h0;cases h;exact ⟨λ _=>hx.1 ▸ D2.1 h0,Ah⟩
   ·rename_i h0;split at h
    ·rename_i hv;cases h;exact ⟨(by simp_all),λ _=>by rw [<- hx.1,<- hx.2];exact (D2.2 h0).2 hv⟩
    simp_all
  ·exact wz h λ y hy=>hk y (by simp_all)
def rowsOf (g:G) (ids:List Nat) (j:Nat):Option (Nat×Nat):=match ids[j]? with
 | some 0=>none
 | some i=>g.rw i
 | none=>none
theorem jL {gs:List Tag} {cs:List Value} (hk:IB g σ.r w gs cs) {ids:List Nat}:∀ {want:List Tag} {l:List Nat} (j:Nat),Nz σ gs want=some l->(∀ i,i<l.length->ids[j+i]? = l[i]?)->
  Qa (rowsOf g ids) w cs j want/\Hc want=l.length
 | [],l,j,h,_=>by cases h;exact ⟨trivial,rfl⟩
 | t :: r,l,j,h,hi=>by
  unfold Nz at h;split at h
  ·grind
  ·rename_i h0;split at h
   ·rename_i i ht;split at h
    ·rename_i l' Im;cases h;obtain ⟨h1,h2⟩:=jL hk (ids:=ids) (j+1) Im λ i hi'=>by
      have:=hi (i+1) Ai
      grind
     unfold Qa Hc;rw [if_neg h0];refine ⟨⟨?_,h1⟩,by simp_all⟩;obtain ⟨k1,k2⟩:=wz ht hk;by_cases hz:i=0
     ·exact .inl (k1 hz)
     ·rcases k2 hz with LB | ⟨b,n,cap,cur,T,hv,GK,rest⟩
      ·exact .inl LB
      ·refine .inr ⟨b,n,cap,cur,T,hv,?_,rest⟩;have:=hi 0 Ah;unfold rowsOf;simp_all
    simp_all
   simp_all
def Td (tmps:Array Value):ResultVar->Sem Value
 | .tmp t=>pure (tmps.getD t undef)
 | .cell a t=>do loadVar t (<- asAddr (tmps.getD a undef))
theorem iD {R:Type} {y:R}:∀ {ts:List ResultVar} {r:Option R},lens E σ ts r=some y->(∀ t∈ts,∀ c,Yb E σ t=some c->c=true)/\r=some y
 | [],r,h=>⟨Ah,h⟩
 | t :: ts,r,h=>by
  unfold lens at h;split at h
  ·rename_i c hc;cases c with
   | false=>grind
   | true=>
    obtain ⟨h1,h2⟩:=iD (ts:=ts) h;simp_all
  ·obtain ⟨h1,h2⟩:=iD (ts:=ts) h;simp_all
theorem Yzy (hI:Inv B ok0 w0 g σ a w) {id b:Nat} {f fz:Bool} {e:Ty} {l:List e.D} {m:Nat} (hb:g.bx id=some (b,f)) (hc:σ.c id=some (.arr e l fz)) (hlen:List.length (α:=e.D) l=m+1):
  ∃ cs,RepD (okG B ok0 g w) w (.arr m e) l cs/\∀ (j:Nat) v,cs[j]? = some v->w.cell? ⟨b,j,none⟩=some v:=by
 obtain ⟨Km,cur,TT,ym,hh,Ji,BL,Ds,Cj⟩:=hI.IE hb hc;obtain ⟨cs,Fg,CM,_⟩:=Ue (ok:=okG B ok0 g w) (w:=w) (e:=e) (c:=λ k=>cur[k]?) (l:=l) (base:=0) (by simp_all);refine ⟨cs,⟨hlen,by rw [Fg.1,hlen],λ i x hi=>?_⟩,λ j v hj=>?_⟩
 ·obtain ⟨ys,hy,CU⟩:=Fg.2 i x hi;have Iv:=hy.len;have:(cs.drop (i*e.sz)).take e.sz=ys:=by
   apply List.ext_getElem?
   grind
  simp_all
 ·simp [World.cell?];simp_all
theorem Yaz (hE:EnvOk P E) (hI:Inv B ok0 w0 g σ a w) {t:ResultVar} {u:Ty} {x:u.D} (AY:∀ c,Yb E σ t=some c->c=true) (h:(QF E σ t).as u=some x):
  ∃ v,(Td a.tmps t).run P w = .ok v w/\RepA (okG B ok0 g w) g σ w (QF E σ t) v:=by
 unfold QF at *;cases t with
 | tmp t=>exact ⟨_,rfl,hI.slots t⟩
 | cell s T=>
  dsimp only at *;have rx:=hI.slots s;split at h
  ·rename_i id ver off hx;rw [hx] at rx;split at h
   ·rename_i hv;obtain ⟨b,f,hb,hp⟩:=rx.2 hv;split at h
    ·rename_i t z gs hc;obtain ⟨Km,cs,TT,hh,hr,_,ht⟩:=hI.IE hb hc;split at h
     ·rename_i u' hu;split at h
      ·rename_i y hy;obtain ⟨hs,fh⟩:=P2 hy hr
       have hl:=(hE.ty T u' hu).load (b:=b) (o:=off) hs (λ j v hj=>by
        rw [AQ] at hj;split at hj
        ·simp [World.cell?];simp_all
        simp_all)
       refine ⟨valOf u' ((cs.drop off).take u'.sz),?_,by rw [if_pos hv];exact ⟨_,hs,rfl,jM ht⟩⟩;unfold Td;dsimp only;rw [show a.tmps.getD s undef = .pointer (some ⟨b,off,none⟩) from hp];simp [asAddr,Sem.run_bind,Sem.run_pure,Result.andThen_ok,hl]
      ·cases h
     ·cases h
    ·rename_i e l fz hc;split at h
     ·rename_i m e' hT;split at h
      ·rename_i h0;split at h
       ·rename_i l' Im;obtain ⟨ee,D2⟩:=F6 Im;have TP:e=e':=by grind
        subst TP;have YI:l=l':=D2;subst YI;have hlen:List.length (α:=e.D) l=m+1:=Az (AY _ (by unfold Yb;simp_all));obtain ⟨cs,FL,CM⟩:=Yzy hI hb hc hlen;have hl:=(hE.ty T _ hT).load (b:=b) (o:=off) FL (by simp_all);refine ⟨valOf (.arr m e) cs,?_,by rw [if_pos hv,if_pos h0];exact ⟨cs,FL,rfl,λ t ht=>by cases ht⟩⟩;unfold Td;dsimp only;rw [show a.tmps.getD s undef = .pointer (some ⟨b,off,none⟩) from hp];simp [asAddr,Sem.run_bind,Sem.run_pure,Result.andThen_ok,hl]
       ·cases h
      ·cases h
     ·cases h
    ·cases h
   ·cases h
  ·cases h
theorem yL (hI:Inv B ok0 w0 g σ a w) (id ver:Nat):∃ g',Inv B ok0 w0 g' (ew σ id ver) a w:=by
 unfold ew;split
 ·rename_i hv;have hid:id<pid0:=Nat.le_of_ble_eq_true hv.2;split
  ·rename_i e l fz hc;cases hb:g.bx id with
   | none=>exact ⟨g,(hI.iE hc hb).1⟩
   | some q=>
    obtain ⟨g',_,CG,_⟩:=hI.freeze hc hb hid
    grind
  grind
 grind
theorem jN:∀ (ts:List ResultVar) {σ:St} {g:G},Inv B ok0 w0 g σ a w->∃ g',Inv B ok0 w0 g' (VA ts σ) a w
 | [],_,g,hI=>⟨g,hI⟩
 | .tmp t :: ts,σ,g,hI=>by
  have:∃ g',Inv B ok0 w0 g' (pM σ (σ.t t)) a w:=by
   unfold pM;split
   ·exact yL hI _ _
   ·exact yL hI _ _
   grind
  obtain ⟨g',CG⟩:=this;exact jN ts CG
 | .cell _ _ :: ts,σ,g,hI=>jN ts hI
theorem Ykf (hI:Inv B ok0 w0 g σ a w) {av:AV} {v:Value} (hr:RepA (okG B ok0 g w) g σ w av v):RepA (okG B ok0 g w) g σ w (dz σ av) v:=by
 have Py:∀ {id b:Nat} {f:Bool} {e:Ty} {l:List e.D},σ.c id=some (.arr e l true)->g.bx id=some (b,f)->∃ cur T y,w.heap[b]? = some (.cells cur T y)/\(∀ o,okG B ok0 g w b o)/\
   ∀ (i:Nat) (x:e.D),l[i]? = some x->∃ ys,RepD (okG B ok0 g w) w e x ys/\∀ j u,ys[j]? = some u->cur[i*e.sz+j]? = some u:=by
  intro id b f e l hc hb;obtain ⟨hf,cur,T,ym,hh,_,_,_,Cj⟩:=hI.IE hb hc;subst hf;have FW:=hI.bb id b true hb;have Kn:B.n<=b:=by simp_all
  refine ⟨cur,T,ym,hh,λ o=> .inr ⟨.inl Kn,FW.2,λ id' he=>?_,λ id' u he=>?_⟩,Cj⟩
  ·have:=hI.bi _ _ _ _ _ he hb;simp_all
  ·exact absurd hb ((hI.rb id' b u he).2.2 id true)
 unfold dz;split
 ·split
  ·rename_i hv;split
   ·rename_i e l hc;obtain ⟨e2,l2,IG,CB,I0⟩:=hr.2 hv;rw [hc] at CB;cases CB;rcases I0 with ⟨hn,Li,hv⟩ | ⟨b,f,cap,cur,T,ym,hb,hh,CM,hle,Ds,hv⟩
    ·have YJ:l=[]:=by simp_all
     subst YJ;exact ⟨[v],by rw [hv];exact ⟨none,0,0,rfl,rfl,Au _,Nat.zero_le _,λ i x hi=>by simp at hi⟩,rfl,λ t ht=>by cases ht⟩
    ·obtain ⟨cur',T',y',Fz,B3,Cj⟩:=Py hc hb;refine ⟨[v],?_,rfl,λ t ht=>by cases ht⟩;rw [hv];refine ⟨_,_,_,rfl,rfl,hle,Ds,λ i x hi=>?_⟩;obtain ⟨ys,hy,CU⟩:=Cj i x hi;refine ⟨_,rfl,rfl,ys,hy,λ j u hj=>⟨B3 _,?_⟩⟩;simp [World.cell?,AF]
     grind
   ·trivial
  ·trivial
 ·split
  ·rename_i hv;split
   ·rename_i e l hc;obtain ⟨e2,l2,IG,A,cap,CB,NS,Gf,Ly,hA,Mr,hp⟩:=hr.2 hv;rw [hc] at CB;refine ⟨[v],?_,rfl,λ t ht=>by cases ht⟩;rw [hp];refine ⟨_,_,_,rfl,by grind,Gf,Ly,λ i x hi=>?_⟩;obtain ⟨Dc,hi'⟩:=fN hi;obtain ⟨b2,f2,DE,TQ⟩:=hA Ad;obtain ⟨cur',T',y',Fz,B3,Cj⟩:=Py hc DE;obtain ⟨ys,hy,CU⟩:=Cj _ x hi';refine ⟨_,TQ,rfl,ys,hy,λ j u hj=>⟨B3 _,?_⟩⟩;simp [World.cell?]
    grind
   ·trivial
  ·trivial
 grind
def Me (σ:St):List AV->List Dat->List Nat->Prop
 | [],[],l=>l=[]
 | av :: Pz,d :: ds,l=>av.as d.t=some d.x/\∃ l1 l2,Nz σ (av.tags d.t) d.g=some l1/\l=l1++l2/\Me σ Pz ds l2
 | _,_,_=>False
theorem iF:∀ {Pz:List AV} {rs:List (Ty×List Tag)} {y:Ev rs} {l:List Nat},Tq σ Pz rs=some (y,l)->Me σ Pz (F9 rs y) l
 | [],[],_,_,h=>by cases h;rfl
 | [],_ :: _,_,_,h=>by cases h
 | [_],[],_,_,h=>by cases h
 | _ :: _ :: _,[],_,_,h=>by cases h
 | [v],[u],y,l,h=>by
  unfold Tq at h;split at h
  ·rename_i x l' hx Im;cases h;exact ⟨hx,l,[],Im,Ah,rfl⟩
  simp_all
 | [_],_ :: _ :: _,_,_,h=>by cases h
 | _ :: _ :: _,[_],_,_,h=>by cases h
 | v :: v2 :: vs,u :: u2 :: rs,y,l,h=>by
  unfold Tq at h;split at h
  ·rename_i x l' z hx Im hz;cases h;exact ⟨hx,l',z.2,Im,rfl,iF hz⟩
  simp_all
theorem Me.split:∀ {a b:List AV} {ds:List Dat} {l:List Nat},Me σ (a++b) ds l->∃ l1 l2,l=l1++l2/\Me σ a (ds.take a.length) l1/\Me σ b (ds.drop a.length) l2
 | [],_,ds,l,h=>⟨[],l,rfl,rfl,h⟩
 | v :: a,b,[],l,h=>h.elim
 | v :: a,b,d :: ds,l,⟨h1,l1,l2,h2,h3,h4⟩=>by
  obtain ⟨m1,m2,k1,k2,k3⟩:=Me.split h4;exact ⟨l1++m1,m2,by simp_all,⟨h1,l1,m1,h2,rfl,k2⟩,k3⟩
theorem Me.len:∀ {a:List AV} {ds:List Dat} {l:List Nat},Me σ a ds l->ds.length=a.length
 | [],[],_,_=>rfl
 | _ :: _,_ :: _,_,⟨_,_,_,_,_,h⟩=>by rw [Aw,Aw,h.len]
 | [],_ :: _,_,h=>h.elim
 | _ :: _,[],_,h=>h.elim
theorem wA {ids:List Nat}:∀ {Pz:List AV} {ds:List Dat} {vs:List Value} {l:List Nat} (j:Nat),Me σ Pz ds l->C9 (λ av v=>RepA ok g σ w av v) Pz vs->(∀ i,i<l.length->ids[j+i]? = l[i]?)->
  L7 ok (rowsOf g ids) w j ds vs
 | [],[],[],_,_,_,_,_=>trivial
 | av :: Pz,d :: ds,v :: vs,l,j,⟨h1,l1,l2,h2,h3,h4⟩,hr,hi=>by
  subst h3;obtain ⟨cs,k1,k2,k3⟩:=Yf6 h1 hr.1;have hf:=jL (ids:=ids) k3 j h2 λ i hi'=>by grind
  refine ⟨(by grind),?_⟩;rw [hf.2];exact wA (j+l1.length) h4 hr.2 λ i hi'=>by
   rw [Nat.add_assoc,hi (l1.length+i) Ai,AJ Ad];simp
 | [],_ :: _,_,_,_,h,_,_=>h.elim
 | _ :: _,[],_,_,_,h,_,_=>h.elim
 | [],[],_ :: _,_,_,_,h,_=>h.elim
 | _ :: _,_ :: _,[],_,_,_,h,_=>h.elim
theorem wB (hE:EnvOk P E) (hI:Inv B ok0 w0 g σ a w):∀ {ts:List ResultVar} {ds:List Dat} {l:List Nat},(∀ t∈ts,∀ c,Yb E σ t=some c->c=true)->Me σ (Vh E σ ts) ds l->
  ∃ vs,C9 (λ rv v=>(Td a.tmps rv).run P w = .ok v w) ts vs/\C9 (λ av v=>RepA (okG B ok0 g w) g σ w av v) (Vh E σ ts) vs
 | [],_,_,_,_=>⟨[],trivial,trivial⟩
 | t :: ts,[],_,_,h=>h.elim
 | t :: ts,d :: ds,l,AY,⟨h1,_,l2,_,_,h2⟩=>by
  obtain ⟨vs,k1,k2⟩:=wB hE hI (by simp_all) h2;have:∃ v,(Td a.tmps t).run P w = .ok v w/\RepA (okG B ok0 g w) g σ w (QF E σ t) v:=by
   cases t with
   | tmp t=>exact ⟨_,rfl,hI.slots t⟩
   | cell s T=>
    have Cg:∀ (av:AV),(dz σ av).as d.t=some d.x->(∃ u x gs,av = .dat u x gs)\/av = .nils\/(∃ id ver,av = .slw id ver)\/∃ id ver lo n,av = .slm id ver lo n:=by
     intro av h;cases av with
     | dat u x gs=>simp
     | nils=>simp
     | slw id ver=>simp
     | slm id ver lo n=>simp
     | _=>cases h
    have D0:(QF E σ (.cell s T) = .undef)\/∃ u x gs,QF E σ (.cell s T) = .dat u x gs:=by
     unfold QF;dsimp only
     (repeat' split) <;> first | simp | simp
    rcases D0 with hu | ⟨u,x,gs,hu⟩
    ·grind
    ·have hx:(QF E σ (.cell s T)).as d.t=some d.x:=by rw [hu] at h1 ⊢;exact h1
     exact Yaz hE hI (by simp_all) hx
  obtain ⟨v,B8,hv⟩:=this;exact ⟨v :: vs,⟨B8,k1⟩,Ykf hI hv,k2⟩
theorem wC {want:List Tag} {l:List Nat} (h:Nz σ [] want=some l):want=[]/\l=[]:=by
 cases want with
 | nil=>cases h;simp
 | cons t r=>
  unfold Nz X9 at h;simp_all
theorem gG {R:Type} {y:R}:∀ {ps:List PK} {k:Nat} {r:Option R},O2 σ ps k r=some y->r=some y/\∀ (j:Nat) e0 e l f,ps[j]? = some (.ioa e0)->σ.c (pid0+(k+j))=some (.arr e l f)->0<List.length (α:=e.D) l
 | [],_,_,h=>⟨h,Ah⟩
 | p :: ps,k,r,h=>by
  have tail:O2 σ ps (k+1) r=some y->r=some y/\∀ (j:Nat) e0 e l f,ps[j]? = some (.ioa e0)->σ.c (pid0+(k+(j+1)))=some (.arr e l f)->0<List.length (α:=e.D) l:=λ h'=>by
   obtain ⟨h1,h2⟩:=gG h'
   grind
  by_cases hp:∃ e,p = .ioa e
  ·unfold O2 at h
   grind
  ·have he:O2 σ (p :: ps) k r=O2 σ ps (k+1) r:=by
    cases p <;> first | rfl | simp_all
   grind
theorem Z3 (hI:Inv B ok0 w0 g σ a w) {ids:List Nat}:∀ {qs:List PK} {k:Nat} {ds:List Dat} {l:List Nat} (j:Nat),Me σ (Rw σ qs k) ds l->B.io.length=k+qs.length->(∀ (j:Nat) e0 e l f,qs[j]? = some (.ioa e0)->σ.c (pid0+(k+j))=some (.arr e l f)->0<List.length (α:=e.D) l)->
  (∀ i,i<l.length->ids[j+i]? = l[i]?)->MP (okG B ok0 g w) (rowsOf g ids) w j (Mb qs ds) (B.io.drop k)
 | [],k,[],_,_,_,hl,_,_=>by rw [List.drop_eq_nil_of_le (by simp at hl;omega)];trivial
 | [],_,_ :: _,_,_,h,_,_,_=>h.elim
 | q :: qs,k,[],_,_,h,_,_,_=>h.elim
 | q :: qs,k,d :: ds,l,j,⟨h1,l1,l2,h4,h3,h2⟩,hl,hf,hi=>by
  subst h3;rw [Aw] at hl;have hk:k<B.io.length:=Ad
  rw [List.drop_eq_getElem_cons hk];have NT:∀ b f,g.bx (pid0+k)=some (b,f)->b=B.io[k]:=λ b f hb=>by
   have:=hI.nm _ _ _ Ad hb;simp_all
  have Km:∀ (j:Nat) e0 e l f,qs[j]? = some (.ioa e0)->σ.c (pid0+(k+1+j))=some (.arr e l f)->0<List.length (α:=e.D) l:=λ j e0 e l f hj hc=>
   hf (j+1) e0 e l f (by grind) (by grind)
  cases q with
  | io t0 g0=>
   unfold Ya at h1 h4;dsimp only at h1 h4;split at h1
   ·rename_i t x gs hc;rw [hc] at h4;obtain ⟨b,f,hb,Y5,cs,T,hh,hr,PA,TR⟩:=hI.pN hc Ah;have:=NT _ _ hb;subst this;obtain ⟨e,_⟩:=F6 (h1:DM (t:=t) d.t x=some d.x);obtain ⟨q1,q2⟩:=jL (ids:=ids) TR j (h4:Nz σ gs d.g=some l1) λ i hi'=>by grind
    refine ⟨⟨cs,T,hh,hr.cast h1,by rw [<- e];exact PA,q1⟩,?_⟩;show MP _ _ _ (j+Hc d.g) _ _;rw [q2];exact Z3 hI (k:=k+1) (j+l1.length) h2 Ad Km λ i hi'=>by
     rw [Nat.add_assoc,hi (l1.length+i) Ai,AJ Ad];simp
   ·cases h1
  | ioa e0=>
   unfold Ya at h1 h4;dsimp only at h1 h4;split at h1
   ·rename_i e lx hc;rw [hc] at h4;obtain ⟨KO,Li⟩:=wC (h4:Nz σ [] d.g=some l1);have IW:=hf 0 e0 e lx false rfl hc;obtain ⟨dt,dx,dg⟩:=d;obtain ⟨he,hx⟩:=F6 (h1:DM (t:= .sl e) dt lx=some dx);dsimp only at he;subst he;have hx:lx=dx:=hx;subst hx;rcases hI.con _ _ hc with ⟨_,e2,fz,he2⟩ | ⟨b,f,hb,Y5,cur,T,hh,q1,q2,q3⟩
    ·grind
    ·have:=NT _ _ hb;subst this;refine ⟨⟨rfl,cur,T,hh,q1,q2,q3⟩,?_⟩;exact Z3 hI (k:=k+1) j h2 Ad Km λ i hi'=>by
      grind
   ·cases h1
  | val t=>exact absurd h1 (by intro h;cases h)
  | ref t=>exact absurd h1 (by intro h;cases h)
  | fn f ts=>exact absurd h1 (by intro h;cases h)
theorem wD {gs:List Tag}:∀ {want:List Tag} {l:List Nat},Nz σ gs want=some l->Hc want=l.length
 | [],l,h=>by cases h;rfl
 | t :: r,l,h=>by
  unfold Nz at h;split at h
  ·grind
  ·rename_i h0;split at h
   ·split at h
    ·rename_i l' Im;cases h;unfold Hc;rw [if_neg h0,wD Im];rfl
    simp_all
   simp_all
theorem wE:∀ {Pz:List AV} {ds:List Dat} {l:List Nat},Me σ Pz ds l->KH ds=l.length
 | [],[],l,h=>by cases h;rfl
 | _ :: _,_ :: _,l,⟨_,l1,l2,h2,h3,h4⟩=>by
  unfold KH;rw [wD h2,wE h4,h3,Ap]
 | [],_ :: _,_,h=>h.elim
 | _ :: _,[],_,h=>h.elim
theorem Ybz:∀ ds:List Dat,Zmq (No ds)=KH ds
 | []=>rfl
 | [_]=>rfl
 | _ :: _ :: _=>rfl
theorem L7.mono {ok ok':Nat->Nat->Prop} {ρ:Nat->Option (Nat×Nat)} (hm:∀ b o,ok b o->ok' b o):∀ {j:Nat} {ds:List Dat} {vs:List Value},L7 ok ρ w j ds vs->L7 ok' ρ w j ds vs
 | _,[],[],_=>trivial
 | _,[],_ :: _,h=>h.elim
 | _,_ :: _,[],h=>h.elim
 | _,_ :: _,_ :: _,⟨⟨cs,h1,h2,h3⟩,h4⟩=>⟨⟨cs,h1.mono (by simp_all),h2,h3⟩,h4.mono hm⟩
theorem sL {fn:Func} {ts:List ResultVar} (h:fn.results=ts.toArray) (hl:ts.length<=4) {tmps:Array Value} {P:Program} {w:World} {vs:List Value}
  (hv:C9 (λ rv v=>(Td tmps rv).run P w = .ok v w) ts vs):(results fn tmps).run P w = .ok (match vs with | [v]=>v | vs=> .tuple vs.toArray) w:=by
 have h0:results fn tmps=(do let vs <- fn.results.mapM (Td tmps);pure (if h:vs.size=1 then vs[0] else .tuple vs)):=by
  rfl
 rw [h0,h]
 match ts,vs,hv,hl with
 | [],[],_,_=>simp
 | [_],[_],h,_=>simp [h.1]
 | [_,_],[_,_],h,_=>simp [h.1,h.2.1]
 | [_,_,_],[_,_,_],h,_=>simp [h.1,h.2.1,h.2.2.1]
 | [_,_,_,_],[_,_,_,_],h,_=>simp [h.1,h.2.1,h.2.2.1,h.2.2.2.1]
 | _ :: _ :: _ :: _ :: _ :: _,_,_,hl=>simp_all
theorem MP.mono {ok ok':Nat->Nat->Prop} {ρ:Nat->Option (Nat×Nat)} (hm:∀ b o,ok b o->ok' b o):∀ {j:Nat} {ds:List Con} {bs:List Nat},MP ok ρ w j ds bs->MP ok' ρ w j ds bs
 | _,[],[],_=>trivial
 | _,d :: ds,b :: bs,⟨h,h3⟩=>by
  refine ⟨?_,h3.mono hm⟩;cases d with
  | var t x g=>obtain ⟨cs,T,h1,h2,h4⟩:=h;exact ⟨cs,T,h1,h2.mono (by simp_all),h4⟩
  | arr e l f=>obtain ⟨hf,cur,T,y,h1,hy,h2,h3,h4⟩:=h;exact ⟨hf,cur,T,y,h1,hy,h2,h3,h4.mono hm⟩
  | val v=>exact h.elim
 | _,[],_ :: _,h=>h.elim
 | _,_ :: _,[],h=>h.elim
theorem iG (E:Env) (σ:St):∀ ts:List ResultVar,(Vh E σ ts).length=ts.length
 | []=>rfl
 | _ :: ts=>by unfold Vh;rw [Aw,Aw,iG E σ ts]
theorem tA {ok:Nat->Nat->Prop}:∀ {l:List AV} {vs:List Value} {bs:List Nat} {rws:List (Option (Nat×Nat))},L3 ok w l vs bs rws->l.length=vs.length
 | [],[],_,_,_=>rfl
 | _ :: _,_ :: _,_,_,⟨_,_,_,h⟩=>by rw [Aw,Aw,tA h]
 | [],_ :: _,_,_,h=>h.elim
 | _ :: _,[],_,_,h=>h.elim
theorem wF {E:Env} (hE:EnvOk P E) (hC:Ib P E) (hm:P.follows .mixedOrders=true) {f:FuncId} {fn:Func} {c:Code} {ps:List PK} {R:Type} {kf:K R} {Q:Value->World->Prop}
    (hf:P.funcs[f]? = some fn) (hb:fn.body=some c) (Dc:GW fn.ntmps c=true) (ER:ps.length<=fn.ntmps/\fn.ntmps<=pid0)
    {l:List AV} {x:En ps} {y:R} {n:Nat} (hn:KL E (Mj E (JP E) n) (JP E) c 0 (Sb ps x) kf=some y) (hx:FQ ps l=some x) {ok0:Nat->Nat->Prop} {w:World} {vs:List Value} {bs:List Nat} {rws:List (Option (Nat×Nat))} (MO:∃ z,Lay.ok z w/\(∀ b∈bs,z<=b)/\∀ b u,some (b,u)∈rws->z<=b) (hk:∀ b o,ok0 b o->b<w.heap.size/\b∉bs/\∀ u,some (b,u)∈rws->o<u) (Iw:bs.Nodup) (Ey:∀ b∈bs,b<w.heap.size)
    (DF:bN w bs rws) (C7:L3 ok0 w l vs bs rws)
    (Xxd:∀ e σ' g1 a' w',kf e σ'=some y->Inv ⟨w.heap.size,bs,rws⟩ ok0 w g1 σ' a' w'->(∀ id,e≠ .exit id)/\a'.defers=[]/\∃ v,(results fn a'.tmps).run P w' = .ok v w'/\Q v w'):
    Calls P f vs.toArray w λ e w'=>∃ v,e = .returned v/\Q v w':=by
  refine calls_of_wp hf hb ?_;have hlen:vs.length<=fn.ntmps:=by
    have h1:=tA C7;have h2:∀ {ps:List PK} {l:List AV} {x:En ps},FQ ps l=some x->l.length=ps.length:=by
      intro ps;induction ps with
      | nil=>intro l x h;cases l with
        | nil=>rfl
        | cons _ _=>cases h
      | cons p ps ih=>
        intro l x h;cases l with
        | nil=>cases h
        | cons a l=>
          unfold FQ at h
          grind
    grind
  have BL:(vs.toArray++Array.replicate (fn.ntmps-vs.toArray.size) undef).size=fn.ntmps:=by simp_all
  obtain ⟨R5,Md⟩:=aW (ps:=ps) (x:=x) 0 0 hx C7
  let TS:Nat->Option (Nat×Bool):=λ id=>if pid0<=id then (match bs[id-pid0]? with | some b=>some (b,false) | none=>none) else none
  have Er:∀ id b f,TS id=some (b,f)->pid0<=id/\bs[id-pid0]? = some b/\f=false:=λ id b f hh=>by
    simp only [TS] at hh;split at hh
    · split at hh
      all_goals simp_all
    simp_all
  have pO:∀ j b,bs[j]? = some b->TS (pid0+j)=some (b,false):=λ j b hj=>by
    simp [TS];simp_all
  let VX:Nat->Option (Nat×Nat):=λ id=>if CK pid0 0<=id then (rws[id-CK pid0 0]?).join else none
  have pP:∀ id b u,VX id=some (b,u)->CK pid0 0<=id/\rws[id-CK pid0 0]? = some (some (b,u)):=λ id b u hh=>by
    simp only [VX] at hh;split at hh
    · rename_i hp;cases hq:rws[id-CK pid0 0]? with
      | none=>simp_all
      | some o=>simp_all
    simp_all
  have hI:Inv ⟨w.heap.size,bs,rws⟩ ok0 w ⟨TS,VX⟩ (Sb ps x) { tmps:=vs.toArray++Array.replicate (fn.ntmps-vs.toArray.size) undef,defers:=[] } w:=
    { below := BelowX.refl _ _, hB := rfl, h0 := hk, hR := λ b u hm => ⟨(DF.2 b u hm).1, (DF.2 b u hm).2, λ u' MY => by
        obtain ⟨i,hi⟩:=List.mem_iff_getElem?.1 hm;obtain ⟨j,hj⟩:=List.mem_iff_getElem?.1 MY;have:=DF.1 i j b u u' hi hj
        simp_all⟩,defers:=rfl,lay:=MO,tm:=by simp_all
      nm:=(by simp_all)
      bb:=λ id b f hh=>by
        obtain ⟨h1,h2,h3⟩:=Er id b f hh;have J7:=List.mem_of_getElem? h2;exact ⟨.inr ⟨J7,h3,h1⟩,Ey b J7⟩
      bi:=λ id id' b f f' e1 e2=>by
        obtain ⟨h1,h2,_⟩:=Er id b f e1;obtain ⟨h3,h4,_⟩:=Er id' b f' e2;have AY:=(List.getElem?_eq_some_iff.1 h2).1;have:=(List.getElem?_inj AY Iw).1 (h2.trans h4.symm);omega
      rb:=λ id b u hh=>by
        obtain ⟨_,h2⟩:=pP id b u hh;have hm:=List.mem_of_getElem? h2;exact ⟨.inr ⟨u,hm,Au _⟩,(DF.2 b u hm).1,λ id' f he=>(DF.2 b u hm).2 (List.mem_of_getElem? (Er id' b f he).2.1)⟩
      ri:=λ id id' b u u' e1 e2=>by
        obtain ⟨h1,h2⟩:=pP id b u e1;obtain ⟨h3,h4⟩:=pP id' b u' e2;have:=DF.1 _ _ b u u' h2 h4;omega
      con:=λ id c hc=>by
        obtain ⟨j,b,h1,h2,h3⟩:=Md id c hc;subst h1;rw [AF];rcases h3 with ⟨t,y,j2,h,s,h3,cs,T,h4,h5,h6,h7⟩ | ⟨e,l,cur,T,h3,h4,h5,h6,h7⟩
        · subst h3;rw [AF];refine .inr ⟨b,false,pO j b h2,rfl,cs,T,h4,h5.mono (λ b o hk=>⟨.inl hk,rfl⟩),h6,wx (rws:=rws) (λ q=>?_) (λ _=>rfl) j2 h7⟩;simp [VX];rw [if_pos (by unfold CK;omega),show CK pid0 q-CK pid0 0=q by unfold CK;omega]
        · subst h3;exact .inr ⟨b,false,pO j b h2,rfl,cur,T,_,h4, .inl rfl,h5,h6,K8.mono (λ b o hk=> .inl hk) h7⟩
      slots:=λ t=>by
        have hv:(vs.toArray++Array.replicate (fn.ntmps-vs.toArray.size) undef).getD t undef=vs.getD t undef:=by
          rw [Array.getD_eq_getD_getElem?,Array.getElem?_append]
          grind
        rw [hv];exact wy (ok:=okG ⟨w.heap.size,bs,rws⟩ ok0 ⟨TS,VX⟩ w) (g:=⟨TS,VX⟩) (σ:=Sb ps x) (w:=w) 0 0 0 t hx C7 (λ b o hk=> .inl hk)
          (λ j b hj=>⟨Nat.zero_le _,λ _=>⟨b,false,by rw [AF];exact pO j b hj,rfl⟩⟩) (λ id c hid=>⟨hid,rfl⟩) }
  refine lW hE hC (Zdh hE hC (Zyn hE hC hm fn.ntmps) n) (Zyn hE hC hm fn.ntmps) c 0 _ _ _ _ _ _ _ Dc hn ?_ hI BL;intro e σ' he g1 a' w' Hv E3;obtain ⟨h1,h2,v,h3,h4⟩:=Xxd e σ' g1 a' w' he Hv;cases e with
  | exit id=>exact absurd rfl (h1 id)
  | normal=>exact ⟨h2,v,h3,v,rfl,h4⟩
  | ret=>exact ⟨h2,v,h3,v,rfl,h4⟩
theorem yM {E:Env} (hE:EnvOk P E) (hC:Ib P E) (hm:P.follows .mixedOrders=true) {f:FuncId} {fn:Func} {c:Code} {ts:List ResultVar} {ps:List PK} {rs:List (Ty×List Tag)} {F:En ps->Option (Ev rs)}
  (hf:P.funcs[f]? = some fn) (hb:fn.body=some c) (JE:fn.results=ts.toArray) (hl:ts.length<=4) (Dc:GW fn.ntmps c=true) (ER:ps.length<=fn.ntmps/\fn.ntmps<=pid0)
  (h:∀ x y,F x=some y->∃ n,KL E (Mj E (JP E) n) (JP E) c 0 (Sb ps x) (fin E ts (ps.filter Ih) rs)=some y)
  {l:List AV} {x:En ps} {y:Ev rs} (hx:FQ ps l=some x) (hr:F x=some y) {ok0:Nat->Nat->Prop} {w:World} {vs:List Value} {bs:List Nat} {rws:List (Option (Nat×Nat))} (MO:∃ z,Lay.ok z w/\(∀ b∈bs,z<=b)/\∀ b u,some (b,u)∈rws->z<=b) (hk:∀ b o,ok0 b o->b<w.heap.size/\b∉bs/\∀ u,some (b,u)∈rws->o<u) (Iw:bs.Nodup) (Ey:∀ b∈bs,b<w.heap.size)
  (DF:bN w bs rws) (C7:L3 ok0 w l vs bs rws):
  Calls P f vs.toArray w λ e w'=>∃ v,e = .returned v/\(F9 rs y).length=ts.length+JQ ps/\BelowX ⟨w.heap.size,bs,rws⟩ w w'/\O4 ok0 w w' (No ((F9 rs y).take ts.length)) (Mb (ps.filter Ih) ((F9 rs y).drop ts.length)) bs rws v:=by
 obtain ⟨n,hn⟩:=h x y hr;have R5:=(aW (ps:=ps) (x:=x) 0 0 hx C7).1;refine wF hE hC hm hf hb Dc ER hn hx MO hk Iw Ey DF C7 λ e σ' g1 a' w' he Hv=>?_
 have key:Zlq E (VA ts σ') ts (ps.filter Ih) rs=some y->a'.defers=[]/\∃ v,(results fn a'.tmps).run P w' = .ok v w'/\(F9 rs y).length=ts.length+JQ ps/\BelowX ⟨w.heap.size,bs,rws⟩ w w'/\
   O4 ok0 w w' (No ((F9 rs y).take ts.length)) (Mb (ps.filter Ih) ((F9 rs y).drop ts.length)) bs rws v:=by
  intro Kc;obtain ⟨g',CG⟩:=jN ts Hv;revert CG Kc;generalize VA ts σ' = σf;intro Kc CG;obtain ⟨AY,Kc⟩:=iD Kc;obtain ⟨Kc,Vj⟩:=gG Kc;have hfC:∀ ps:List PK,(ps.filter Ih).length=JQ ps:=λ ps=>by
   induction ps with
   | nil=>rfl
   | cons p ps ih=>
    unfold JQ;cases p <;> simp [List.filter_cons,Ih,Iu] <;> omega
  split at Kc
  ·rename_i p hp;obtain ⟨y',ids⟩:=p;cases hd:Kh ids with
   | false=>simp_all
   | true=>
    rw [hd] at Kc;cases Kc;have hL:=iF hp;obtain ⟨l1,l2,Xqi,fk,hL2⟩:=hL.split;rw [iG] at fk hL2;obtain ⟨us,OC,hua⟩:=wB hE CG AY fk;have hrd:=wA (ids:=ids) 0 fk hua λ i hi=>by grind
    have Ij:=wE fk;have LK:=Z3 (ids:=ids) CG l1.length hL2 (by simp_all) Vj (by simp_all);have oP:=hL.len;rw [Ap,iG] at oP;have Xkh:∀ (m:List PK) k,(Rw σf m k).length=m.length:=λ m=>by
     induction m with
     | nil=>intro _;rfl
     | cons p m ih=>unfold Rw;simp_all
    rw [Xkh,hfC] at oP;refine ⟨CG.defers,_,sL JE hl OC,oP,CG.below,?_⟩;have Cj:∀ j b u,rowsOf g' ids j=some (b,u)->∃ i,ids[j]? = some i/\i≠0/\g'.rw i=some (b,u):=λ j b u hj=>by
     unfold rowsOf at hj
     grind
    have RS:∀ b o,okG ⟨w.heap.size,bs,rws⟩ ok0 g' w' b o->Df ok0 w w' rws (rowsOf g' ids) b o:=λ b o hk=>by
     rcases hk with hk | ⟨h1,h2,_,h4⟩
     ·exact .inl hk
     ·refine .inr ⟨h1,h2,λ j u hj=>?_⟩
      grind
    refine ⟨rowsOf g' ids,λ j b u hj=>?_,λ j k b u u' hj hk=>?_,by rw [Ybz,Ij];exact LK.mono RS,?_⟩
    ·obtain ⟨i,_,_,hi⟩:=Cj j b u hj;obtain ⟨h1,h2,_⟩:=CG.rb i b u hi;simp_all
    ·obtain ⟨i,h1,h2,h3⟩:=Cj j b u hj;obtain ⟨i',RY,Lh,Ot⟩:=Cj k b u' hk;have:=CG.ri i i' b u u' h3 Ot;subst this;exact aF hd j k i h1 RY h2
    ·have Znq:=hrd.mono RS;generalize (F9 rs y').take ts.length=ds at Znq ⊢
     match ds,us,Znq with
     | [],[],_=>exact ⟨[],rfl,trivial⟩
     | [d],[v],h=>exact h.1
     | d :: d2 :: ds,v :: v2 :: us,h=>exact ⟨_,rfl,h⟩
  simp_all
 unfold fin at he
 grind
theorem Zrw {E:Env} (hE:EnvOk P E) (hC:Ib P E) (hm:P.follows .mixedOrders=true) {f:FuncId} {fn:Func} {c:Code} {ts:List ResultVar} {ps:List PK} {rs:List (Ty×List Tag)} {F:En ps->Option (Ev rs)}
  (hf:P.funcs[f]? = some fn) (hb:fn.body=some c) (JE:fn.results=ts.toArray) (hl:ts.length<=4) (Dc:GW fn.ntmps c=true) (ER:ps.length<=fn.ntmps/\fn.ntmps<=pid0) (LK:JQ ps=0)
  (h:∀ x y,F x=some y->∃ n,KL E (Mj E (JP E) n) (JP E) c 0 (Sb ps x) (fin E ts [] rs)=some y):Bh P f (spec ps rs F):=by
 intro l r y hs hr ok0 w vs bs rws MO hk Iw Ey DF C7;unfold spec at hs;split at hs
 ·rename_i x hx;cases hs;have hq:ps.filter Ih=[]:=by
   have:∀ ps:List PK,JQ ps=0->ps.filter Ih=[]:=λ ps=>by
    induction ps with
    | nil=>simp
    | cons p ps ih=>
     intro h;unfold JQ at h;have h1:Iu p=0:=Ad
     have h2:=ih Ad;cases p <;> first | exact h2 | cases h1
   grind
  refine (yM hE hC hm hf hb JE hl Dc ER (by grind) hx hr MO hk Iw Ey DF C7).mono λ e w' h=>?_
  obtain ⟨v,he,hlen,hB,Tr⟩:=h;refine ⟨v,he,hB,?_⟩;rw [AL Ad,List.drop_eq_nil_of_le Ad,hq] at Tr;exact Tr
 simp_all
theorem Zsw {E:Env} (hE:EnvOk P E) (hC:Ib P E) (hm:P.follows .mixedOrders=true) {f:FuncId} {fn:Func} {c:Code} {ts:List ResultVar} {ps:List PK} {rs:List (Ty×List Tag)} {F:En ps->Option (Ev rs)}
  (hf:P.funcs[f]? = some fn) (hb:fn.body=some c) (JE:fn.results=ts.toArray) (hl:ts.length<=4) (Dc:GW fn.ntmps c=true) (ER:ps.length<=fn.ntmps/\fn.ntmps<=pid0)
  (h:∀ x y,F x=some y->∃ n,KL E (Mj E (JP E) n) (JP E) c 0 (Sb ps x) (fin E ts (ps.filter Ih) rs)=some y):Bh P f (Hm ts.length ps rs F):=by
 intro l r y hs hr ok0 w vs bs rws MO hk Iw Ey DF C7;unfold Hm at hs;split at hs
 ·rename_i x hx;cases hs;refine (yM hE hC hm hf hb JE hl Dc ER h hx hr MO hk Iw Ey DF C7).mono λ e w' h=>?_
  grind
 simp_all
theorem Zx3 {k:Nat} {av:AV} {u:Ty} {x:u.D} (h:(Yc σ k av).as u=some x):∃ e l,∃ n:Nat,σ.c (pid0+k)=some (.arr e l false)/\u = .int .i64/\HEq x (n:Int)/\
  (Yc σ k av).tags u=[]/\((∃ ver,av = .slw (pid0+k) ver/\σ.v (pid0+k)=ver/\n=List.length (α:=e.D) l)\/∃ ver,av = .slm (pid0+k) ver 0 n/\σ.v (pid0+k)=ver):=by
 unfold Yc at h ⊢;cases av with
 | slw id ver=>
  dsimp only at h ⊢;split at h
  ·rename_i hv;obtain ⟨rfl,hv⟩:=hv;split at h
   ·rename_i e l hc;obtain ⟨e1,e2⟩:=F6 (h:DM (t:= .int .i64) u _=some x);subst e1;refine ⟨e,l,_,hc,rfl,?_,?_, .inl ⟨ver,rfl,hv,rfl⟩⟩
    ·simp_all
    ·rw [if_pos ⟨rfl,hv⟩];rfl
   ·cases h
  ·cases h
 | slm id ver lo n=>
  dsimp only at h ⊢;split at h
  ·rename_i hv;obtain ⟨rfl,hv,rfl⟩:=hv;split at h
   ·rename_i e l hc;obtain ⟨e1,e2⟩:=F6 (h:DM (t:= .int .i64) u _=some x);subst e1;refine ⟨e,l,n,hc,rfl,?_,?_,(by simp_all)⟩
    ·simp_all
    ·rw [if_pos ⟨rfl,hv,rfl⟩];rfl
   ·cases h
  ·cases h
 | _=>cases h
theorem yN:∀ {qs:List PK} {k0 k:Nat} {ds:List Dat} {l:List Nat} {e:Ty} {lx:List e.D},Me σ (Rw σ qs k0) ds l->k<qs.length->σ.c (pid0+(k0+k))=some (.arr e lx false)->(∃ e0,qs[k]? = some (.ioa e0))/\(Mb qs ds)[k]? = some (.arr e lx false)
 | [],_,_,_,_,_,_,_,h,_=>by grind
 | q :: qs,k0,k,[],_,_,_,h,_,_=>h.elim
 | q :: qs,k0,0,d :: ds,l,e,lx,⟨h1,_⟩,_,hc=>by
  rw [Nat.add_zero] at hc;cases q with
  | io t0 g0=>
   unfold Ya at h1;rw [hc] at h1;cases h1
  | ioa e0=>
   unfold Ya at h1;rw [hc] at h1;refine ⟨⟨e0,rfl⟩,?_⟩;obtain ⟨dt,dx,dg⟩:=d;obtain ⟨he,hx⟩:=F6 (h1:DM (t:= .sl e) dt lx=some dx);dsimp only at he;subst he;have hx:lx=dx:=hx;subst hx;rfl
  | _=>cases h1
 | q :: qs,k0,k+1,d :: ds,l,e,lx,⟨_,_,l2,_,_,h2⟩,hk,hc=>by
  obtain ⟨h3,h4⟩:=yN (k0:=k0+1) (k:=k) h2 (by simp_all) (by rw [show k0+1+k=k0+(k+1) by omega];exact hc);exact ⟨by simp_all,by unfold Mb;simp_all⟩
theorem Ztw {E:Env} (hE:EnvOk P E) (hC:Ib P E) (hm:P.follows .mixedOrders=true) {f:FuncId} {fn:Func} {c:Code} {k t:Nat} {ps:List PK} {rs:List (Ty×List Tag)} {F:En ps->Option (Ev rs)}
  (hf:P.funcs[f]? = some fn) (hb:fn.body=some c) (JE:fn.results = #[.tmp t]) (Dc:GW fn.ntmps c=true) (ER:ps.length<=fn.ntmps/\fn.ntmps<=pid0) (hk:k<JQ ps)
  (h:∀ x y,F x=some y->∃ n,KL E (Mj E (JP E) n) (JP E) c 0 (Sb ps x) (YH k t (ps.filter Ih) rs)=some y):Bh P f (Qd k ps rs F):=by
 intro l r y hs hr ok0 w vs bs rws MO hk0 Iw Ey DF C7;unfold Qd at hs;split at hs
 ·rename_i x hx;cases hs;obtain ⟨n,hn⟩:=h x y hr;have R5:=(aW (ps:=ps) (x:=x) 0 0 hx C7).1;have hfC:∀ ps:List PK,(ps.filter Ih).length=JQ ps:=λ ps=>by
   induction ps with
   | nil=>rfl
   | cons p ps ih=>
    unfold JQ;cases p <;> simp [List.filter_cons,Ih,Iu] <;> omega
  refine wF hE hC hm hf hb Dc ER hn hx MO hk0 Iw Ey DF C7 λ e σf g' a' w' he CG=>?_
  have key:O2 σf (ps.filter Ih) 0 (match Tq σf (Yc σf k (σf.t t) :: Rw σf (ps.filter Ih) 0) rs with
    | some y=>bif Kh y.2 then some y.1 else none
    | none=>none)=some y->a'.defers=[]/\∃ v,(results fn a'.tmps).run P w' = .ok v w'/\BelowX ⟨w.heap.size,bs,rws⟩ w w'/\
    O4 ok0 w w' (Zjm k (F9 rs y)) (Mb (ps.filter Ih) ((F9 rs y).drop 1)) bs rws v:=by
   intro Kc;obtain ⟨Kc,Vj⟩:=gG Kc;split at Kc
   ·rename_i p hp;obtain ⟨y',ids⟩:=p;cases hd:Kh ids with
    | false=>simp_all
    | true=>
     rw [hd] at Kc;cases Kc;have hL:=iF hp;revert hL;cases Y6:F9 rs y' with
     | nil=>intro hL;exact hL.elim
     | cons d ds=>
      intro hL;obtain ⟨h1,l1,l2,h2,h3,h4⟩:=hL;obtain ⟨dt,dx,dg⟩:=d;obtain ⟨e,lx,m,hc,hu,hxm,TR,Xyd⟩:=Zx3 h1;subst hu;subst hxm;obtain ⟨KO,eZ⟩:=wC (by rw [<- TR];exact h2);subst eZ;subst h3;have eR:k<(ps.filter Ih).length:=by simp_all
      obtain ⟨⟨e0,hq⟩,Ny⟩:=yN (k0:=0) (k:=k) h4 eR (by rw [AF];exact hc);have IW:=Vj k e0 e lx false hq (by rw [AF];exact hc);have LK:=Z3 (ids:=ids) CG 0 h4 (by simp_all) Vj Ah;have Jf:=CG.slots t;have RN:∃ b cap A,bs[k]? = some b/\a'.tmps.getD t undef = .slice A m cap/\m<=cap/\cap<=maxLen/\m<=List.length (α:=e.D) lx/\(m≠0->A=some ⟨b,0,none⟩)/\(∀ a:Addr,A=some a->a.spot=none):=by
       have pQ:∀ b f,g'.bx (pid0+k)=some (b,f)->bs[k]? = some b:=λ b f Er=>by
        have:=CG.nm _ _ _ Ad Er;simp_all
       rcases Xyd with ⟨ver,Kl,hv,MY⟩ | ⟨ver,Kl,hv⟩
       ·rw [Kl] at Jf;obtain ⟨e2,l2,IG,CB,I0⟩:=Jf.2 hv;rw [hc] at CB;cases CB;obtain ⟨b,f,cap,Er,hle,Ds,Pt⟩:=I0.get IW
        grind
       ·rw [Kl] at Jf;obtain ⟨e2,l2,IG,A,cap,CB,NS,Gf,Ly,hA,Mr,Pt⟩:=Jf.2 hv;rw [hc] at CB;rcases CG.con _ _ hc with ⟨_,e2,fz,he2⟩ | ⟨b,f,Er,_⟩
        all_goals grind
      obtain ⟨b,cap,A,qE,Pt,hmc,Ds,Lg,TU,TQ⟩:=RN;refine ⟨CG.defers, .slice A m cap,?_,CG.below,?_⟩
      ·have:=sL (fn:=fn) (ts:=[.tmp t]) (tmps:=a'.tmps) (P:=P) (w:=w') (vs:=[.slice A m cap]) JE Ah ⟨by show (pure (a'.tmps.getD t undef):Sem Value).run P w'=_;simp_all,trivial⟩;simp_all
      ·have Cj:∀ j b u,rowsOf g' ids j=some (b,u)->∃ i,ids[j]? = some i/\i≠0/\g'.rw i=some (b,u):=λ j b u hj=>by
        unfold rowsOf at hj
        grind
       have RS:∀ b o,okG ⟨w.heap.size,bs,rws⟩ ok0 g' w' b o->Df ok0 w w' rws (rowsOf g' ids) b o:=λ b o hk=>by
        rcases hk with hk | ⟨h1,h2,_,h4⟩
        ·exact .inl hk
        ·refine .inr ⟨h1,h2,λ j u hj=>?_⟩
         grind
       refine ⟨rowsOf g' ids,λ j b u hj=>?_,λ j k b u u' hj hk=>?_,?_,?_⟩
       ·obtain ⟨i,_,_,hi⟩:=Cj j b u hj;obtain ⟨h1,h2,_⟩:=CG.rb i b u hi;simp_all
       ·obtain ⟨i,h1,h2,h3⟩:=Cj j b u hj;obtain ⟨i',RY,Lh,Ot⟩:=Cj k b u' hk;have:=CG.ri i i' b u u' h3 Ot;subst this;exact aF hd j k i h1 RY h2
       ·exact LK.mono RS
       ·exact ⟨b,cap,e,lx,false,A,qE,Ny,Ad,Ad,Ds,by exact TU,TQ,by rfl⟩
   simp_all
  unfold YH at he
  grind
 simp_all
end
end Go.AM
end

section
/- Tables of types: what the seat's facts must say for the environment to be sound. -/
namespace Go.AM
set_option linter.unusedSectionVars false
variable [Lay]
universe u
def look {α:Type u}:List (Nat×α)->Nat->Option α
 | [],_=>none
 | (i,a) :: r,k=>bif Nat.beq k i then some a else look r k
def AllL {α:Type} (p:α->Prop):List α->Prop
 | []=>True
 | a :: l=>p a/\AllL p l
theorem AllL.mem {α:Type} {p:α->Prop}:∀ {l:List α},AllL p l->∀ a∈l,p a
 | a :: l,h,b,hb=>by
  rcases List.mem_cons.1 hb with rfl | hb
  ·exact h.1
  ·exact AllL.mem h.2 b hb
theorem LX {α:Type u}:∀ {l:List (Nat×α)} {k:Nat} {a:α},look l k=some a->(k,a)∈l
 | [],_,_,h=>by cases h
 | (i,b) :: l,k,a,h=>by
  unfold look at h;cases hb:Nat.beq k i with
  | true=>
   rw [hb] at h;have:=Nat.eq_of_beq_eq_true hb;subst this;cases h;exact AI ..
  | false=>rw [hb] at h;exact AP _ (LX h)
structure Tab where
 ty:List (Nat×Ty)
 fo:List (Nat×List (Nat×Ty))
 ar:List (Nat×(Nat×Ty))
 by_:List (Nat×Nat)
 eq:List (Nat×Ty)
structure Keeps where
 loop:List (Nat×Keep)
 blk:List (Nat×Keep)
 cut:List (Nat×Keep)
 ret:Keep
 bx:List Nat
 lend:List Nat
 inpl:List (Nat×List Bool)
 lit:List Nat
def Tab.env (tb:Tab) (call:Nat->Option Spec) (ks:Keeps):Env where
 ty:=look tb.ty
 fo:=λ S f=>(look tb.fo S).bind λ l=>l[f]?
 pl:=λ S f=>(look tb.fo S).bind λ l=>l[f]?
 ar:=look tb.ar
 by_:=λ T=>(look tb.by_ T).getD 0
 eq:=look tb.eq
 call:=call
 loop:=λ b=>(look ks.loop b).getD ⟨[],[]⟩
 blk:=look ks.blk
 cut:=look ks.cut
 ret:=ks.ret
 bx:=λ d=>ks.bx.any λ i=>Nat.beq i d
 lend:=λ d=>ks.lend.any λ i=>Nat.beq i d
 inpl:=λ f=>(look ks.inpl f).getD []
 lit:=λ d=>ks.lit.any λ x=>Nat.beq d x
section
variable (P : Program)
def SFact (S:Nat) (fl:List (Nat×Ty)):Prop:=∃ fs,P.underlying S=some (.struct fs)/\C9 (λ (f:Field) (p:Nat×Ty)=>f.offset=p.1/\Fit P f.type p.2) fs.toList fl
def ArFact (T n:Nat) (e:Ty):Prop:=∃ ET,P.underlying T=some (.array n ET)/\Fit P ET e/\n<=maxLen/\
  ∃ i,P.info? T=some i/\i.zero=some (.agg (List.replicate n e.zcells).flatten.toArray)
def ByFact (tb:Tab) (T:Nat):Ty->Prop
 | .sl _=>∃ ET ie,P.underlying T=some (.slice ET)/\P.info? ET=some ie/\ie.bytes=(look tb.by_ T).getD 0/\0<(look tb.by_ T).getD 0
 | _=>True
def AggFact (tb:Tab) (T:Nat):Ty->Prop
 | .arr m e=>look tb.fo T=none/\look tb.ar T=some (m+1,e)
 | t=>t.isAgg=true->∃ fl,look tb.fo T=some fl
def EqAt (d:Nat) (T:Nat) (t:Ty):Prop:=∀ (ok:Nat->Nat->Prop) (w:World) (x y:t.D) (cs ds:List Value),RepD ok w t x cs->RepD ok w t y ds->
 (Op.equalIn d T (valOf t cs) (valOf t ds)).run P w = .ok (eqD t x y) w
def Cr (n:Nat) (T:Nat) (t:Ty):Prop:=∀ d,n<=d->EqAt P d T t
def EqFact (T:Nat) (t:Ty):Prop:=(t.isAgg=true/\P.eqGuardType P.depth T=false/\Cr P 10000 T t)\/(t = .bool/\P.underlying T=some .bool)
structure TabOk (tb:Tab):Prop where
 ty:AllL (λ p=>Fit P p.1 p.2/\ByFact P tb p.1 p.2/\AggFact tb p.1 p.2) tb.ty
 fo:AllL (λ p=>SFact P p.1 p.2) tb.fo
 ar:AllL (λ p=>ArFact P p.1 p.2.1 p.2.2) tb.ar
 eq:AllL (λ p=>EqFact P p.1 p.2) tb.eq
 slf:(tb.ty.all λ p=>!hasSlf p.2 || Nat.beq p.1 Lay.bld)=true
 byt:AllL (λ p=>p.2 = .sl (.int .u8)->P.underlying p.1=some (.slice Lay.byt)) tb.ty
 mixed:P.follows .mixedOrders=true
end
section
variable {P : Program} {tb : Tab}
theorem uC:∀ {fs:List Field} {fl:List (Nat×Ty)},C9 (λ (f:Field) (p:Nat×Ty)=>f.offset=p.1/\Fit P f.type p.2) fs fl->
  fs.mapM (λ f=>(P.info? f.type).map λ i=>(f.offset,i.size))=some (fl.map λ p=>(p.1,p.2.sz))
 | [],[],_=>rfl
 | f :: fs,p :: fl,h=>by
  obtain ⟨⟨h1,h2⟩,h3⟩:=h;obtain ⟨i,hi,hs,_⟩:=h2.info;simp only [List.mapM_cons,hi,uC h3,Option.map_some,h1,hs,List.map_cons];rfl
 | [],_ :: _,h=>h.elim
 | _ :: _,[],h=>h.elim
theorem eq_int {T:Nat} {k:IntKind} (h:P.underlying T=some (.int k)):Cr P 1 T (.int k):=by
 intro d hd ok w x y cs ds hx hy;obtain ⟨d,rfl⟩:=Aa d;simp only [RepD] at hx hy;subst hx;subst hy;exact run_equalIn_int w d T k k x y h
theorem Yvy {T:Nat} (h:P.underlying T=some .bool):Cr P 1 T .bool:=by
 intro d hd ok w x y cs ds hx hy;obtain ⟨d,rfl⟩:=Aa d;simp only [RepD] at hx hy;subst hx;subst hy;exact run_equalIn_bool' w d T x y h
theorem Yf5 {T:Nat} (h:P.underlying T=some .string):Cr P 1 T .str:=by
 intro d hd ok w x y cs ds hx hy;obtain ⟨d,rfl⟩:=Aa d;simp only [RepD] at hx hy;subst hx;subst hy;exact run_equalIn_string w d T x y h
theorem Cr.mono {n m T:Nat} {t:Ty} (h:Cr P n T t) (hm:n<=m):Cr P m T t:=λ d hd=>h d Ad
def qB (P:Program) (n:Nat):List Field->Nat->Ty->Prop
 | [f],off,a=>f.name≠ "_" /\f.offset = off/\Fit P f.type a/\Cr P n f.type a
 | f :: g :: fs,off, .pair a b=>(f.name≠ "_" /\f.offset = off/\Fit P f.type a/\Cr P n f.type a)/\qB P n (g :: fs) (off + a.sz) b
 | _,_,_=>False
theorem aV {f:Field} {u:Ty} (hf:Fit P f.type u) {ok:Nat->Nat->Prop} {w:World} {y:u.D} {c pre post:List Value} (hr:RepD ok w u y c) (hp:pre.length=f.offset):
  (part f.type (pre++(c++post)).toArray f.offset).run P w = .ok (valOf u c) w:=by
 have hc:((pre++(c++post)).drop f.offset).take u.sz=c:=by
  rw [<- hp,List.drop_left,<- hr.len,List.take_left]
 have:=yK (P:=P) (w:=w) hf (ok:=ok) (y:=y) (cs:=pre++(c++post)) (off:=f.offset) (by rw [hc];exact hr);rw [hc] at this;exact this
theorem uD {n:Nat}:∀ {fs:List Field} {off:Nat} {t:Ty},qB P n fs off t->∀ {d:Nat},n<=d->∀ {ok:Nat->Nat->Prop} {w:World} {x y:t.D} {cs ds pre pre':List Value},RepD ok w t x cs->RepD ok w t y ds->
  pre.length=off->pre'.length=off->(Op.eqFields d (pre++cs).toArray (pre'++ds).toArray fs).run P w = .ok (eqD t x y) w
 | [f],off,a,h,d,hd,ok,w,x,y,cs,ds,pre,pre',hx,hy,hp,Ow=>by
  obtain ⟨h1,h2,h3,h4⟩:=h;have e1:=aV h3 (post:=[]) (pre:=pre) hx (by rw [hp,h2]);have e2:=aV h3 (post:=[]) (pre:=pre') hy (by rw [Ow,h2]);rw [AE] at e1 e2;have e3:=h4 d hd ok w x y cs ds hx hy;simp only [Op.eqFields,if_pos h1,Sem.run_bind,e1,e2,e3,Result.andThen_ok];cases eqD a x y <;> simp
 | f :: g :: fs,off, .pair a b,h,d,hd,ok,w,x,y,cs,ds,pre,pre',hx,hy,hp,Ow=>by
  obtain ⟨⟨h1,h2,h3,h4⟩,h5⟩:=h;obtain ⟨c1,c2,rfl,Hr,Is⟩:=hx;obtain ⟨d1,d2,rfl,VW,qC⟩:=hy;have e1:=aV h3 (post:=c2) (pre:=pre) Hr (by rw [hp,h2]);have e2:=aV h3 (post:=d2) (pre:=pre') VW (by rw [Ow,h2]);have e3:=h4 d hd ok w x.1 y.1 c1 d1 Hr VW;have e4:=uD h5 hd (pre:=pre++c1) (pre':=pre'++d1) Is qC (by rw [Ap,hp,Hr.len]) (by rw [Ap,Ow,VW.len]);rw [AA,AA] at e4;rw [Op.eqFields];simp only [if_pos h1,Sem.run_bind,e1,e2,e3,Result.andThen_ok];show _=Result.ok (eqD a x.1 y.1 && eqD b x.2 y.2) w;cases eqD a x.1 y.1
  ·simp
  ·simpa using e4
 | [],_,_,h,_,_,_,_,_,_,_,_,_,_,_,_,_,_=>h.elim
 | _ :: _ :: _,_, .int _,h,_,_,_,_,_,_,_,_,_,_,_,_,_,_=>h.elim
 | _ :: _ :: _,_, .bool,h,_,_,_,_,_,_,_,_,_,_,_,_,_,_=>h.elim
 | _ :: _ :: _,_, .str,h,_,_,_,_,_,_,_,_,_,_,_,_,_,_=>h.elim
 | _ :: _ :: _,_, .sl _,h,_,_,_,_,_,_,_,_,_,_,_,_,_,_=>h.elim
 | _ :: _ :: _,_, .wrap _,h,_,_,_,_,_,_,_,_,_,_,_,_,_,_=>h.elim
 | _ :: _ :: _,_, .arr _ _,h,_,_,_,_,_,_,_,_,_,_,_,_,_,_=>h.elim
theorem LW {n T:Nat} {fs:Array Field} {a b:Ty} (hu:P.underlying T=some (.struct fs)) (hp:P.stoodInHeld T=false) (hf:qB P n fs.toList 0 (.pair a b)):Cr P (n+1) T (.pair a b):=by
 intro d hd ok w x y cs ds hx hy;obtain ⟨d,rfl⟩:=Aa d;have Px:P.fieldsOf T=fs:=by simp [Program.fieldsOf,hu]
 show (Op.equalIn (d+1) T (.agg cs.toArray) (.agg ds.toArray)).run P w=_;rw [run_equalIn_struct (P:=P) w d T _ _ (by rw [Px];exact hu) hp,Px];exact uD hf Ad (pre:=[]) (pre':=[]) hx hy rfl rfl
theorem iB {t:Ty} (h:t.isAgg=true) (cs:List Value):valOf t cs = .agg cs.toArray:=by simp [valOf,h]
theorem Tab.oO (h:TabOk P tb) (call:Nat->Option Spec) (ks:Keeps):EnvOk P (tb.env call ks) where
 ty:=λ T t ht=>(h.ty.mem _ (LX ht)).1
 fo:=λ S f d u hf=>by
  obtain ⟨fl,h1,h2⟩:=Option.bind_eq_some_iff.1 hf;obtain ⟨fs,h3,h4⟩:=h.fo.mem _ (LX h1);have hlen:fs.toList.length=fl.length:=h4.len;have AY:f<fl.length:=(List.getElem?_eq_some_iff.1 h2).1;have hfs:fs.toList[f]? = some fs.toList[f]:=AD Ad;obtain ⟨p,hp,h5,h6⟩:=h4.get hfs;rw [h2] at hp;cases hp;exact ⟨fs,_,h3,by rw [<- Array.getElem?_toList];exact hfs,h5,h6⟩
 ar:=λ T n e ha=>h.ar.mem _ (LX ha)
 by_:=λ T e ET ie ht hu hi=>by
  obtain ⟨ET',ie',h1,h2,h3,h4⟩:=(h.ty.mem _ (LX ht)).2.1;rw [hu] at h1;cases h1;rw [hi] at h2;cases h2;exact ⟨h3,h4⟩
 byt:=λ T ET ht hu=>by
  have:=h.byt.mem _ (LX ht) rfl;rw [hu] at this;cases this;rfl
 slf:=λ T t ht hs=>by
  have:=List.all_eq_true.1 h.slf _ (LX ht);simp only [hs,Bool.not_true,Bool.false_or] at this;exact Nat.eq_of_beq_eq_true this
 arMax:=λ T m e ht=>by
  obtain ⟨_,h2⟩:=(h.ty.mem _ (LX ht)).2.2;obtain ⟨_,_,_,h3,_⟩:=h.ar.mem _ (LX h2);exact h3
 pl:=λ T t ht ha=>by
  obtain ⟨Ei,_,Pn⟩:=h.ty.mem _ (LX ht);have Fy:∀ fl,look tb.fo T=some fl->∃ place:Nat->Option (Nat×Nat),(∀ i d u,(tb.env call ks).pl T i=some (d,u)->place i=some (d,u.sz))/\
    ∀ (w:World) (parts:Array (Nat×Value)) (cells:Array Value),Instr.fill place t.zcells.toArray parts.toList=some cells->(Instr.build T parts).run P w = .ok (.agg cells) w:=λ fl GD=>by
   obtain ⟨fs,h3,h4⟩:=h.fo.mem _ (LX GD);refine ⟨λ i=>(fl.map λ p=>(p.1,p.2.sz)).toArray[i]?,λ i d u hi=>?_,λ w parts cells hc=>?_⟩
   ·have hi':(look tb.fo T).bind (λ l=>l[i]?)=some (d,u):=hi;rw [GD] at hi';have TN:fl[i]? = some (d,u):=hi';simp [TN]
   ·obtain ⟨it,hit,_,hz⟩:=Ei.info;refine run_build w T parts cells ?_;unfold Program.built;rw [hit,h3];dsimp only;rw [hz,uC h4];dsimp only;rw [iB ha];exact hc
  cases t with
  | arr m e=>
   obtain ⟨Px,har⟩:=Pn;obtain ⟨ET,hu,hfe,_,it,hit,hz⟩:=h.ar.mem _ (LX har);obtain ⟨ie,EX,_,_⟩:=hfe.info;refine ⟨λ i=>some (i*ie.size,ie.size),λ i d u hi=>?_,λ w parts cells hc=>?_⟩
   ·have hi':(look tb.fo T).bind (λ l=>l[i]?)=some (d,u):=hi;rw [Px] at hi';cases hi'
   ·refine run_build w T parts cells ?_;unfold Program.built;rw [hit,hu];dsimp only;rw [hz,EX];exact hc
  | pair a b=>obtain ⟨fl,GD⟩:=Pn ha;exact Fy fl GD
  | wrap a=>obtain ⟨fl,GD⟩:=Pn ha;exact Fy fl GD
  | _=>cases ha
 eq:=λ T t he ok w x y cs ds p q hx hy=>by
  rcases h.eq.mem _ (LX he) with ⟨ha,hg,he⟩ | ⟨hb,hu⟩
  ·have:=he 10000 (Au _) ok w x y cs ds hx hy;rw [iB ha,iB ha] at this ⊢;refine ⟨run_eqGuard_agg w _ T p q _ _ hg,run_eqGuard_agg w _ T p q _ _ hg,?_,?_⟩
   ·rw [run_eql_struct,this];rfl
   ·rw [run_neq_struct,this];rfl
  ·dsimp only at hb;subst hb;simp only [RepD] at hx hy;subst hx;subst hy;exact ⟨rfl,rfl,run_eql_bool w T x y hu,run_neq_bool w T x y hu⟩
 mixed:=h.mixed
end
end Go.AM
end

section
/- A law's row: arguments that can be read as data are represented; the call's answer. -/
namespace Go.AM
open Go.RowKit (Below)
set_option linter.unusedSectionVars false
variable [Lay]
mutual
inductive Deep (P:Program):Nat->Ty->Prop
 | int {T:Nat} {k:IntKind}:P.underlying T=some (.int k)->Deep P T (.int k)
 | bool {T:Nat}:P.underlying T=some .bool->Deep P T .bool
 | str {T:Nat}:P.underlying T=some .string->Deep P T .str
 | sl {T ET:Nat} {e:Ty}:P.underlying T=some (.slice ET)->P.cellsOf ET=e.sz->Deep P ET e->Deep P T (.sl e)
 | wrap {T:Nat} {fs:Array Field} {a:Ty}:P.underlying T=some (.struct fs)->P.cellsOf T=a.sz->fs.size=1->DeepF P fs.toList 0 a->Deep P T (.wrap a)
 | pair {T:Nat} {fs:Array Field} {a b:Ty}:P.underlying T=some (.struct fs)->P.cellsOf T=a.sz+b.sz->DeepF P fs.toList 0 (.pair a b)->Deep P T (.pair a b)
inductive DeepF (P:Program):List Field->Nat->Ty->Prop
 | last {f:Field} {off:Nat} {a:Ty}:f.offset=off->P.cellsOf f.type=a.sz->Deep P f.type a->DeepF P [f] off a
 | cons {f g:Field} {fs:List Field} {off:Nat} {a b:Ty}:f.offset=off->P.cellsOf f.type=a.sz->Deep P f.type a->DeepF P (g :: fs) (off+a.sz) b->DeepF P (f :: g :: fs) off (.pair a b)
end
def OE:(t:Ty)->t.D->Prop
 | .int k,n=>(Lit.int k n).wf=true
 | .bool,_=>True
 | .str,s=>s.size<=maxLen
 | .sl e,l=>List.length (α:=e.D) l<=maxLen/\∀ x∈l,OE e x
 | .wrap a,x=>OE a x
 | .pair a b,x=>OE a x.1/\OE b x.2
 | .arr m e,l=>List.length (α:=e.D) l=m+1/\∀ x∈l,OE e x
 | .lk _,_=>True
def SN (w:World) (b _o:Nat):Prop:=b<w.heap.size
theorem tz {w:World} {base:Nat} {a:Addr} {n:Nat} {cs:List Value} (h:w.cells? base a n=some cs):cs.length=n/\∀ j v,cs[j]? = some v->w.cell? (a.add j)=some v:=by
 unfold World.cells? at h;split at h
 ·have hl:=mapM_some_length h;rw [List.length_range] at hl;refine ⟨hl,λ j v hj=>?_⟩;have hjn:j<n:=by have:=(List.getElem?_eq_some_iff.1 hj).1;omega
  have:=mapM_some_get h j j (by simp [hjn]);rw [this,hj]
 ·cases h
theorem Yif {w:World} {a:Addr} {v:Value} (h:w.cell? a=some v):a.block<w.heap.size:=by
 unfold World.cell? at h;cases hb:w.heap[a.block]? with
 | none=>simp [hb] at h
 | some b=>exact (Array.getElem?_eq_some_iff.1 hb).1
section
variable {P : Program} {H : Type} {enc : TypeId × Value -> H} {w : World} {base : Nat} {spare : Nat -> Bool} {held : Bool}
theorem trod_int {T:Nat} {k:IntKind} {fuel:Nat} {cs:List Value} {p:DataW H×List MemPlace} (hu:P.underlying T=some (.int k)) (h:DataW.trod enc P w base spare held (fuel+1) T cs=some p):∃ n,cs=[.int k n]/\(Lit.int k n).wf=true:=by
 unfold DataW.trod at h;rw [hu] at h;dsimp only at h;split at h <;> simp_all
theorem trod_bool {T:Nat} {fuel:Nat} {cs:List Value} {p:DataW H×List MemPlace} (hu:P.underlying T=some .bool) (h:DataW.trod enc P w base spare held (fuel+1) T cs=some p):∃ n,cs=[.bool n]:=by
 unfold DataW.trod at h;rw [hu] at h;dsimp only at h;split at h <;> simp_all
theorem Yjf {T:Nat} {fuel:Nat} {cs:List Value} {p:DataW H×List MemPlace} (hu:P.underlying T=some .string) (h:DataW.trod enc P w base spare held (fuel+1) T cs=some p):∃ n,cs=[.string n]/\n.size<=maxLen:=by
 unfold DataW.trod at h;rw [hu] at h;dsimp only at h;split at h <;> simp_all
theorem Ywy {T ET:Nat} {fuel:Nat} {cs:List Value} {p:DataW H×List MemPlace} (hu:P.underlying T=some (.slice ET)) (h:DataW.trod enc P w base spare held (fuel+1) T cs=some p):
   cs=[.slice none 0 0]\/∃ a len cap elems,cs=[.slice (some a) len cap]/\len<=cap/\cap<=maxLen/\(List.range len).mapM (λ i=>(w.cells? base (a.add (i*P.cellsOf ET)) (P.cellsOf ET)).bind (DataW.trod enc P w base spare held fuel ET))=some elems:=by
  unfold DataW.trod at h;rw [hu] at h;dsimp only at h;split at h <;> simp_all
  obtain ⟨⟨_,h1,h2⟩,h3⟩:=h;obtain ⟨el,he,_⟩:=Option.bind_eq_some_iff.1 h3;exact ⟨_,_,_,⟨rfl,rfl,rfl⟩,h1,h2,el,he⟩
theorem yJ {T:Nat} {fuel:Nat} {fs:Array Field} {cs:List Value} {p:DataW H×List MemPlace} (hu:P.underlying T=some (.struct fs)) (h:DataW.trod enc P w base spare held (fuel+1) T cs=some p):
   cs.length=P.cellsOf T/\∃ xs,(fs.toList.mapM λ f=>DataW.trod enc P w base spare held fuel f.type ((cs.drop f.offset).take (P.cellsOf f.type)))=some xs:=by
  unfold DataW.trod at h;rw [hu] at h;dsimp only at h;split at h <;> simp_all
  exact ⟨h.choose,h.choose_spec.1⟩
mutual
theorem Z2 {T:Nat} {t:Ty} {fuel:Nat} {cs:List Value} {p:DataW H×List MemPlace} (hd:Deep P T t) (h:DataW.trod enc P w base spare held fuel T cs=some p):
  ∃ x,RepD (SN w) w t x cs/\OE t x:=by
 cases fuel with
 | zero=>cases h
 | succ fuel=>
  cases hd with
  | int hu=>obtain ⟨n,rfl,hw⟩:=trod_int hu h;exact ⟨n,rfl,hw⟩
  | bool hu=>obtain ⟨n,rfl⟩:=trod_bool hu h;exact ⟨n,rfl,trivial⟩
  | str hu=>obtain ⟨n,rfl,hw⟩:=Yjf hu h;exact ⟨n,rfl,hw⟩
  | @sl _ ET e hu hc VS=>
   rcases Ywy hu h with rfl | ⟨a,len,cap,elems,rfl,VU,KP,qA⟩
   ·exact ⟨[],⟨none,0,0,rfl,rfl,Au _,Nat.zero_le _,λ i x h=>by simp at h⟩,Nat.zero_le _,λ x hx=>by cases hx⟩
   ·have hlen:=mapM_some_length qA;rw [List.length_range] at hlen;rw [hc] at qA;have key:∀ i,i<len->∃ ys,w.cells? base (a.add (i*e.sz)) e.sz=some ys/\∃ x,RepD (SN w) w e x ys/\OE e x:=λ i hi=>by
     have h1:=mapM_some_get qA i i (by simp [hi]);obtain ⟨q,hq⟩:∃ q,elems[i]? = some q:=⟨elems[i],AD Ad⟩;rw [hq] at h1;obtain ⟨ys,hy,VV⟩:=Option.bind_eq_some_iff.1 h1;exact ⟨ys,hy,Z2 VS VV⟩
    obtain ⟨l,hl⟩:∃ l:List e.D,l.length=len/\∀ (i:Nat) x,l[i]? = some x->∃ ys,w.cells? base (a.add (i*e.sz)) e.sz=some ys/\RepD (SN w) w e x ys/\OE e x:=by
     have:∀ n,n<=len->∃ l:List e.D,l.length=n/\∀ (i:Nat) x,l[i]? = some x->∃ ys,w.cells? base (a.add (i*e.sz)) e.sz=some ys/\RepD (SN w) w e x ys/\OE e x:=by
      intro n;induction n with
      | zero=>intro _;exact ⟨[],rfl,λ i x h=>by simp at h⟩
      | succ n ih=>
       intro hn;obtain ⟨l,hl,hx⟩:=ih Ad;obtain ⟨ys,hy,x,hr,hk⟩:=key n Ad;refine ⟨l++[x],by simp [hl],λ i z hz=>?_⟩;by_cases hi:i<n
       ·rw [AR Ad] at hz;exact hx i z hz
       ·rw [AJ Ad] at hz;have:i=n:=by
         have:=(List.getElem?_eq_some_iff.1 hz).1;simp at this;omega
        subst this;rw [hl,Nat.sub_self] at hz;simp at hz;subst hz;exact ⟨ys,hy,hr,hk⟩
     exact this len (Au _)
    refine ⟨l,⟨some a,len,cap,rfl,hl.1,VU,KP,λ i x hi=>?_⟩,?_,λ x hx=>?_⟩
    ·obtain ⟨ys,hy,hr,_⟩:=hl.2 i x hi;obtain ⟨hly,D0⟩:=tz hy;have Zxn:a.spot=none:=by
      obtain ⟨x0,Fb⟩:∃ x0,l[0]? = some x0:=⟨l[0]'(by have:=(List.getElem?_eq_some_iff.1 hi).1;omega),AD _⟩;obtain ⟨ys0,NF,Hb,_⟩:=hl.2 0 x0 Fb;have Xud:0<ys0.length:=by rw [Hb.len];exact Ty.Nk e
      have:=(tz NF).2 0 ys0[0] (AD Xud);rw [Addr.add_add,Nat.zero_mul,AF] at this;have h0:a.add 0=a:=by simp [Addr.add]
      rw [h0] at this;exact World.cell?_spot this
     refine ⟨a,rfl,Zxn,ys,hr,λ j v hj=>?_⟩;have h1:=D0 j v hj;rw [Addr.add_add,IN a Zxn] at h1;exact ⟨Yif (a:=⟨a.block,a.off+(i*e.sz+j),none⟩) h1,h1⟩
    ·have:=hl.1;show List.length (α:=e.D) l<=maxLen;omega
    ·obtain ⟨i,hi⟩:=List.mem_iff_getElem?.1 hx;obtain ⟨_,_,_,hk⟩:=hl.2 i x hi;exact hk
  | wrap hu hc h1 hf=>
   obtain ⟨hlen,xs,Pw⟩:=yJ hu h;obtain ⟨x,hx,hk⟩:=gF hf (pre:=[]) (cs:=cs) (by rw [hlen,hc]) rfl Pw;exact ⟨x,hx,hk⟩
  | pair hu hc hf=>
   obtain ⟨hlen,xs,Pw⟩:=yJ hu h;obtain ⟨x,hx,hk⟩:=gF hf (pre:=[]) (cs:=cs) (by rw [hlen,hc];rfl) rfl Pw;exact ⟨x,hx,hk⟩
 termination_by (fuel,0)

theorem gF {fs:List Field} {off:Nat} {t:Ty} {fuel:Nat} {pre cs:List Value} {xs:List (DataW H×List MemPlace)} (hd:DeepF P fs off t) (hl:cs.length=t.sz) (hp:pre.length=off)
  (h:(fs.mapM λ f=>DataW.trod enc P w base spare held fuel f.type (((pre++cs).drop f.offset).take (P.cellsOf f.type)))=some xs):∃ x,RepD (SN w) w t x cs/\OE t x:=by
 cases hd with
 | @last f _ _ ho hc VS=>
  simp only [List.mapM_cons,List.mapM_nil,Option.bind_eq_bind,Option.pure_def] at h;obtain ⟨q,hq,_⟩:=Option.bind_eq_some_iff.1 h;rw [ho,<- hp,List.drop_left,hc,AL Ad] at hq;exact Z2 VS hq
 | @cons f g fs _ a b ho hc VS hr=>
  rw [List.mapM_cons] at h;obtain ⟨q,hq,h2⟩:=Option.bind_eq_some_iff.1 h;obtain ⟨qs,hqs,_⟩:=Option.bind_eq_some_iff.1 h2;rw [ho,<- hp,List.drop_left,hc] at hq;have Im:cs.length=a.sz+b.sz:=hl;obtain ⟨x,hx,hk⟩:=Z2 VS hq;have CM:cs=cs.take a.sz++cs.drop a.sz:=(List.take_append_drop _ _).symm;have IQ:pre++cs=(pre++cs.take a.sz)++cs.drop a.sz:=by rw [AA,<- CM]
  rw [IQ] at hqs;obtain ⟨y,hy,hky⟩:=gF hr (pre:=pre++cs.take a.sz) (cs:=cs.drop a.sz) (by rw [List.length_drop];omega) (by rw [Ap,Ar,hp];omega) hqs;exact ⟨(x,y),⟨_,_,CM,hx,hy⟩,hk,hky⟩
 termination_by (fuel,fs.length+1)
end
end
end Go.AM
end

section
/- A law's call: what is handed in can be read; it answers true, and nothing below turns. -/
namespace Go.AM
open Go.RowKit (Below)
set_option linter.unusedSectionVars false
variable [Lay]
theorem Zwz {P:Program} {w:World} {r:Reach} {base T:Nat} {t:Ty} {v:Value} (hd:Deep P T t) (h:Value.okWide P w r base T v):v=valOf t v.cells.toList:=by
 cases hd with
 | int hu=>obtain ⟨n,rfl⟩:=WideShapes.okWide_int hu h;rfl
 | bool hu=>obtain ⟨n,rfl⟩:=WideShapes.okWide_bool hu h;rfl
 | str hu=>obtain ⟨n,rfl⟩:=WideShapes.okWide_string hu h;rfl
 | sl hu hc VS=>obtain ⟨a,len,cap,rfl⟩:=WideShapes.okWide_slice hu h;rfl
 | wrap hu hc h1 hf=>
  unfold Value.okWide at h;rw [hu] at h;obtain ⟨cs,rfl,_⟩:=h;rfl
 | pair hu hc hf=>
  unfold Value.okWide at h;rw [hu] at h;obtain ⟨cs,rfl,_⟩:=h;rfl
@[reducible] def E7 : List Ty -> List PK
 | []=>[]
 | t :: ts=> .val t :: E7 ts
def lU:(ps:List Ty)->En (E7 ps)->Prop
 | [],_=>True
 | p :: ps,x=>OE p x.1/\lU ps x.2
def DeepAll (P:Program):List Nat->List Ty->Prop
 | [],[]=>True
 | T :: Ts,t :: ts=>Deep P T t/\DeepAll P Ts ts
 | _,_=>False
section
variable {P : Program} {H : Type} {enc : TypeId × Value -> H} {W : World} {base : Nat}
theorem uB:∀ {Ts:List Nat} {ts:List Ty} {vs:List Value} {ds:List (DataW H)} {p:List MemPlace},DeepAll P Ts ts->DataW.TrodAll enc P W 0 (λ _=>true) true Ts vs ds p->
  (∀ (j:Nat) T v,Ts[j]? = some T->vs[j]? = some v->Value.okWide P W .any base T v)->
  ∃ (l:List AV) (x:En (E7 ts)),FQ (E7 ts) l=some x/\L3 (SN W) W l vs [] []/\lU ts x
 | [],[],[],[],p,_,_,_=>⟨[],(),rfl,⟨rfl,rfl⟩,trivial⟩
 | T :: Ts,t :: ts,v :: vs,d :: ds,p,hd,ha,hv=>by
  obtain ⟨p1,q,⟨fuel,hf⟩,hr,_⟩:=ha;obtain ⟨x,hx,hk⟩:=Z2 hd.1 hf;obtain ⟨l,y,h1,h2,h3⟩:=uB hd.2 hr λ j T v hT IT=>hv (j+1) T v (by simpa using hT) (by simpa using IT)
  refine ⟨.dat t x [] :: l,(x,y),?_,⟨[],[],⟨⟨_,hx,Zwz hd.1 (hv 0 T v rfl rfl)⟩,rfl,rfl⟩,h2⟩,hk,h3⟩;show FQ (.val t :: E7 ts) _=_;unfold FQ;have:Rn (.val t) (AV.dat t x [])=some x:=by unfold Rn AV.as DM;simp
  rw [this,h1]
 | [],[],_ :: _,_,_,_,ha,_=>by cases ‹List (DataW H)› <;> exact ha.elim
 | [],[],[],_ :: _,_,_,ha,_=>ha.elim
 | [],_ :: _,_,_,_,hd,_,_=>hd.elim
 | _ :: _,[],_,_,_,hd,_,_=>hd.elim
 | _ :: _,_ :: _,[],_,_,_,ha,_=>by cases ‹List (DataW H)› <;> exact ha.elim
 | _ :: _,_ :: _,_ :: _,[],_,_,ha,_=>ha.elim
theorem law_calls {f:FuncId} {Ts:List Nat} {ts:List Ty} {F:En (E7 ts)->Option Bool} (hc:Bh P f (spec (E7 ts) [(.bool,[])] F)) (hF:∀ x,lU ts x->F x=some true) (hd:DeepAll P Ts ts) {z:Nat} (MO:Lay.ok z W)
  {args:Array Value} {ds:List (DataW H)} {p:List MemPlace} (ha:DataW.TrodAll enc P W 0 (λ _=>true) true Ts args.toList ds p)
  (hv:∀ (j:Nat) T v,Ts[j]? = some T->args[j]? = some v->Value.okWide P W .any base T v):
  Calls P f args W λ e W'=>e = .returned (.bool true)/\Below W.heap.size W W':=by
 obtain ⟨l,x,h1,h2,h3⟩:=uB hd ha λ j T v hT IT=>hv j T v hT (by rw [<- Array.getElem?_toList];exact IT)
 have hs:spec (E7 ts) [(.bool,[])] F l=some ⟨Bool,F x,ll [(.bool,[])],λ _=>[]⟩:=by unfold spec;rw [h1]
 have:=hc l _ true hs (hF x h3) (SN W) W args.toList [] [] ⟨z,MO,(λ _ hm=>by cases hm),λ _ _ hm=>by cases hm⟩ (λ _ _ h=>⟨h,(λ hm=>by cases hm),λ _ hm=>by cases hm⟩) List.nodup_nil (λ _ hm=>by cases hm) ⟨(λ _ _ _ _ _ h _=>by simp at h),(λ _ _ hm=>by cases hm)⟩ h2;rw [Array.toArray_toList] at this;refine this.mono λ e W' h=>?_
 obtain ⟨v,rfl,hb,ρ,_,_,_,cs,hr,IT,_⟩:=h;simp only [RepD] at hr;subst hr;subst IT;exact ⟨rfl,hb.below⟩
end
end Go.AM
end
