import Derived.Test.YtclpadlpcfnfmaaGreatAmL5
import Derived.Laws.StructEq
import Derived.DataElems
import Derived.WideShapes
import Derived.ChangeOld
section
/- A function's contract out of what the evaluator answers of its body. -/
namespace Go.AM
open Go.RowKit (Below)
set_option linter.unusedSectionVars false
variable [Lay]
def ioN:PK→Nat
 | .io _ _=>1
 | .ioa _=>1
 | _=>0
def ioG:PK→Nat
 | .io _ g=>g.length
 | _=>0
def ioC:List PK→Nat
 | []=>0
 | p :: ps=>ioN p+ioC ps
def Ps:(ps:List PK)→DP ps→Nat→Nat→List (Nat×AV)
 | [],_,_,_=>[]
 | p :: ps,x,i,k=>(i,dJ k p x.1) :: Ps ps x.2 (i+1) (k+ioN p)
def GH:(ps:List PK)→DP ps→Nat→Nat→List (Nat×Option Con)
 | [],_,_,_=>[]
 | p :: ps,x,k,q=>match dK q p x.1 with
  | some c=>(pid0+k,some c) :: GH ps x.2 (k+ioN p) (q+ioG p)
  | none=>GH ps x.2 (k+ioN p) (q+ioG p)
def st0 (ps:List PK) (x:DP ps):St:=mk (Ps ps x 0 0) (GH ps x 0 0)
def WV (σ:St) (t:Tag):List Tag→Option Nat
 | []=>none
 | h :: r=>if h.off=t.off∧h.sz=t.sz then (if h.id=0 then some 0 else if σ.r h.id=h.ver then some h.id else none) else WV σ t r
def NI (σ:St) (gs:List Tag):List Tag→Option (List Nat)
 | []=>some []
 | t :: r=>if t.id=0 then none else match WV σ t gs with
  | some i=>match NI σ gs r with
   | some l=>some (i :: l)
   | none=>none
  | none=>none
def Rh (E:Env) (σ:St):ResultVar→AV
 | .tmp t=>σ.t t
 | .cell a T=>match σ.t a with
  | .ptr id ver off=>if σ.v id=ver then
    match σ.c id with
    | some (.var t z g)=>match E.ty T with
     | some u=>match sub u t z off with
      | some y=> .dat u y (dI g off u.sz)
      | none=> .undef
     | none=> .undef
    | some (.arr e l _)=>match E.ty T with
     | some (.arr m e')=>if off=0 then
       match Dl (t:= .sl e) (.sl e') l with
       | some l'=> .dat (.arr m e') l' []
       | none=> .undef
      else .undef
     | _=> .undef
    | _=> .undef
   else .undef
  | _=> .undef
def rz (σ:St) (id ver:Nat):St:=
 if σ.v id=ver∧Nat.blt id pid0=true then
  match σ.c id with
  | some (.arr e l _)=>σ.Cn id (.arr e l true)
  | _=>σ
 else σ
def Zsg (σ:St):AV→St
 | .slw id ver=>rz σ id ver
 | .slm id ver _ _=>rz σ id ver
 | _=>σ
def YU:List ResultVar→St→St
 | [],σ=>σ
 | .tmp t :: r,σ=>YU r (Zsg σ (σ.t t))
 | .cell .. :: r,σ=>YU r σ
def cU (σ:St):AV→AV
 | .slw id ver=>if σ.v id=ver then
   match σ.c id with
   | some (.arr e l true)=> .dat (.sl e) l []
   | _=> .undef
  else .undef
 | .slm id ver lo n=>if σ.v id=ver then
   match σ.c id with
   | some (.arr e l true)=> .dat (.sl e) ((l.drop lo).take n) []
   | _=> .undef
  else .undef
 | x=>x
def TV (E:Env) (σ:St):List ResultVar→List AV
 | []=>[]
 | t :: r=>cU σ (Rh E σ t) :: TV E σ r
def Od (σ:St) (p:PK) (id:Nat):AV:=
 match p with
 | .io _ _=>match σ.c id with
  | some (.var t x g)=> .dat t x g
  | _=> .undef
 | .ioa _=>match σ.c id with
  | some (.arr e l false)=> .dat (.sl e) l []
  | _=> .undef
 | _=> .undef
def Np (σ:St):List PK→Nat→List AV
 | [],_=>[]
 | p :: ps,k=>Od σ p (pid0+k) :: Np σ ps (k+1)
def Kz {R:Type} (σ:St):List PK→Nat→Option R→Option R
 | [],_,r=>r
 | .ioa _ :: ps,k,r=>match σ.c (pid0+k) with
  | some (.arr e l _)=>bif decide (0<List.length (α:=e.D) l) then Kz σ ps (k+1) r else none
  | _=>none
 | _ :: ps,k,r=>Kz σ ps (k+1) r
def VJ (σ:St):List AV→(rs:List (Ty×List Tag))→Option (Ey rs×List Nat)
 | [],[]=>some ((),[])
 | [v],[u]=>match v.as u.1,NI σ (v.tags u.1) u.2 with
  | some x,some l=>some (x,l)
  | _,_=>none
 | v :: v2 :: vs,u :: u2 :: rs=>match v.as u.1,NI σ (v.tags u.1) u.2,VJ σ (v2 :: vs) (u2 :: rs) with
  | some x,some l,some y=>some ((x,y.1),l++y.2)
  | _,_,_=>none
 | _,_=>none
def WW (E:Env) (σ:St):ResultVar→Option Bool
 | .tmp _=>none
 | .cell a T=>match σ.t a with
  | .ptr id _ _=>match σ.c id with
   | some (.arr e l _)=>match E.ty T with
    | some (.arr m _)=>some (decide (List.length (α:=e.D) l=m+1))
    | _=>none
   | _=>none
  | _=>none
def lens {R:Type} (E:Env) (σ:St):List ResultVar→Option R→Option R
 | [],r=>r
 | t :: ts,r=>match WW E σ t with
  | some c=>bif c then lens E σ ts r else none
  | none=>lens E σ ts r
def Ztg (E:Env) (σ:St) (ts:List ResultVar) (qs:List PK) (rs:List (Ty×List Tag)):Option (Ey rs):=
 lens E σ ts (Kz σ qs 0 (match VJ σ (TV E σ ts++Np σ qs 0) rs with
 | some y=>bif dis y.2 then some y.1 else none
 | none=>none))
def fin (E:Env) (ts:List ResultVar) (qs:List PK) (rs:List (Ty×List Tag)):K (Ey rs):=fun e σ=>
 match e with
 | .exit _=>none
 | _=>Ztg E (YU ts σ) ts qs rs
def WX (σ:St) (k:Nat):AV→AV
 | .slw id ver=>if id=pid0+k∧σ.v id=ver then
   match σ.c id with
   | some (.arr e l false)=> .dat (.int .i64) ((List.length (α:=e.D) l:Nat):Int) []
   | _=> .undef
  else .undef
 | .slm id ver lo n=>if id=pid0+k∧σ.v id=ver∧lo=0 then
   match σ.c id with
   | some (.arr _ _ false)=> .dat (.int .i64) (n:Int) []
   | _=> .undef
  else .undef
 | _=> .undef
def fh (k t:Nat) (qs:List PK) (rs:List (Ty×List Tag)):K (Ey rs):=fun e σ=>
 match e with
 | .exit _=>none
 | _=>Kz σ qs 0 (match VJ σ (WX σ k (σ.t t) :: Np σ qs 0) rs with
  | some y=>bif dis y.2 then some y.1 else none
  | none=>none)
section
variable {P : Program} {B : Bd} {ok0 ok : Nat → Nat → Prop} {w0 w w' : World} {g g' : G} {σ σ1 τ : St} {a : Act} {E : Env}
theorem fk:∀ {ts:List Ty} {ds:List Dat} {x:Wl ts} {vs:List Value},Qa ts ds=some x→Dz (fun (d:Dat) u=>IY ok w d.t d.x 0 u) ds vs→Dz (fun (d:Dat) u=>IY ok w d.t d.x 0 u) (YC ts x) vs
 | [],[],_,vs,_,h=>h
 | t :: ts,d :: ds,x,[],_,h=>h.elim
 | t :: ts,d :: ds,x,v :: vs,hd,h=>by
  unfold Qa at hd
  split at hd
  ·rename_i y hy
   split at hd
   ·rename_i z hz
    cases hd
    refine ⟨?_,fk hz h.2⟩
    obtain ⟨e,he⟩:=CR hy
    have h1:=h.1
    revert he h1
    obtain ⟨dt,dx,dg⟩:=d
    dsimp only at e ⊢
    subst e
    intro he h1
    cases he
    exact h1
   ·cases hd
  ·cases hd
 | [],_ :: _,_,_,hd,_=>by cases hd
 | _ :: _,[],_,_,hd,_=>by cases hd
theorem Zk0 {p:PK} {av:AV} {x:p.D} {v:Value} (h:Nb p av=some x) (hr:KD ok w av v):RepA ok g σ w (dJ 0 p x) v:=by
 cases p with
 | val t=>
  have h':av.as t=some x:=h
  cases av with
  | dat u x' gs=>
   obtain ⟨cs,h1,h2⟩:=hr
   have h3:=h1.cast h'
   refine ⟨cs,h3,?_,fun _ h=>by cases h⟩
   obtain ⟨e,_⟩:=CR h'
   subst e
   exact h2
  | nils=>exact hr.elim
  | ept t x off=>cases h'
  | fn f ds=>cases h'
  | _=>exact hr.elim
 | ref t=>
  cases av with
  | ept u y off=>
   cases off with
   | zero=>
    have h':Dl (t:=u) t y=some x:=h
    obtain ⟨e,he⟩:=CR h'
    subst e
    cases he
    exact hr
   | succ n=>cases h
  | _=>cases h
 | fn f ts=>
  cases av with
  | fn g ds=>
   have h':(if g=f then Qa ts ds else none)=some x:=h
   split at h'
   ·rename_i hgf
    subst hgf
    obtain ⟨vs,h1,h2⟩:=hr
    exact ⟨vs,h1,fk h' h2⟩
   ·cases h'
  | _=>cases h
 | io t g=>
  cases av with
  | iov u y h=>exact hr.elim
  | _=>cases h
 | ioa e=>
  cases av with
  | ioa u y=>exact hr.elim
  | _=>cases h
theorem YV {e:Ty} {av:AV} {x:List e.D} (h:Nb (.ioa e) av=some x):av = .ioa e x:=by
 cases av with
 | ioa u y=>
  obtain ⟨q,he⟩:=CR (h:Dl (t:= .sl u) (.sl e) y=some x)
  cases q
  cases he
  rfl
 | _=>cases h
theorem fm {t:Ty} {g:List (Nat×Nat)} {av:AV} {x:t.D} (h:Nb (.io t g) av=some x):∃ gs:List Tag,av = .iov t x gs∧gs.map (fun τ=>(τ.off,τ.sz))=g:=by
 cases av with
 | iov u y gs=>
  have h':(if gs.map (fun τ=>(τ.off,τ.sz))=g then Dl (t:=u) t y else none)=some x:=h
  split at h'
  ·rename_i hg
   obtain ⟨e,he⟩:=CR h'
   subst e
   cases he
   exact ⟨gs,rfl,hg⟩
  ·cases h'
 | _=>cases h
theorem Qq {p:PK} {av:AV} {x:p.D} (hp:ioN p=0) (h:Nb p av=some x):(∀ t y g,av≠ .iov t y g)∧∀ e l,av≠ .ioa e l:=by
 constructor
 ·intro t y g e
  subst e
  cases p with
  | io t=>cases hp
  | _=>cases h
 ·intro t y e
  subst e
  cases p with
  | ioa t=>cases hp
  | _=>cases h
theorem Nq {av:AV} {v:Value} {bs r:List Nat} {rs s:List (Option (Nat×Nat))} (hn:(∀ t y g,av≠ .iov t y g)∧∀ e l,av≠ .ioa e l) (h:Xi ok w av v bs r rs s):KD ok w av v∧bs=r∧rs=s:=by
 unfold Xi at h
 split at h
 ·exact absurd rfl (hn.1 _ _ _)
 ·exact absurd rfl (hn.2 _ _)
 ·exact h
theorem UO {cs:List Value}:∀ {h:List Tag} {rs s:List (Option (Nat×Nat))},Qs w cs h rs s→s=rs.drop h.length
 | [],_,_,h=>by cases h;rfl
 | _ :: h,_,_,⟨q,r1,rfl,h1,_⟩=>by rw [UO h1];rfl
theorem fp {cs:List Value} {rws:List (Option (Nat×Nat))} (hg:∀ q,g.rw (rid pid0 q)=(rws[q]?).join) {r0:Nat→Nat} (hr:∀ i,r0 i=0):∀ {h:List Tag} {s:List (Option (Nat×Nat))} (q:Nat),Qs w cs h (rws.drop q) s→
  Fi g r0 w (marks q (h.map fun τ=>(τ.off,τ.sz))) cs
 | [],_,_,_=>fun _ hm=>by cases hm
 | τ :: h,s,q,⟨qv,r1,he,h1,h2⟩=>by
  have hq:rws[q]? = some qv:=by
   have:=congrArg (fun l=>l[0]?) he
   simp only [List.getElem?_drop,Nat.add_zero,List.getElem?_cons_zero] at this
   exact this
  have hd:r1=rws.drop (q+1):=by
   have:=congrArg List.tail he
   rw [List.tail_drop] at this
   exact this.symm
  intro τ' hm
  rcases List.mem_cons.1 hm with rfl | hm
  ·refine ⟨fun h0=>absurd h0 (Qt _ _),fun _=>⟨Nat.zero_le _,fun _=>?_⟩⟩
   cases qv with
   | none=>exact .inl h2
   | some bu=>
    obtain ⟨b,u⟩:=bu
    obtain ⟨n,cap,cur,T,k1,k2,k3,k4,k5,k6⟩:=h2
    refine .inr ⟨b,n,cap,cur,T,k1,?_,k3,k4,k5,k6⟩
    show g.rw (rid pid0 q)=_
    rw [hg,hq,k2]
    rfl
  ·subst hd
   exact fp hg hr (q+1) h1 τ' hm
theorem SH:∀ {ps:List PK} {x:DP ps} {k q id:Nat} {c:Con},mkC (GH ps x k q) id=some c→pid0+k≤id
 | [],_,_,_,_,_,h=>by cases h
 | p :: ps,x,k,q,id,c,h=>by
  unfold GH at h
  split at h
  ·rename_i c0 hc0
   have h:(bif Nat.beq id (pid0+k) then some c0 else mkC (GH ps x.2 (k+ioN p) (q+ioG p)) id)=some c:=h
   cases hb:Nat.beq id (pid0+k) with
   | true=>have:=Nat.eq_of_beq_eq_true hb;omega
   | false=>
    rw [hb] at h
    have:=SH (ps:=ps) h
    omega
  ·have:=SH (ps:=ps) h
   omega
theorem Zl0 {p:PK} (h:ioN p=0) (q:Nat) (x:p.D):dK q p x=none:=by cases p <;> first | rfl | cases h
theorem kk {p:PK} {ps:List PK} {x:p.D} {z:DP ps} {k q id:Nat} {c:Con} (h:mkC (GH ps z (k+ioN p) (q+ioG p)) id=some c):mkC (GH (p :: ps) (x,z) k q) id=some c:=by
 unfold GH
 split
 ·rename_i c0 hc0
  have h1:ioN p=1:=by
   cases p <;> first | rfl | cases hc0
  have hge:=SH h
  have:Nat.beq id (pid0+k)=false:=by rw [Bool.eq_false_iff];intro e;have:=Nat.eq_of_beq_eq_true e;omega
  show (bif Nat.beq id (pid0+k) then some c0 else mkC (GH ps z (k+ioN p) (q+ioG p)) id)=some c
  rw [this]
  exact h
 ·exact h
theorem fq:∀ {ps:List PK} {l:List AV} {vs:List Value} {bs:List Nat} {rws:List (Option (Nat×Nat))} {x:DP ps} (i k q t:Nat),DK ps l=some x→Ig ok0 w l vs bs rws→(∀ b o,ok0 b o→ok b o)→
  (∀ j b,bs[j]? = some b→PU g σ (pid0+(k+j)) 0 0 (.pointer (some ⟨b,0,none⟩)))→(∀ id c,mkC (GH ps x k q) id=some c→σ.c id=some c∧σ.v id=0)→RepA ok g σ w (mkT (Ps ps x i k) t) (vs.getD (t-i) undef)
 | [],_,_,_,_,_,_,_,_,_,_,_,_,_,_=>trivial
 | p :: ps,[],_,_,_,_,_,_,_,_,h,_,_,_,_=>by cases h
 | p :: ps,av :: l,[],_,_,_,_,_,_,_,_,h,_,_,_=>h.elim
 | p :: ps,av :: l,v :: vs,bs,rws,x,i,k,q,t,h,⟨r,s,ha,hr⟩,hm,hg,hc=>by
  unfold DK at h
  split at h
  ·rename_i y hy
   split at h
   ·rename_i z hz
    cases h
    have hhead:RepA ok g σ w (dJ k p y) v∧∀ j b,r[j]? = some b→PU g σ (pid0+(k+ioN p+j)) 0 0 (.pointer (some ⟨b,0,none⟩)):=by
     by_cases hp:∃ t g,p = .io t g
     ·obtain ⟨t,gg,rfl⟩:=hp
      obtain ⟨hh,hav,_⟩:=fm hy
      rw [hav] at ha
      obtain ⟨b,rfl,hv,_⟩:=ha
      subst hv
      refine ⟨hg 0 b rfl,fun j b' hj=>?_⟩
      have:=hg (j+1) b' (by simpa using hj)
      rw [show k+ioN (.io t gg)+j=k+(j+1) by show k+1+j=_;omega]
      exact this
     by_cases hp2:∃ e,p = .ioa e
     ·obtain ⟨e,rfl⟩:=hp2
      have hav:=YV hy
      rw [hav] at ha
      obtain ⟨b,cap,cur,T,rfl,_,hv,hh,hcs,hle,hmx,hpos,hrow⟩:=ha
      subst hv
      have hbox:=hc (pid0+k) (.arr e y false) (by
       show (bif Nat.beq (pid0+k) (pid0+k) then _ else _)=_
       rw [Nat.beq_refl]
       rfl)
      refine ⟨⟨Nat.zero_le _,fun _=>⟨e,y,false,hbox.1,?_⟩⟩,fun j b' hj=>?_⟩
      ·obtain ⟨b2,f2,h1,h2⟩:=(hg 0 b rfl).2 hbox.2
       cases h2
       exact .inr ⟨b,f2,cap,cur,T,_,h1,hh,hcs,hle,hmx,rfl⟩
      ·have:=hg (j+1) b' (by simpa using hj)
       rw [show k+ioN (.ioa e)+j=k+(j+1) by show k+1+j=_;omega]
       exact this
     have hp0:ioN p=0:=by cases p <;> first | rfl | exact absurd ⟨_,_,rfl⟩ hp | exact absurd ⟨_,rfl⟩ hp2
     obtain ⟨h1,rfl,rfl⟩:=Nq (Qq hp0 hy) ha
     refine ⟨?_,fun j b' hj=>by rw [hp0];exact hg j b' hj⟩
     have:=Zk0 (g:=g) (σ:=σ) hy (h1.mono hm)
     cases p <;> first | exact this | exact absurd ⟨_,_,rfl⟩ hp | exact absurd ⟨_,rfl⟩ hp2
    unfold Ps mkT
    dsimp only
    cases hb:Nat.beq t i with
    | true=>
     have:t=i:=Nat.eq_of_beq_eq_true hb
     subst this
     rw [Nat.sub_self]
     exact hhead.1
    | false=>
     have hne:t≠i:=fun e=>by subst e;simp at hb
     by_cases hlt:t<i
     ·have:∀ (ps:List PK) (x:DP ps) (i k:Nat),t<i→mkT (Ps ps x i k) t = .undef:=by
       intro ps
       induction ps with
       | nil=>intro _ _ _ _;rfl
       | cons p ps ih=>
        intro x i k hk
        unfold Ps mkT
        have:Nat.beq t i=false:=by rw [Bool.eq_false_iff];intro e;have:=Nat.eq_of_beq_eq_true e;omega
        rw [this]
        exact ih _ _ _ (by omega)
      show RepA ok g σ w (mkT (Ps ps z (i+1) (k+ioN p)) t) _
      rw [this ps z (i+1) _ (by omega)]
      trivial
     ·have hi:=fq (i+1) (k+ioN p) (q+ioG p) t hz hr hm hhead.2 fun id c hid=>hc id c (kk (x:=y) hid)
      have:t-i=(t-(i+1))+1:=by omega
      rw [this]
      exact hi
   ·cases h
  ·cases h
def Zdf1 (ok0:Nat→Nat→Prop) (w:World) (rws:List (Option (Nat×Nat))) (q b:Nat) (c:Con):Prop:=
 (∃ t y j2 h s,c = .var t y (marks (q+j2) (h.map fun τ=>(τ.off,τ.sz)))∧∃ cs T,w.heap[b]? = some (.cells cs.toArray T (0,0))∧RepD ok0 w t y cs∧SX b t T cs∧Qs w cs h (rws.drop j2) s)∨
 ∃ e l cur T,c = .arr e l false∧w.heap[b]? = some (.cells cur T (0,0))∧List.length (α:=e.D) l*e.sz≤cur.size∧List.length (α:=e.D) l≤maxLen∧Ix ok0 w e l cur
theorem TW:∀ {ps:List PK} {l:List AV} {vs:List Value} {bs:List Nat} {rws:List (Option (Nat×Nat))} {x:DP ps} (k q:Nat),DK ps l=some x→Ig ok0 w l vs bs rws→bs.length=ioC ps∧
  ∀ id c,mkC (GH ps x k q) id=some c→∃ j b,id=pid0+(k+j)∧bs[j]? = some b∧Zdf1 ok0 w rws q b c
 | [],[],[],_,_,_,_,_,_,h=>by obtain ⟨rfl,rfl⟩:=h;exact ⟨rfl,fun _ _ h=>by cases h⟩
 | [],[],_ :: _,_,_,_,_,_,_,h=>h.elim
 | [],_ :: _,_,_,_,_,_,_,h,_=>by cases h
 | p :: ps,[],_,_,_,_,_,_,h,_=>by cases h
 | p :: ps,av :: l,[],_,_,_,_,_,_,h=>h.elim
 | p :: ps,av :: l,v :: vs,bs,rws,x,k,q,h,⟨r,s,ha,hr⟩=>by
  unfold DK at h
  split at h
  ·rename_i y hy
   split at h
   ·rename_i z hz
    cases h
    obtain ⟨ih1,ih2⟩:=TW (k+ioN p) (q+ioG p) hz hr
    by_cases hp:∃ t g,p = .io t g
    ·obtain ⟨t,gg,rfl⟩:=hp
     obtain ⟨hh,hav,hgg⟩:=fm hy
     rw [hav] at ha
     obtain ⟨b,rfl,hv,cs,T,c1,c2,c3,c4⟩:=ha
     refine ⟨by show r.length+1=1+ioC ps;omega,fun id c hid=>?_⟩
     have hid':(bif Nat.beq id (pid0+k) then some (Con.var t y (marks q gg)) else mkC (GH ps z (k+ioN (.io t gg)) (q+ioG (.io t gg))) id)=some c:=hid
     cases hb:Nat.beq id (pid0+k) with
     | true=>
      rw [hb] at hid'
      cases hid'
      exact ⟨0,b,Nat.eq_of_beq_eq_true hb,rfl, .inl ⟨t,y,0,hh,s,by rw [hgg];rfl,cs,T,c1,c2,c3,by rw [List.drop_zero];exact c4⟩⟩
     | false=>
      rw [hb] at hid'
      obtain ⟨j,b',h1,h2,h3⟩:=ih2 id c hid'
      have hlen:hh.length=gg.length:=by rw [← hgg,List.length_map]
      refine ⟨j+1,b',by rw [h1];show _+(k+1+j)=_;omega,by simpa using h2,?_⟩
      rcases h3 with ⟨t',y',j2,h',s',h3,cs',T',k1,k2,k3,k4⟩ | h3
      ·refine .inl ⟨t',y',gg.length+j2,h',s',?_,cs',T',k1,k2,k3,?_⟩
       ·rw [h3,show q+ioG (.io t gg)+j2=q+(gg.length+j2) by show q+gg.length+j2=_;omega]
       ·rw [UO c4,List.drop_drop,hlen] at k4
        exact k4
      ·exact .inr h3
    by_cases hp2:∃ e,p = .ioa e
    ·obtain ⟨e,rfl⟩:=hp2
     have hav:=YV hy
     rw [hav] at ha
     obtain ⟨b,cap,cur,T,rfl,rfl,hv,hh,hcs,hle,hmx,hpos,hrow⟩:=ha
     refine ⟨by show r.length+1=1+ioC ps;omega,fun id c hid=>?_⟩
     have hid':(bif Nat.beq id (pid0+k) then some (Con.arr e y false) else mkC (GH ps z (k+ioN (.ioa e)) (q+ioG (.ioa e))) id)=some c:=hid
     cases hb:Nat.beq id (pid0+k) with
     | true=>
      rw [hb] at hid'
      cases hid'
      exact ⟨0,b,Nat.eq_of_beq_eq_true hb,rfl, .inr ⟨e,y,cur,T,rfl,hh,by rw [hcs];exact Nat.mul_le_mul_right _ hle,by omega,hrow⟩⟩
     | false=>
      rw [hb] at hid'
      obtain ⟨j,b',h1,h2,h3⟩:=ih2 id c hid'
      refine ⟨j+1,b',by rw [h1];show _+(k+1+j)=_;omega,by simpa using h2,h3⟩
    ·have hp0:ioN p=0:=by cases p <;> first | rfl | exact absurd ⟨_,_,rfl⟩ hp | exact absurd ⟨_,rfl⟩ hp2
     have hp1:ioG p=0:=by cases p <;> first | rfl | exact absurd ⟨_,_,rfl⟩ hp
     obtain ⟨h1,rfl,rfl⟩:=Nq (Qq hp0 hy) ha
     refine ⟨by show _=ioN p+ioC ps;omega,fun id c hid=>?_⟩
     have:GH (p :: ps) (y,z) k q=GH ps z (k+ioN p) (q+ioG p):=by
      show (match dK q p y with | some c=>_ | none=>_)=_
      rw [Zl0 hp0]
     rw [this] at hid
     obtain ⟨j,b',h1,h2,h3⟩:=ih2 id c hid
     exact ⟨j,b',by rw [h1,hp0];rfl,h2,by rw [hp1] at h3;exact h3⟩
   ·cases h
  ·cases h
theorem Zz7 {u:Ty} {av:AV} {x:u.D} {v:Value} (h:av.as u=some x) (hr:RepA ok g σ w av v):∃ cs,RepD ok w u x cs∧v=valOf u cs∧Fi g σ.r w (av.tags u) cs:=by
 cases av with
 | dat t y gs=>
  obtain ⟨cs,h1,h2,h3⟩:=hr
  obtain ⟨e,he⟩:=CR h
  subst e
  subst he
  exact ⟨cs,h1,h2,h3⟩
 | nils=>
  cases u with
  | sl e=>
   cases h
   have:v = .slice none 0 0:=hr
   subst this
   refine ⟨[.slice none 0 0],⟨none,0,0,rfl,rfl,Nat.le_refl _,Nat.zero_le _,fun i x h=>by simp at h⟩,rfl,?_⟩
   intro t ht
   cases List.mem_singleton.1 ht
   exact ⟨fun _=>rfl,fun h=>absurd rfl h⟩
  | _=>cases h
 | _=>cases h
theorem ft {t:Tag} {i:Nat} {cs:List Value}:∀ {gs:List Tag},WV σ t gs=some i→Fi g σ.r w gs cs→(i=0→cs[t.off]? = some (.slice none 0 0))∧(i≠0→Ub g w t.sz i cs[t.off]?)
 | [],h,_=>by cases h
 | x :: gs,h,hk=>by
  unfold WV at h
  split at h
  ·rename_i hx
   have hx':=hk x (List.mem_cons_self ..)
   split at h
   ·rename_i h0
    cases h
    exact ⟨fun _=>hx.1 ▸ hx'.1 h0,fun h=>absurd rfl h⟩
   ·rename_i h0
    split at h
    ·rename_i hv
     cases h
     exact ⟨fun h=>absurd h h0,fun _=>by rw [← hx.1,← hx.2];exact (hx'.2 h0).2 hv⟩
    ·cases h
  ·exact ft h fun y hy=>hk y (List.mem_cons_of_mem _ hy)
def rowsOf (g:G) (ids:List Nat) (j:Nat):Option (Nat×Nat):=match ids[j]? with
 | some 0=>none
 | some i=>g.rw i
 | none=>none
theorem YW {gs:List Tag} {cs:List Value} (hk:Fi g σ.r w gs cs) {ids:List Nat}:∀ {want:List Tag} {l:List Nat} (j:Nat),NI σ gs want=some l→(∀ i,i<l.length→ids[j+i]? = l[i]?)→
  Kd (rowsOf g ids) w cs j want∧cnt want=l.length
 | [],l,j,h,_=>by cases h;exact ⟨trivial,rfl⟩
 | t :: r,l,j,h,hi=>by
  unfold NI at h
  split at h
  ·cases h
  ·rename_i h0
   split at h
   ·rename_i i ht
    split at h
    ·rename_i l' hl'
     cases h
     obtain ⟨h1,h2⟩:=YW hk (ids:=ids) (j+1) hl' fun i hi'=>by
      have:=hi (i+1) (by simp;omega)
      rw [show j+1+i=j+(i+1) by omega,this];rfl
     unfold Kd cnt
     rw [if_neg h0,if_neg h0]
     refine ⟨⟨?_,h1⟩,by rw [h2];rfl⟩
     obtain ⟨k1,k2⟩:=ft ht hk
     by_cases hz:i=0
     ·exact .inl (k1 hz)
     ·rcases k2 hz with hk2 | ⟨b,n,cap,cur,T,hv,hrw,rest⟩
      ·exact .inl hk2
      ·refine .inr ⟨b,n,cap,cur,T,hv,?_,rest⟩
       show rowsOf g ids j=_
       have:=hi 0 (by simp)
       unfold rowsOf
       rw [show ids[j]? = some i from this]
       cases i with
       | zero=>exact absurd rfl hz
       | succ i=>exact hrw
    ·cases h
   ·cases h
def Pt (tmps:Array Value):ResultVar→Sem Value
 | .tmp t=>pure (tmps.getD t undef)
 | .cell a t=>do loadVar t (← asAddr (tmps.getD a undef))
theorem SI {R:Type} {y:R}:∀ {ts:List ResultVar} {r:Option R},lens E σ ts r=some y→(∀ t∈ts,∀ c,WW E σ t=some c→c=true)∧r=some y
 | [],r,h=>⟨fun _ ht=>(by cases ht),h⟩
 | t :: ts,r,h=>by
  unfold lens at h
  split at h
  ·rename_i c hc
   cases c with
   | false=>cases h
   | true=>
    obtain ⟨h1,h2⟩:=SI (ts:=ts) h
    refine ⟨fun t' ht' c' hc'=>?_,h2⟩
    rcases List.mem_cons.1 ht' with rfl | ht'
    ·rw [hc] at hc';cases hc';rfl
    ·exact h1 t' ht' c' hc'
  ·rename_i hc
   obtain ⟨h1,h2⟩:=SI (ts:=ts) h
   refine ⟨fun t' ht' c' hc'=>?_,h2⟩
   rcases List.mem_cons.1 ht' with rfl | ht'
   ·rw [hc] at hc';cases hc'
   ·exact h1 t' ht' c' hc'
theorem Zm0 (hI:Inv B ok0 w0 g σ a w) {id b:Nat} {f fz:Bool} {e:Ty} {l:List e.D} {m:Nat} (hb:g.bx id=some (b,f)) (hc:σ.c id=some (.arr e l fz)) (hlen:List.length (α:=e.D) l=m+1):
  ∃ cs,RepD (okG B ok0 g w) w (.arr m e) l cs∧∀ (j:Nat) v,cs[j]? = some v→w.cell? ⟨b,j,none⟩=some v:=by
 obtain ⟨hf',cur,TT,ym,hh,hmk,hsz,hmx,hrow⟩:=hI.Hn hb hc
 obtain ⟨cs,hrows,hcs,_⟩:=Hy (ok:=okG B ok0 g w) (w:=w) (e:=e) (c:=fun k=>cur[k]?) (l:=l) (base:=0) (fun i x hi=>by
  obtain ⟨ys,hy,hyc⟩:=hrow i x hi
  exact ⟨ys,hy,fun j u hj=>by rw [Nat.zero_add];exact hyc j u hj⟩)
 refine ⟨cs,⟨hlen,by rw [hrows.1,hlen],fun i x hi=>?_⟩,fun j v hj=>?_⟩
 ·obtain ⟨ys,hy,hyc⟩:=hrows.2 i x hi
  have hyl:=hy.len
  have:(cs.drop (i*e.sz)).take e.sz=ys:=by
   apply List.ext_getElem?
   intro j
   rw [List.getElem?_take]
   split
   ·rename_i hj
    rw [List.getElem?_drop,List.getElem?_eq_getElem (show j<ys.length by omega)]
    exact hyc j _ (List.getElem?_eq_getElem (by omega))
   ·rw [List.getElem?_eq_none (by omega)]
  rw [this]
  exact hy
 ·have:=hcs j v hj
  simp only [World.cell?,hh]
  simpa using this
theorem Zn0 (hE:EnvOk P E) (hI:Inv B ok0 w0 g σ a w) {t:ResultVar} {u:Ty} {x:u.D} (hlt:∀ c,WW E σ t=some c→c=true) (h:(Rh E σ t).as u=some x):
  ∃ v,(Pt a.tmps t).run P w = .ok v w∧RepA (okG B ok0 g w) g σ w (Rh E σ t) v:=by
 unfold Rh at *
 cases t with
 | tmp t=>exact ⟨_,rfl,hI.slots t⟩
 | cell s T=>
  dsimp only at *
  have rx:=hI.slots s
  split at h
  ·rename_i id ver off hx
   rw [hx] at rx
   split at h
   ·rename_i hv
    obtain ⟨b,f,hb,hp⟩:=rx.2 hv
    split at h
    ·rename_i t z gs hc
     obtain ⟨hf',cs,TT,hh,hr,_,ht⟩:=hI.Hn hb hc
     split at h
     ·rename_i u' hu
      split at h
      ·rename_i y hy
       obtain ⟨hs,hbd⟩:=Ii hy hr
       have hl:=(hE.ty T u' hu).load (b:=b) (o:=off) hs (fun j v hj=>by
        rw [List.getElem?_take] at hj
        split at hj
        ·rw [List.getElem?_drop] at hj
         simp only [World.cell?,hh]
         simpa using hj
        ·cases hj)
       refine ⟨valOf u' ((cs.drop off).take u'.sz),?_,by rw [if_pos hv];exact ⟨_,hs,rfl,Zg ht⟩⟩
       unfold Pt
       dsimp only
       rw [show a.tmps.getD s undef = .pointer (some ⟨b,off,none⟩) from hp]
       simp only [asAddr,Sem.run_bind,Sem.run_pure,Result.andThen_ok,hl]
      ·cases h
     ·cases h
    ·rename_i e l fz hc
     split at h
     ·rename_i m e' hT
      split at h
      ·rename_i h0
       split at h
       ·rename_i l' hl'
        obtain ⟨ee,hx'⟩:=CR hl'
        have ee2:e=e':=by cases ee;rfl
        subst ee2
        have hx'':l=l':=hx'
        subst hx''
        have hlen:List.length (α:=e.D) l=m+1:=of_decide_eq_true (hlt _ (by unfold WW;simp only [hx,hc,hT]))
        obtain ⟨cs,hrep,hcs⟩:=Zm0 hI hb hc hlen
        have hl:=(hE.ty T _ hT).load (b:=b) (o:=off) hrep (fun j v hj=>by rw [h0,Nat.zero_add];exact hcs j v hj)
        refine ⟨valOf (.arr m e) cs,?_,by rw [if_pos hv,if_pos h0];exact ⟨cs,hrep,rfl,fun t ht=>by cases ht⟩⟩
        unfold Pt
        dsimp only
        rw [show a.tmps.getD s undef = .pointer (some ⟨b,off,none⟩) from hp]
        simp only [asAddr,Sem.run_bind,Sem.run_pure,Result.andThen_ok,hl]
       ·cases h
      ·cases h
     ·cases h
    ·cases h
   ·cases h
  ·cases h
theorem lA (hI:Inv B ok0 w0 g σ a w) (id ver:Nat):∃ g',Inv B ok0 w0 g' (rz σ id ver) a w:=by
 unfold rz
 split
 ·rename_i hv
  have hid:id<pid0:=Nat.le_of_ble_eq_true hv.2
  split
  ·rename_i e l fz hc
   cases hb:g.bx id with
   | none=>exact ⟨g,(hI.SV hc hb).1⟩
   | some q=>
    obtain ⟨b,f⟩:=q
    obtain ⟨g',_,hI',_⟩:=hI.freeze hc hb hid
    exact ⟨g',hI'⟩
  ·exact ⟨g,hI⟩
 ·exact ⟨g,hI⟩
theorem YX:∀ (ts:List ResultVar) {σ:St} {g:G},Inv B ok0 w0 g σ a w→∃ g',Inv B ok0 w0 g' (YU ts σ) a w
 | [],_,g,hI=>⟨g,hI⟩
 | .tmp t :: ts,σ,g,hI=>by
  have:∃ g',Inv B ok0 w0 g' (Zsg σ (σ.t t)) a w:=by
   unfold Zsg
   split
   ·exact lA hI _ _
   ·exact lA hI _ _
   ·exact ⟨g,hI⟩
  obtain ⟨g',hI'⟩:=this
  exact YX ts hI'
 | .cell _ _ :: ts,σ,g,hI=>YX ts hI
theorem Zug (hI:Inv B ok0 w0 g σ a w) {av:AV} {v:Value} (hr:RepA (okG B ok0 g w) g σ w av v):RepA (okG B ok0 g w) g σ w (cU σ av) v:=by
 have hfr:∀ {id b:Nat} {f:Bool} {e:Ty} {l:List e.D},σ.c id=some (.arr e l true)→g.bx id=some (b,f)→∃ cur T y,w.heap[b]? = some (.cells cur T y)∧(∀ o,okG B ok0 g w b o)∧
   ∀ (i:Nat) (x:e.D),l[i]? = some x→∃ ys,RepD (okG B ok0 g w) w e x ys∧∀ j u,ys[j]? = some u→cur[i*e.sz+j]? = some u:=by
  intro id b f e l hc hb
  obtain ⟨hf,cur,T,ym,hh,_,_,_,hrow⟩:=hI.Hn hb hc
  subst hf
  have hbb:=hI.bb id b true hb
  have hBb:B.n≤b:=by rcases hbb.1 with h | h;exact h;exact absurd h.2.1 (by simp)
  refine ⟨cur,T,ym,hh,fun o=> .inr ⟨.inl hBb,hbb.2,fun id' he=>?_,fun id' u he=>?_⟩,hrow⟩
  ·have:=hI.bi _ _ _ _ _ he hb
   subst this
   rw [hb] at he
   cases he
  ·exact absurd hb ((hI.rb id' b u he).2.2 id true)
 unfold cU
 split
 ·rename_i id ver
  split
  ·rename_i hv
   split
   ·rename_i e l hc
    obtain ⟨e2,l2,fz2,hc2,hsw⟩:=hr.2 hv
    rw [hc] at hc2;cases hc2
    rcases hsw with ⟨hn,hl0,hv⟩ | ⟨b,f,cap,cur,T,ym,hb,hh,hcs,hle,hmx,hv⟩
    ·have hl00:l=[]:=List.eq_nil_of_length_eq_zero hl0
     subst hl00
     exact ⟨[v],by rw [hv];exact ⟨none,0,0,rfl,rfl,Nat.le_refl _,Nat.zero_le _,fun i x hi=>by simp at hi⟩,rfl,fun t ht=>by cases ht⟩
    ·obtain ⟨cur',T',y',hh',hok,hrow⟩:=hfr hc hb
     refine ⟨[v],?_,rfl,fun t ht=>by cases ht⟩
     rw [hv]
     refine ⟨_,_,_,rfl,rfl,hle,hmx,fun i x hi=>?_⟩
     obtain ⟨ys,hy,hyc⟩:=hrow i x hi
     refine ⟨_,rfl,rfl,ys,hy,fun j u hj=>⟨hok _,?_⟩⟩
     simp only [World.cell?,hh',Nat.zero_add]
     exact hyc j u hj
   ·trivial
  ·trivial
 ·rename_i id ver lo n
  split
  ·rename_i hv
   split
   ·rename_i e l hc
    obtain ⟨e2,l2,fz2,A,cap,hc2,hlo,hcap,hmx2,hA,hAs,hp⟩:=hr.2 hv
    rw [hc] at hc2;cases hc2
    refine ⟨[v],?_,rfl,fun t ht=>by cases ht⟩
    rw [hp]
    refine ⟨_,_,_,rfl,by rw [List.length_take,List.length_drop];omega,hcap,hmx2,fun i x hi=>?_⟩
    obtain ⟨hin,hi'⟩:=JQ hi
    obtain ⟨b2,f2,hb2,hA2⟩:=hA (by omega)
    obtain ⟨cur',T',y',hh',hok,hrow⟩:=hfr hc hb2
    obtain ⟨ys,hy,hyc⟩:=hrow _ x hi'
    refine ⟨_,hA2,rfl,ys,hy,fun j u hj=>⟨hok _,?_⟩⟩
    simp only [World.cell?,hh']
    rw [show lo*e.sz+(i*e.sz+j)=(lo+i)*e.sz+j by rw [Nat.add_mul];omega]
    exact hyc j u hj
   ·trivial
  ·trivial
 ·exact hr
def Ma (σ:St):List AV→List Dat→List Nat→Prop
 | [],[],l=>l=[]
 | av :: avs,d :: ds,l=>av.as d.t=some d.x∧∃ l1 l2,NI σ (av.tags d.t) d.g=some l1∧l=l1++l2∧Ma σ avs ds l2
 | _,_,_=>False
theorem SJ:∀ {avs:List AV} {rs:List (Ty×List Tag)} {y:Ey rs} {l:List Nat},VJ σ avs rs=some (y,l)→Ma σ avs (EO rs y) l
 | [],[],_,_,h=>by cases h;rfl
 | [],_ :: _,_,_,h=>by cases h
 | [_],[],_,_,h=>by cases h
 | _ :: _ :: _,[],_,_,h=>by cases h
 | [v],[u],y,l,h=>by
  unfold VJ at h
  split at h
  ·rename_i x l' hx hl'
   cases h
   exact ⟨hx,l,[],hl',by simp,rfl⟩
  ·cases h
 | [_],_ :: _ :: _,_,_,h=>by cases h
 | _ :: _ :: _,[_],_,_,h=>by cases h
 | v :: v2 :: vs,u :: u2 :: rs,y,l,h=>by
  unfold VJ at h
  split at h
  ·rename_i x l' z hx hl' hz
   cases h
   exact ⟨hx,l',z.2,hl',rfl,SJ hz⟩
  ·cases h
theorem Ma.split:∀ {a b:List AV} {ds:List Dat} {l:List Nat},Ma σ (a++b) ds l→∃ l1 l2,l=l1++l2∧Ma σ a (ds.take a.length) l1∧Ma σ b (ds.drop a.length) l2
 | [],_,ds,l,h=>⟨[],l,rfl,rfl,h⟩
 | v :: a,b,[],l,h=>h.elim
 | v :: a,b,d :: ds,l,⟨h1,l1,l2,h2,h3,h4⟩=>by
  obtain ⟨m1,m2,k1,k2,k3⟩:=Ma.split h4
  exact ⟨l1++m1,m2,by rw [h3,k1,List.append_assoc],⟨h1,l1,m1,h2,rfl,k2⟩,k3⟩
theorem Ma.len:∀ {a:List AV} {ds:List Dat} {l:List Nat},Ma σ a ds l→ds.length=a.length
 | [],[],_,_=>rfl
 | _ :: _,_ :: _,_,⟨_,_,_,_,_,h⟩=>by rw [List.length_cons,List.length_cons,h.len]
 | [],_ :: _,_,h=>h.elim
 | _ :: _,[],_,h=>h.elim
theorem fv {ids:List Nat}:∀ {avs:List AV} {ds:List Dat} {vs:List Value} {l:List Nat} (j:Nat),Ma σ avs ds l→Dz (fun av v=>RepA ok g σ w av v) avs vs→(∀ i,i<l.length→ids[j+i]? = l[i]?)→
  Ju ok (rowsOf g ids) w j ds vs
 | [],[],[],_,_,_,_,_=>trivial
 | av :: avs,d :: ds,v :: vs,l,j,⟨h1,l1,l2,h2,h3,h4⟩,hr,hi=>by
  subst h3
  obtain ⟨cs,k1,k2,k3⟩:=Zz7 h1 hr.1
  have hf:=YW (ids:=ids) k3 j h2 fun i hi'=>by rw [hi i (by simp;omega),List.getElem?_append_left hi']
  refine ⟨⟨cs,k1,k2,hf.1⟩,?_⟩
  rw [hf.2]
  exact fv (j+l1.length) h4 hr.2 fun i hi'=>by
   rw [Nat.add_assoc,hi (l1.length+i) (by simp;omega),List.getElem?_append_right (by omega)]
   congr 1
   omega
 | [],_ :: _,_,_,_,h,_,_=>h.elim
 | _ :: _,[],_,_,_,h,_,_=>h.elim
 | [],[],_ :: _,_,_,_,h,_=>h.elim
 | _ :: _,_ :: _,[],_,_,_,h,_=>h.elim
theorem fw (hE:EnvOk P E) (hI:Inv B ok0 w0 g σ a w):∀ {ts:List ResultVar} {ds:List Dat} {l:List Nat},(∀ t∈ts,∀ c,WW E σ t=some c→c=true)→Ma σ (TV E σ ts) ds l→
  ∃ vs,Dz (fun rv v=>(Pt a.tmps rv).run P w = .ok v w) ts vs∧Dz (fun av v=>RepA (okG B ok0 g w) g σ w av v) (TV E σ ts) vs
 | [],_,_,_,_=>⟨[],trivial,trivial⟩
 | t :: ts,[],_,_,h=>h.elim
 | t :: ts,d :: ds,l,hlt,⟨h1,_,l2,_,_,h2⟩=>by
  obtain ⟨vs,k1,k2⟩:=fw hE hI (fun t' ht'=>hlt t' (List.mem_cons_of_mem _ ht')) h2
  have:∃ v,(Pt a.tmps t).run P w = .ok v w∧RepA (okG B ok0 g w) g σ w (Rh E σ t) v:=by
   cases t with
   | tmp t=>exact ⟨_,rfl,hI.slots t⟩
   | cell s T=>
    have hne:∀ (av:AV),(cU σ av).as d.t=some d.x→(∃ u x gs,av = .dat u x gs)∨av = .nils∨(∃ id ver,av = .slw id ver)∨∃ id ver lo n,av = .slm id ver lo n:=by
     intro av h
     cases av with
     | dat u x gs=>exact .inl ⟨u,x,gs,rfl⟩
     | nils=>exact .inr (.inl rfl)
     | slw id ver=>exact .inr (.inr (.inl ⟨id,ver,rfl⟩))
     | slm id ver lo n=>exact .inr (.inr (.inr ⟨id,ver,lo,n,rfl⟩))
     | _=>cases h
    have hcell:(Rh E σ (.cell s T) = .undef)∨∃ u x gs,Rh E σ (.cell s T) = .dat u x gs:=by
     unfold Rh
     dsimp only
     (repeat' split) <;> first | exact .inl rfl | exact .inr ⟨_,_,_,rfl⟩
    rcases hcell with hu | ⟨u,x,gs,hu⟩
    ·rw [hu] at h1;cases h1
    ·have hx:(Rh E σ (.cell s T)).as d.t=some d.x:=by rw [hu] at h1 ⊢;exact h1
     exact Zn0 hE hI (hlt _ (List.mem_cons_self ..)) hx
  obtain ⟨v,hrun,hv⟩:=this
  exact ⟨v :: vs,⟨hrun,k1⟩,Zug hI hv,k2⟩
theorem fx {want:List Tag} {l:List Nat} (h:NI σ [] want=some l):want=[]∧l=[]:=by
 cases want with
 | nil=>cases h;exact ⟨rfl,rfl⟩
 | cons t r=>
  unfold NI WV at h
  split at h <;> cases h
theorem PS {R:Type} {y:R}:∀ {ps:List PK} {k:Nat} {r:Option R},Kz σ ps k r=some y→r=some y∧∀ (j:Nat) e0 e l f,ps[j]? = some (.ioa e0)→σ.c (pid0+(k+j))=some (.arr e l f)→0<List.length (α:=e.D) l
 | [],_,_,h=>⟨h,fun j _ _ _ _ h=>by simp at h⟩
 | p :: ps,k,r,h=>by
  have tail:Kz σ ps (k+1) r=some y→r=some y∧∀ (j:Nat) e0 e l f,ps[j]? = some (.ioa e0)→σ.c (pid0+(k+(j+1)))=some (.arr e l f)→0<List.length (α:=e.D) l:=fun h'=>by
   obtain ⟨h1,h2⟩:=PS h'
   exact ⟨h1,fun j e0 e l f hj hc=>h2 j e0 e l f hj (by rw [show k+1+j=k+(j+1) by omega];exact hc)⟩
  by_cases hp:∃ e,p = .ioa e
  ·obtain ⟨e,rfl⟩:=hp
   unfold Kz at h
   split at h
   ·rename_i e' l f hc
    cases hd:decide (0<List.length (α:=e'.D) l) with
    | false=>rw [hd] at h;cases h
    | true=>
     rw [hd] at h
     obtain ⟨h1,h2⟩:=tail h
     refine ⟨h1,fun j e0 e2 l2 f2 hj hc2=>?_⟩
     cases j with
     | zero=>rw [Nat.add_zero,hc] at hc2;cases hc2;exact of_decide_eq_true hd
     | succ j=>exact h2 j e0 e2 l2 f2 (by simpa using hj) hc2
   ·cases h
  ·have he:Kz σ (p :: ps) k r=Kz σ ps (k+1) r:=by
    cases p <;> first | rfl | exact absurd ⟨_,rfl⟩ hp
   rw [he] at h
   obtain ⟨h1,h2⟩:=tail h
   refine ⟨h1,fun j e0 e2 l2 f2 hj hc2=>?_⟩
   cases j with
   | zero=>simp at hj;exact absurd ⟨_,hj⟩ hp
   | succ j=>exact h2 j e0 e2 l2 f2 (by simpa using hj) hc2
theorem Pu (hI:Inv B ok0 w0 g σ a w) {ids:List Nat}:∀ {qs:List PK} {k:Nat} {ds:List Dat} {l:List Nat} (j:Nat),Ma σ (Np σ qs k) ds l→B.io.length=k+qs.length→(∀ (j:Nat) e0 e l f,qs[j]? = some (.ioa e0)→σ.c (pid0+(k+j))=some (.arr e l f)→0<List.length (α:=e.D) l)→
  (∀ i,i<l.length→ids[j+i]? = l[i]?)→Mb (okG B ok0 g w) (rowsOf g ids) w j (LG qs ds) (B.io.drop k)
 | [],k,[],_,_,_,hl,_,_=>by rw [List.drop_eq_nil_of_le (by simp at hl;omega)];trivial
 | [],_,_ :: _,_,_,h,_,_,_=>h.elim
 | q :: qs,k,[],_,_,h,_,_,_=>h.elim
 | q :: qs,k,d :: ds,l,j,⟨h1,l1,l2,h4,h3,h2⟩,hl,hf,hi=>by
  subst h3
  rw [List.length_cons] at hl
  have hk:k<B.io.length:=by omega
  rw [List.drop_eq_getElem_cons hk]
  have hbk:∀ b f,g.bx (pid0+k)=some (b,f)→b=B.io[k]:=fun b f hb=>by
   have:=hI.nm _ _ _ (by omega) hb
   rw [show pid0+k-pid0=k by omega,List.getElem?_eq_getElem hk] at this
   exact (Option.some.inj this).symm
  have hf':∀ (j:Nat) e0 e l f,qs[j]? = some (.ioa e0)→σ.c (pid0+(k+1+j))=some (.arr e l f)→0<List.length (α:=e.D) l:=fun j e0 e l f hj hc=>
   hf (j+1) e0 e l f (by simpa using hj) (by rw [show k+(j+1)=k+1+j by omega];exact hc)
  cases q with
  | io t0 g0=>
   have h1:(Od σ (.io t0 g0) (pid0+k)).as d.t=some d.x:=h1
   unfold Od at h1 h4
   dsimp only at h1 h4
   split at h1
   ·rename_i t x gs hc
    rw [hc] at h4
    obtain ⟨b,f,hb,hf0,cs,T,hh,hr,hsf,htg⟩:=hI.Zuh hc (fun _ _ _ he=>by cases he)
    have:=hbk _ _ hb
    subst this
    obtain ⟨e,_⟩:=CR (h1:Dl (t:=t) d.t x=some d.x)
    obtain ⟨q1,q2⟩:=YW (ids:=ids) htg j (h4:NI σ gs d.g=some l1) fun i hi'=>by rw [hi i (by simp;omega),List.getElem?_append_left hi']
    refine ⟨⟨cs,T,hh,hr.cast h1,by rw [← e];exact hsf,q1⟩,?_⟩
    show Mb _ _ _ (j+cnt d.g) _ _
    rw [q2]
    exact Pu hI (k:=k+1) (j+l1.length) h2 (by omega) hf' fun i hi'=>by
     rw [Nat.add_assoc,hi (l1.length+i) (by simp;omega),List.getElem?_append_right (by omega)]
     congr 1
     omega
   ·cases h1
  | ioa e0=>
   have h1:(Od σ (.ioa e0) (pid0+k)).as d.t=some d.x:=h1
   unfold Od at h1 h4
   dsimp only at h1 h4
   split at h1
   ·rename_i e lx hc
    rw [hc] at h4
    obtain ⟨hg0,hl0⟩:=fx (h4:NI σ [] d.g=some l1)
    have hpos:=hf 0 e0 e lx false rfl hc
    obtain ⟨dt,dx,dg⟩:=d
    obtain ⟨he,hx⟩:=CR (h1:Dl (t:= .sl e) dt lx=some dx)
    dsimp only at he
    subst he
    have hx:lx=dx:=hx
    subst hx
    rcases hI.con _ _ hc with ⟨_,e2,fz,he2⟩ | ⟨b,f,hb,hf0,cur,T,hh,q1,q2,q3⟩
    ·cases he2
     simp at hpos
    ·have:=hbk _ _ hb
     subst this
     refine ⟨⟨rfl,cur,T,hh,q1,q2,q3⟩,?_⟩
     show Mb _ _ _ (j+0) _ _
     subst hl0
     exact Pu hI (k:=k+1) j h2 (by omega) hf' fun i hi'=>by
      have:=hi i (by simpa using hi')
      simpa using this
   ·cases h1
  | val t=>exact absurd h1 (by intro h;cases h)
  | ref t=>exact absurd h1 (by intro h;cases h)
  | fn f ts=>exact absurd h1 (by intro h;cases h)
theorem fy {gs:List Tag}:∀ {want:List Tag} {l:List Nat},NI σ gs want=some l→cnt want=l.length
 | [],l,h=>by cases h;rfl
 | t :: r,l,h=>by
  unfold NI at h
  split at h
  ·cases h
  ·rename_i h0
   split at h
   ·split at h
    ·rename_i l' hl'
     cases h
     unfold cnt
     rw [if_neg h0,fy hl']
     rfl
    ·cases h
   ·cases h
theorem fA:∀ {avs:List AV} {ds:List Dat} {l:List Nat},Ma σ avs ds l→JN ds=l.length
 | [],[],l,h=>by cases h;rfl
 | _ :: _,_ :: _,l,⟨_,l1,l2,h2,h3,h4⟩=>by
  unfold JN
  rw [fy h2,fA h4,h3,List.length_append]
 | [],_ :: _,_,h=>h.elim
 | _ :: _,[],_,h=>h.elim
theorem Zo0:∀ ds:List Dat,Zc8 (KO ds)=JN ds
 | []=>rfl
 | [_]=>rfl
 | _ :: _ :: _=>rfl
theorem Ju.mono {ok ok':Nat→Nat→Prop} {ρ:Nat→Option (Nat×Nat)} (hm:∀ b o,ok b o→ok' b o):∀ {j:Nat} {ds:List Dat} {vs:List Value},Ju ok ρ w j ds vs→Ju ok' ρ w j ds vs
 | _,[],[],_=>trivial
 | _,[],_ :: _,h=>h.elim
 | _,_ :: _,[],h=>h.elim
 | _,_ :: _,_ :: _,⟨⟨cs,h1,h2,h3⟩,h4⟩=>⟨⟨cs,h1.mono fun b o hk=>⟨hm b o hk,rfl⟩,h2,h3⟩,h4.mono hm⟩
theorem UP {fn:Func} {ts:List ResultVar} (h:fn.results=ts.toArray) (hl:ts.length≤4) {tmps:Array Value} {P:Program} {w:World} {vs:List Value}
  (hv:Dz (fun rv v=>(Pt tmps rv).run P w = .ok v w) ts vs):(results fn tmps).run P w = .ok (match vs with | [v]=>v | vs=> .tuple vs.toArray) w:=by
 have h0:results fn tmps=(do let vs ← fn.results.mapM (Pt tmps);pure (if h:vs.size=1 then vs[0] else .tuple vs)):=by
  unfold results Pt;rfl
 rw [h0,h]
 match ts,vs,hv,hl with
 | [],[],_,_=>simp
 | [_],[_],h,_=>simp [h.1]
 | [_,_],[_,_],h,_=>simp [h.1,h.2.1]
 | [_,_,_],[_,_,_],h,_=>simp [h.1,h.2.1,h.2.2.1]
 | [_,_,_,_],[_,_,_,_],h,_=>simp [h.1,h.2.1,h.2.2.1,h.2.2.2.1]
 | _ :: _ :: _ :: _ :: _ :: _,_,_,hl=>simp at hl
theorem Mb.mono {ok ok':Nat→Nat→Prop} {ρ:Nat→Option (Nat×Nat)} (hm:∀ b o,ok b o→ok' b o):∀ {j:Nat} {ds:List Con} {bs:List Nat},Mb ok ρ w j ds bs→Mb ok' ρ w j ds bs
 | _,[],[],_=>trivial
 | _,d :: ds,b :: bs,⟨h,h3⟩=>by
  refine ⟨?_,h3.mono hm⟩
  cases d with
  | var t x g=>obtain ⟨cs,T,h1,h2,h4⟩:=h;exact ⟨cs,T,h1,h2.mono (fun b o hk=>⟨hm b o hk,rfl⟩),h4⟩
  | arr e l f=>obtain ⟨hf,cur,T,y,h1,hy,h2,h3,h4⟩:=h;exact ⟨hf,cur,T,y,h1,hy,h2,h3,h4.mono hm⟩
  | val v=>exact h.elim
 | _,[],_ :: _,h=>h.elim
 | _,_ :: _,[],h=>h.elim
theorem SK (E:Env) (σ:St):∀ ts:List ResultVar,(TV E σ ts).length=ts.length
 | []=>rfl
 | _ :: ts=>by unfold TV;rw [List.length_cons,List.length_cons,SK E σ ts]
theorem WY {ok:Nat→Nat→Prop}:∀ {l:List AV} {vs:List Value} {bs:List Nat} {rws:List (Option (Nat×Nat))},Ig ok w l vs bs rws→l.length=vs.length
 | [],[],_,_,_=>rfl
 | _ :: _,_ :: _,_,_,⟨_,_,_,h⟩=>by rw [List.length_cons,List.length_cons,WY h]
 | [],_ :: _,_,_,h=>h.elim
 | _ :: _,[],_,_,h=>h.elim
theorem fB {E:Env} (hE:EnvOk P E) (hC:Em P E) (hm:P.follows .mixedOrders=true) {f:FuncId} {fn:Func} {c:Code} {ps:List PK} {R:Type} {kf:K R} {Q:Value→World→Prop}
    (hf:P.funcs[f]? = some fn) (hb:fn.body=some c) (hin:EA fn.ntmps c=true) (hps:ps.length≤fn.ntmps∧fn.ntmps≤pid0)
    {l:List AV} {x:DP ps} {y:R} {n:Nat} (hn:evC E (evJ E (drE E) n) (drE E) c 0 (st0 ps x) kf=some y) (hx:DK ps l=some x) {ok0:Nat→Nat→Prop} {w:World} {vs:List Value} {bs:List Nat} {rws:List (Option (Nat×Nat))} (hlay:∃ z,Lay.ok z w∧(∀ b∈bs,z≤b)∧∀ b u,some (b,u)∈rws→z≤b) (hk:∀ b o,ok0 b o→b<w.heap.size∧b∉bs∧∀ u,some (b,u)∈rws→o<u) (hnd:bs.Nodup) (hbs:∀ b∈bs,b<w.heap.size)
    (hro:Xj w bs rws) (hargs:Ig ok0 w l vs bs rws)
    (hpost:∀ e σ' g1 a' w',kf e σ'=some y→Inv ⟨w.heap.size,bs,rws⟩ ok0 w g1 σ' a' w'→(∀ id,e≠ .exit id)∧a'.defers=[]∧∃ v,(results fn a'.tmps).run P w' = .ok v w'∧Q v w'):
    Calls P f vs.toArray w fun e w'=>∃ v,e = .returned v∧Q v w':=by
  refine calls_of_wp hf hb ?_
  have hlen:vs.length≤fn.ntmps:=by
    have h1:=WY hargs
    have h2:∀ {ps:List PK} {l:List AV} {x:DP ps},DK ps l=some x→l.length=ps.length:=by
      intro ps
      induction ps with
      | nil=>intro l x h;cases l with
        | nil=>rfl
        | cons _ _=>cases h
      | cons p ps ih=>
        intro l x h
        cases l with
        | nil=>cases h
        | cons a l=>
          unfold DK at h
          split at h
          · split at h
            · rename_i z hz;rw [List.length_cons,List.length_cons,ih hz]
            · cases h
          · cases h
    have:=h2 hx
    omega
  have hsz:(vs.toArray++Array.replicate (fn.ntmps-vs.toArray.size) undef).size=fn.ntmps:=by simp;omega
  obtain ⟨hbl,hbox⟩:=TW (ps:=ps) (x:=x) 0 0 hx hargs
  let bx0:Nat→Option (Nat×Bool):=fun id=>if pid0≤id then (match bs[id-pid0]? with | some b=>some (b,false) | none=>none) else none
  have hbx:∀ id b f,bx0 id=some (b,f)→pid0≤id∧bs[id-pid0]? = some b∧f=false:=fun id b f hh=>by
    simp only [bx0] at hh
    split at hh
    · rename_i hp
      split at hh
      · rename_i b' hb';cases hh;exact ⟨hp,hb',rfl⟩
      · cases hh
    · cases hh
  have hbx':∀ j b,bs[j]? = some b→bx0 (pid0+j)=some (b,false):=fun j b hj=>by
    simp only [bx0]
    rw [if_pos (by omega),show pid0+j-pid0=j by omega,hj]
  let rw0:Nat→Option (Nat×Nat):=fun id=>if rid pid0 0≤id then (rws[id-rid pid0 0]?).join else none
  have hrw0:∀ id b u,rw0 id=some (b,u)→rid pid0 0≤id∧rws[id-rid pid0 0]? = some (some (b,u)):=fun id b u hh=>by
    simp only [rw0] at hh
    split at hh
    · rename_i hp
      refine ⟨hp,?_⟩
      cases hq:rws[id-rid pid0 0]? with
      | none=>rw [hq] at hh;cases hh
      | some o=>rw [hq] at hh;have:o=some (b,u):=hh;rw [this]
    · cases hh
  have hI:Inv ⟨w.heap.size,bs,rws⟩ ok0 w ⟨bx0,rw0⟩ (st0 ps x) { tmps:=vs.toArray++Array.replicate (fn.ntmps-vs.toArray.size) undef,defers:=[] } w:=
    { below := BelowX.refl _ _, hB := rfl, h0 := hk, hR := fun b u hm => ⟨(hro.2 b u hm).1, (hro.2 b u hm).2, fun u' hm' => by
        obtain ⟨i,hi⟩:=List.mem_iff_getElem?.1 hm
        obtain ⟨j,hj⟩:=List.mem_iff_getElem?.1 hm'
        have:=hro.1 i j b u u' hi hj
        subst this
        rw [hi] at hj
        cases hj
        rfl⟩,defers:=rfl,lay:=hlay,tm:=by show Array.size _≤_;rw [hsz];exact hps.2
      nm:=fun id b f _ hh=>(hbx id b f hh).2.1
      bb:=fun id b f hh=>by
        obtain ⟨h1,h2,h3⟩:=hbx id b f hh
        have hmem:=List.mem_of_getElem? h2
        exact ⟨.inr ⟨hmem,h3,h1⟩,hbs b hmem⟩
      bi:=fun id id' b f f' e1 e2=>by
        obtain ⟨h1,h2,_⟩:=hbx id b f e1
        obtain ⟨h3,h4,_⟩:=hbx id' b f' e2
        have hlt:=(List.getElem?_eq_some_iff.1 h2).1
        have:=(List.getElem?_inj hlt hnd).1 (h2.trans h4.symm)
        omega
      rb:=fun id b u hh=>by
        obtain ⟨_,h2⟩:=hrw0 id b u hh
        have hm:=List.mem_of_getElem? h2
        exact ⟨.inr ⟨u,hm,Nat.le_refl _⟩,(hro.2 b u hm).1,fun id' f he=>(hro.2 b u hm).2 (List.mem_of_getElem? (hbx id' b f he).2.1)⟩
      ri:=fun id id' b u u' e1 e2=>by
        obtain ⟨h1,h2⟩:=hrw0 id b u e1
        obtain ⟨h3,h4⟩:=hrw0 id' b u' e2
        have:=hro.1 _ _ b u u' h2 h4
        omega
      con:=fun id c hc=>by
        obtain ⟨j,b,h1,h2,h3⟩:=hbox id c hc
        subst h1
        rw [Nat.zero_add]
        rcases h3 with ⟨t,y,j2,h,s,h3,cs,T,h4,h5,h6,h7⟩ | ⟨e,l,cur,T,h3,h4,h5,h6,h7⟩
        · subst h3
          rw [Nat.zero_add]
          refine .inr ⟨b,false,hbx' j b h2,rfl,cs,T,h4,h5.mono (fun b o hk=>⟨.inl hk,rfl⟩),h6,fp (rws:=rws) (fun q=>?_) (fun _=>rfl) j2 h7⟩
          show rw0 (rid pid0 q)=_
          simp only [rw0]
          rw [if_pos (by unfold rid;omega),show rid pid0 q-rid pid0 0=q by unfold rid;omega]
        · subst h3
          exact .inr ⟨b,false,hbx' j b h2,rfl,cur,T,_,h4, .inl rfl,h5,h6,Ix.mono (fun b o hk=> .inl hk) h7⟩
      slots:=fun t=>by
        have hv:(vs.toArray++Array.replicate (fn.ntmps-vs.toArray.size) undef).getD t undef=vs.getD t undef:=by
          rw [Array.getD_eq_getD_getElem?,List.getD_eq_getElem?_getD,Array.getElem?_append]
          by_cases ht:t<vs.length
          · simp [ht]
          · simp [ht]
            cases hh:(Array.replicate (fn.ntmps-vs.length) undef)[t-vs.length]? with
            | none=>rfl
            | some u=>
              have:=Array.getElem?_eq_some_iff.1 hh
              obtain ⟨_,h2⟩:=this
              simp at h2
              rw [← h2];rfl
        show RepA _ _ _ _ (mkT (Ps ps x 0 0) t) (Array.getD (vs.toArray++Array.replicate (fn.ntmps-vs.toArray.size) undef) t undef)
        rw [hv]
        exact fq (ok:=okG ⟨w.heap.size,bs,rws⟩ ok0 ⟨bx0,rw0⟩ w) (g:=⟨bx0,rw0⟩) (σ:=st0 ps x) (w:=w) 0 0 0 t hx hargs (fun b o hk=> .inl hk)
          (fun j b hj=>⟨Nat.zero_le _,fun _=>⟨b,false,by rw [Nat.zero_add];exact hbx' j b hj,rfl⟩⟩) (fun id c hid=>⟨hid,rfl⟩) }
  refine fY hE hC (vN hE hC (Zqv hE hC hm fn.ntmps) n) (Zqv hE hC hm fn.ntmps) c 0 _ _ _ _ _ _ _ hin hn ?_ hI hsz
  intro e σ' he g1 a' w' hI1 hs'
  obtain ⟨h1,h2,v,h3,h4⟩:=hpost e σ' g1 a' w' he hI1
  cases e with
  | exit id=>exact absurd rfl (h1 id)
  | normal=>exact ⟨h2,v,h3,v,rfl,h4⟩
  | ret=>exact ⟨h2,v,h3,v,rfl,h4⟩
theorem lB {E:Env} (hE:EnvOk P E) (hC:Em P E) (hm:P.follows .mixedOrders=true) {f:FuncId} {fn:Func} {c:Code} {ts:List ResultVar} {ps:List PK} {rs:List (Ty×List Tag)} {F:DP ps→Option (Ey rs)}
  (hf:P.funcs[f]? = some fn) (hb:fn.body=some c) (hres:fn.results=ts.toArray) (hl:ts.length≤4) (hin:EA fn.ntmps c=true) (hps:ps.length≤fn.ntmps∧fn.ntmps≤pid0)
  (h:∀ x y,F x=some y→∃ n,evC E (evJ E (drE E) n) (drE E) c 0 (st0 ps x) (fin E ts (ps.filter ioP) rs)=some y)
  {l:List AV} {x:DP ps} {y:Ey rs} (hx:DK ps l=some x) (hr:F x=some y) {ok0:Nat→Nat→Prop} {w:World} {vs:List Value} {bs:List Nat} {rws:List (Option (Nat×Nat))} (hlay:∃ z,Lay.ok z w∧(∀ b∈bs,z≤b)∧∀ b u,some (b,u)∈rws→z≤b) (hk:∀ b o,ok0 b o→b<w.heap.size∧b∉bs∧∀ u,some (b,u)∈rws→o<u) (hnd:bs.Nodup) (hbs:∀ b∈bs,b<w.heap.size)
  (hro:Xj w bs rws) (hargs:Ig ok0 w l vs bs rws):
  Calls P f vs.toArray w fun e w'=>∃ v,e = .returned v∧(EO rs y).length=ts.length+ioC ps∧BelowX ⟨w.heap.size,bs,rws⟩ w w'∧KE ok0 w w' (KO ((EO rs y).take ts.length)) (LG (ps.filter ioP) ((EO rs y).drop ts.length)) bs rws v:=by
 obtain ⟨n,hn⟩:=h x y hr
 have hbl:=(TW (ps:=ps) (x:=x) 0 0 hx hargs).1
 refine fB hE hC hm hf hb hin hps hn hx hlay hk hnd hbs hro hargs fun e σ' g1 a' w' he hI1=>?_
 have key:Ztg E (YU ts σ') ts (ps.filter ioP) rs=some y→a'.defers=[]∧∃ v,(results fn a'.tmps).run P w' = .ok v w'∧(EO rs y).length=ts.length+ioC ps∧BelowX ⟨w.heap.size,bs,rws⟩ w w'∧
   KE ok0 w w' (KO ((EO rs y).take ts.length)) (LG (ps.filter ioP) ((EO rs y).drop ts.length)) bs rws v:=by
  intro hfin
  obtain ⟨g',hI'⟩:=YX ts hI1
  revert hI' hfin
  generalize YU ts σ' = σf
  intro hfin hI'
  unfold Ztg at hfin
  obtain ⟨hlt,hfin⟩:=SI hfin
  obtain ⟨hfin,hfull⟩:=PS hfin
  have hfC:∀ ps:List PK,(ps.filter ioP).length=ioC ps:=fun ps=>by
   induction ps with
   | nil=>rfl
   | cons p ps ih=>
    unfold ioC
    cases p <;> simp [List.filter_cons,ioP,ioN,ih] <;> omega
  split at hfin
  ·rename_i p hp
   obtain ⟨y',ids⟩:=p
   cases hd:dis ids with
   | false=>rw [hd] at hfin;cases hfin
   | true=>
    rw [hd] at hfin
    cases hfin
    have hL:=SJ hp
    obtain ⟨l1,l2,hl12,hL1,hL2⟩:=hL.split
    rw [SK] at hL1 hL2
    obtain ⟨us,hus,hua⟩:=fw hE hI' hlt hL1
    have hrd:=fv (ids:=ids) 0 hL1 hua fun i hi=>by rw [Nat.zero_add,hl12,List.getElem?_append_left hi]
    have hc1:=fA hL1
    have hio:=Pu (ids:=ids) hI' l1.length hL2 (by show bs.length=_;rw [hfC];omega) hfull fun i hi=>by
     rw [hl12,List.getElem?_append_right (by omega)]
     congr 1
     omega
    rw [List.drop_zero] at hio
    have hlenE:=hL.len
    dsimp only at hL1 hL2 hrd hio hlenE hc1 ⊢
    rw [List.length_append,SK] at hlenE
    have hioL:∀ (m:List PK) k,(Np σf m k).length=m.length:=fun m=>by
     induction m with
     | nil=>intro _;rfl
     | cons p m ih=>intro k;unfold Np;rw [List.length_cons,ih,List.length_cons]
    rw [hioL,hfC] at hlenE
    refine ⟨hI'.defers,_,UP hres hl hus,hlenE,hI'.below,?_⟩
    have hrow:∀ j b u,rowsOf g' ids j=some (b,u)→∃ i,ids[j]? = some i∧i≠0∧g'.rw i=some (b,u):=fun j b u hj=>by
     unfold rowsOf at hj
     split at hj
     ·cases hj
     ·rename_i i hne hi;exact ⟨i,hi,fun e=>hne e,hj⟩
     ·cases hj
    have hokR:∀ b o,okG ⟨w.heap.size,bs,rws⟩ ok0 g' w' b o→okR ok0 w w' rws (rowsOf g' ids) b o:=fun b o hk=>by
     rcases hk with hk | ⟨h1,h2,_,h4⟩
     ·exact .inl hk
     ·refine .inr ⟨h1,h2,fun j u hj=>?_⟩
      obtain ⟨i,_,_,hi⟩:=hrow j b u hj
      exact h4 i u hi
    refine ⟨rowsOf g' ids,fun j b u hj=>?_,fun j k b u u' hj hk=>?_,by rw [Zo0,hc1];exact hio.mono hokR,?_⟩
    ·obtain ⟨i,_,_,hi⟩:=hrow j b u hj
     obtain ⟨h1,h2,_⟩:=hI'.rb i b u hi
     exact ⟨h1,h2⟩
    ·obtain ⟨i,h1,h2,h3⟩:=hrow j b u hj
     obtain ⟨i',h1',h2',h3'⟩:=hrow k b u' hk
     have:=hI'.ri i i' b u u' h3 h3'
     subst this
     exact Rl hd j k i h1 h1' h2
    ·have hrd':=hrd.mono hokR
     generalize (EO rs y').take ts.length=ds at hrd' ⊢
     match ds,us,hrd' with
     | [],[],_=>exact ⟨[],rfl,trivial⟩
     | [d],[v],h=>exact h.1
     | d :: d2 :: ds,v :: v2 :: us,h=>exact ⟨_,rfl,h⟩
  ·cases hfin
 unfold fin at he
 cases e with
 | exit id=>cases he
 | normal=>exact ⟨(fun _ h=>nomatch h),key he⟩
 | ret=>exact ⟨(fun _ h=>nomatch h),key he⟩
theorem km {E:Env} (hE:EnvOk P E) (hC:Em P E) (hm:P.follows .mixedOrders=true) {f:FuncId} {fn:Func} {c:Code} {ts:List ResultVar} {ps:List PK} {rs:List (Ty×List Tag)} {F:DP ps→Option (Ey rs)}
  (hf:P.funcs[f]? = some fn) (hb:fn.body=some c) (hres:fn.results=ts.toArray) (hl:ts.length≤4) (hin:EA fn.ntmps c=true) (hps:ps.length≤fn.ntmps∧fn.ntmps≤pid0) (hio:ioC ps=0)
  (h:∀ x y,F x=some y→∃ n,evC E (evJ E (drE E) n) (drE E) c 0 (st0 ps x) (fin E ts [] rs)=some y):Ah P f (spec ps rs F):=by
 intro l r y hs hr ok0 w vs bs rws hlay hk hnd hbs hro hargs
 unfold spec at hs
 split at hs
 ·rename_i x hx
  cases hs
  have hq:ps.filter ioP=[]:=by
   have:∀ ps:List PK,ioC ps=0→ps.filter ioP=[]:=fun ps=>by
    induction ps with
    | nil=>intro _;rfl
    | cons p ps ih=>
     intro h
     unfold ioC at h
     have h1:ioN p=0:=by omega
     have h2:=ih (by omega)
     cases p <;> first | exact h2 | cases h1
   exact this ps hio
  refine (lB hE hC hm hf hb hres hl hin hps (by rw [hq];exact h) hx hr hlay hk hnd hbs hro hargs).mono fun e w' h=>?_
  obtain ⟨v,he,hlen,hB,hret⟩:=h
  refine ⟨v,he,hB,?_⟩
  rw [hio] at hlen
  rw [List.take_of_length_le (by omega),List.drop_eq_nil_of_le (by omega),hq] at hret
  exact hret
 ·cases hs
theorem kn {E:Env} (hE:EnvOk P E) (hC:Em P E) (hm:P.follows .mixedOrders=true) {f:FuncId} {fn:Func} {c:Code} {ts:List ResultVar} {ps:List PK} {rs:List (Ty×List Tag)} {F:DP ps→Option (Ey rs)}
  (hf:P.funcs[f]? = some fn) (hb:fn.body=some c) (hres:fn.results=ts.toArray) (hl:ts.length≤4) (hin:EA fn.ntmps c=true) (hps:ps.length≤fn.ntmps∧fn.ntmps≤pid0)
  (h:∀ x y,F x=some y→∃ n,evC E (evJ E (drE E) n) (drE E) c 0 (st0 ps x) (fin E ts (ps.filter ioP) rs)=some y):Ah P f (EE ts.length ps rs F):=by
 intro l r y hs hr ok0 w vs bs rws hlay hk hnd hbs hro hargs
 unfold EE at hs
 split at hs
 ·rename_i x hx
  cases hs
  refine (lB hE hC hm hf hb hres hl hin hps h hx hr hlay hk hnd hbs hro hargs).mono fun e w' h=>?_
  obtain ⟨v,he,_,hB,hret⟩:=h
  exact ⟨v,he,hB,hret⟩
 ·cases hs
theorem vu {k:Nat} {av:AV} {u:Ty} {x:u.D} (h:(WX σ k av).as u=some x):∃ e l,∃ n:Nat,σ.c (pid0+k)=some (.arr e l false)∧u = .int .i64∧HEq x (n:Int)∧
  (WX σ k av).tags u=[]∧((∃ ver,av = .slw (pid0+k) ver∧σ.v (pid0+k)=ver∧n=List.length (α:=e.D) l)∨∃ ver,av = .slm (pid0+k) ver 0 n∧σ.v (pid0+k)=ver):=by
 unfold WX at h ⊢
 cases av with
 | slw id ver=>
  dsimp only at h ⊢
  split at h
  ·rename_i hv
   obtain ⟨rfl,hv⟩:=hv
   split at h
   ·rename_i e l hc
    obtain ⟨e1,e2⟩:=CR (h:Dl (t:= .int .i64) u _=some x)
    subst e1
    refine ⟨e,l,_,hc,rfl,?_,?_, .inl ⟨ver,rfl,hv,rfl⟩⟩
    ·exact heq_of_eq e2.symm
    ·rw [if_pos ⟨rfl,hv⟩];rfl
   ·cases h
  ·cases h
 | slm id ver lo n=>
  dsimp only at h ⊢
  split at h
  ·rename_i hv
   obtain ⟨rfl,hv,rfl⟩:=hv
   split at h
   ·rename_i e l hc
    obtain ⟨e1,e2⟩:=CR (h:Dl (t:= .int .i64) u _=some x)
    subst e1
    refine ⟨e,l,n,hc,rfl,?_,?_, .inr ⟨ver,rfl,hv⟩⟩
    ·exact heq_of_eq e2.symm
    ·rw [if_pos ⟨rfl,hv,rfl⟩];rfl
   ·cases h
  ·cases h
 | _=>cases h
theorem lC:∀ {qs:List PK} {k0 k:Nat} {ds:List Dat} {l:List Nat} {e:Ty} {lx:List e.D},Ma σ (Np σ qs k0) ds l→k<qs.length→σ.c (pid0+(k0+k))=some (.arr e lx false)→(∃ e0,qs[k]? = some (.ioa e0))∧(LG qs ds)[k]? = some (.arr e lx false)
 | [],_,_,_,_,_,_,_,h,_=>by simp at h
 | q :: qs,k0,k,[],_,_,_,h,_,_=>h.elim
 | q :: qs,k0,0,d :: ds,l,e,lx,⟨h1,_⟩,_,hc=>by
  rw [Nat.add_zero] at hc
  cases q with
  | io t0 g0=>
   have h1:(Od σ (.io t0 g0) (pid0+k0)).as d.t=some d.x:=h1
   unfold Od at h1
   rw [hc] at h1
   cases h1
  | ioa e0=>
   have h1:(Od σ (.ioa e0) (pid0+k0)).as d.t=some d.x:=h1
   unfold Od at h1
   rw [hc] at h1
   refine ⟨⟨e0,rfl⟩,?_⟩
   obtain ⟨dt,dx,dg⟩:=d
   obtain ⟨he,hx⟩:=CR (h1:Dl (t:= .sl e) dt lx=some dx)
   dsimp only at he
   subst he
   have hx:lx=dx:=hx
   subst hx
   rfl
  | _=>cases h1
 | q :: qs,k0,k+1,d :: ds,l,e,lx,⟨_,_,l2,_,_,h2⟩,hk,hc=>by
  obtain ⟨h3,h4⟩:=lC (k0:=k0+1) (k:=k) h2 (by simpa using hk) (by rw [show k0+1+k=k0+(k+1) by omega];exact hc)
  exact ⟨by simpa using h3,by unfold LG;simpa using h4⟩
theorem ko {E:Env} (hE:EnvOk P E) (hC:Em P E) (hm:P.follows .mixedOrders=true) {f:FuncId} {fn:Func} {c:Code} {k t:Nat} {ps:List PK} {rs:List (Ty×List Tag)} {F:DP ps→Option (Ey rs)}
  (hf:P.funcs[f]? = some fn) (hb:fn.body=some c) (hres:fn.results = #[.tmp t]) (hin:EA fn.ntmps c=true) (hps:ps.length≤fn.ntmps∧fn.ntmps≤pid0) (hk:k<ioC ps)
  (h:∀ x y,F x=some y→∃ n,evC E (evJ E (drE E) n) (drE E) c 0 (st0 ps x) (fh k t (ps.filter ioP) rs)=some y):Ah P f (LH k ps rs F):=by
 intro l r y hs hr ok0 w vs bs rws hlay hk0 hnd hbs hro hargs
 unfold LH at hs
 split at hs
 ·rename_i x hx
  cases hs
  obtain ⟨n,hn⟩:=h x y hr
  have hbl:=(TW (ps:=ps) (x:=x) 0 0 hx hargs).1
  have hfC:∀ ps:List PK,(ps.filter ioP).length=ioC ps:=fun ps=>by
   induction ps with
   | nil=>rfl
   | cons p ps ih=>
    unfold ioC
    cases p <;> simp [List.filter_cons,ioP,ioN,ih] <;> omega
  refine fB hE hC hm hf hb hin hps hn hx hlay hk0 hnd hbs hro hargs fun e σf g' a' w' he hI'=>?_
  have key:Kz σf (ps.filter ioP) 0 (match VJ σf (WX σf k (σf.t t) :: Np σf (ps.filter ioP) 0) rs with
    | some y=>bif dis y.2 then some y.1 else none
    | none=>none)=some y→a'.defers=[]∧∃ v,(results fn a'.tmps).run P w' = .ok v w'∧BelowX ⟨w.heap.size,bs,rws⟩ w w'∧
    KE ok0 w w' (Zhu k (EO rs y)) (LG (ps.filter ioP) ((EO rs y).drop 1)) bs rws v:=by
   intro hfin
   obtain ⟨hfin,hfull⟩:=PS hfin
   split at hfin
   ·rename_i p hp
    obtain ⟨y',ids⟩:=p
    cases hd:dis ids with
    | false=>rw [hd] at hfin;cases hfin
    | true=>
     rw [hd] at hfin
     cases hfin
     have hL:=SJ hp
     revert hL
     cases hds:EO rs y' with
     | nil=>intro hL;exact hL.elim
     | cons d ds=>
      intro hL
      obtain ⟨h1,l1,l2,h2,h3,h4⟩:=hL
      obtain ⟨dt,dx,dg⟩:=d
      obtain ⟨e,lx,m,hc,hu,hxm,htg,hwhat⟩:=vu h1
      dsimp only at hu
      subst hu
      have hxm:dx=(m:Int):=eq_of_heq hxm
      subst hxm
      obtain ⟨hg0,hl1⟩:=fx (by rw [← htg];exact h2)
      subst hl1
      rw [List.nil_append] at h3
      subst h3
      have hk1:k<(ps.filter ioP).length:=by rw [hfC];exact hk
      obtain ⟨⟨e0,hq⟩,hcon⟩:=lC (k0:=0) (k:=k) h4 hk1 (by rw [Nat.zero_add];exact hc)
      have hpos:=hfull k e0 e lx false hq (by rw [Nat.zero_add];exact hc)
      have hio:=Pu (ids:=ids) hI' 0 h4 (by show bs.length=_;rw [hfC];omega) hfull fun i hi=>by rw [Nat.zero_add]
      rw [List.drop_zero] at hio
      have hsl:=hI'.slots t
      have hval:∃ b cap A,bs[k]? = some b∧a'.tmps.getD t undef = .slice A m cap∧m≤cap∧cap≤maxLen∧m≤List.length (α:=e.D) lx∧(m≠0→A=some ⟨b,0,none⟩)∧(∀ a:Addr,A=some a→a.spot=none):=by
       have hnm':∀ b f,g'.bx (pid0+k)=some (b,f)→bs[k]? = some b:=fun b f hbx=>by
        have:=hI'.nm _ _ _ (by omega) hbx
        rwa [show pid0+k-pid0=k by omega] at this
       rcases hwhat with ⟨ver,hav,hv,hm'⟩ | ⟨ver,hav,hv⟩
       ·rw [hav] at hsl
        obtain ⟨e2,l2,fz2,hc2,hsw⟩:=hsl.2 hv
        rw [hc] at hc2
        cases hc2
        obtain ⟨b,f,cap,hbx,hle,hmx,hvv⟩:=hsw.get hpos
        exact ⟨b,cap,_,hnm' b f hbx,by rw [hm'];exact hvv,by omega,hmx,by omega,fun _=>rfl,fun a h=>by cases h;rfl⟩
       ·rw [hav] at hsl
        obtain ⟨e2,l2,fz2,A,cap,hc2,hlo,hcap,hmx2,hA,hAs,hvv⟩:=hsl.2 hv
        rw [hc] at hc2
        cases hc2
        rcases hI'.con _ _ hc with ⟨_,e2,fz,he2⟩ | ⟨b,f,hbx,_⟩
        ·cases he2
         simp at hpos
        ·refine ⟨b,cap,A,hnm' b f hbx,hvv,hcap,hmx2,by omega,fun h0=>?_,hAs⟩
         obtain ⟨b2,f2,hb2,hA2⟩:=hA h0
         rw [hbx] at hb2
         cases hb2
         rw [hA2,Nat.zero_mul]
      obtain ⟨b,cap,A,hnm,hvv,hmc,hmx,hml,hA1,hA2⟩:=hval
      refine ⟨hI'.defers, .slice A m cap,?_,hI'.below,?_⟩
      ·have:=UP (fn:=fn) (ts:=[.tmp t]) (tmps:=a'.tmps) (P:=P) (w:=w') (vs:=[.slice A m cap]) hres (by simp) ⟨by show (pure (a'.tmps.getD t undef):Sem Value).run P w'=_;rw [hvv];rfl,trivial⟩
       exact this
      ·have hrow:∀ j b u,rowsOf g' ids j=some (b,u)→∃ i,ids[j]? = some i∧i≠0∧g'.rw i=some (b,u):=fun j b u hj=>by
        unfold rowsOf at hj
        split at hj
        ·cases hj
        ·rename_i i hne hi;exact ⟨i,hi,fun e=>hne e,hj⟩
        ·cases hj
       have hokR:∀ b o,okG ⟨w.heap.size,bs,rws⟩ ok0 g' w' b o→okR ok0 w w' rws (rowsOf g' ids) b o:=fun b o hk=>by
        rcases hk with hk | ⟨h1,h2,_,h4⟩
        ·exact .inl hk
        ·refine .inr ⟨h1,h2,fun j u hj=>?_⟩
         obtain ⟨i,_,_,hi⟩:=hrow j b u hj
         exact h4 i u hi
       refine ⟨rowsOf g' ids,fun j b u hj=>?_,fun j k b u u' hj hk=>?_,?_,?_⟩
       ·obtain ⟨i,_,_,hi⟩:=hrow j b u hj
        obtain ⟨h1,h2,_⟩:=hI'.rb i b u hi
        exact ⟨h1,h2⟩
       ·obtain ⟨i,h1,h2,h3⟩:=hrow j b u hj
        obtain ⟨i',h1',h2',h3'⟩:=hrow k b u' hk
        have:=hI'.ri i i' b u u' h3 h3'
        subst this
        exact Rl hd j k i h1 h1' h2
       ·exact hio.mono hokR
       ·show TZ _ _ _ _ _ _ _ _ (.slp k (Int.toNat (m:Int)))
        exact ⟨b,cap,e,lx,false,A,hnm,hcon,by rw [Int.toNat_natCast];exact hml,by rw [Int.toNat_natCast];exact hmc,hmx,by rw [Int.toNat_natCast];exact hA1,hA2,by rw [Int.toNat_natCast]⟩
   ·cases hfin
  unfold fh at he
  cases e with
  | exit id=>cases he
  | normal=>exact ⟨(fun _ h=>nomatch h),key he⟩
  | ret=>exact ⟨(fun _ h=>nomatch h),key he⟩
 ·cases hs
end
end Go.AM
end

section
/- Tables of types: what the seat's facts must say for the environment to be sound. -/
namespace Go.AM
set_option linter.unusedSectionVars false
variable [Lay]
universe u
def look {α:Type u}:List (Nat×α)→Nat→Option α
 | [],_=>none
 | (i,a) :: r,k=>bif Nat.beq k i then some a else look r k
def AllL {α:Type} (p:α→Prop):List α→Prop
 | []=>True
 | a :: l=>p a∧AllL p l
theorem AllL.mem {α:Type} {p:α→Prop}:∀ {l:List α},AllL p l→∀ a∈l,p a
 | a :: l,h,b,hb=>by
  rcases List.mem_cons.1 hb with rfl | hb
  ·exact h.1
  ·exact AllL.mem h.2 b hb
theorem FU {α:Type u}:∀ {l:List (Nat×α)} {k:Nat} {a:α},look l k=some a→(k,a)∈l
 | [],_,_,h=>by cases h
 | (i,b) :: l,k,a,h=>by
  unfold look at h
  cases hb:Nat.beq k i with
  | true=>
   rw [hb] at h
   have:=Nat.eq_of_beq_eq_true hb
   subst this
   cases h
   exact List.mem_cons_self ..
  | false=>rw [hb] at h;exact List.mem_cons_of_mem _ (FU h)
structure Tab where
 ty:List (Nat×Ty)
 fo:List (Nat×List (Nat×Ty))
 ar:List (Nat×(Nat×Ty))
 by_:List (Nat×Nat)
 eq:List (Nat×Ty)
structure Keeps where
 loop:List (Nat×Keep)
 blk:List (Nat×Keep)
 cut:List (Nat×Keep)
 ret:Keep
 bx:List Nat
 lend:List Nat
 inpl:List (Nat×List Bool)
 lit:List Nat
def Tab.env (tb:Tab) (call:Nat→Option Spec) (ks:Keeps):Env where
 ty:=look tb.ty
 fo:=fun S f=>(look tb.fo S).bind fun l=>l[f]?
 pl:=fun S f=>(look tb.fo S).bind fun l=>l[f]?
 ar:=look tb.ar
 by_:=fun T=>(look tb.by_ T).getD 0
 eq:=look tb.eq
 call:=call
 loop:=fun b=>(look ks.loop b).getD ⟨[],[]⟩
 blk:=look ks.blk
 cut:=look ks.cut
 ret:=ks.ret
 bx:=fun d=>ks.bx.any fun i=>Nat.beq i d
 lend:=fun d=>ks.lend.any fun i=>Nat.beq i d
 inpl:=fun f=>(look ks.inpl f).getD []
 lit:=fun d=>ks.lit.any fun x=>Nat.beq d x
section
variable (P : Program)
def SFact (S:Nat) (fl:List (Nat×Ty)):Prop:=∃ fs,P.underlying S=some (.struct fs)∧Dz (fun (f:Field) (p:Nat×Ty)=>f.offset=p.1∧Fit P f.type p.2) fs.toList fl
def ArFact (T n:Nat) (e:Ty):Prop:=∃ ET,P.underlying T=some (.array n ET)∧Fit P ET e∧n≤maxLen∧
  ∃ i,P.info? T=some i∧i.zero=some (.agg (List.replicate n e.zcells).flatten.toArray)
def ByFact (tb:Tab) (T:Nat):Ty→Prop
 | .sl _=>∃ ET ie,P.underlying T=some (.slice ET)∧P.info? ET=some ie∧ie.bytes=(look tb.by_ T).getD 0∧0<(look tb.by_ T).getD 0
 | _=>True
def AggFact (tb:Tab) (T:Nat):Ty→Prop
 | .arr m e=>look tb.fo T=none∧look tb.ar T=some (m+1,e)
 | t=>t.isAgg=true→∃ fl,look tb.fo T=some fl
def EqAt (d:Nat) (T:Nat) (t:Ty):Prop:=∀ (ok:Nat→Nat→Prop) (w:World) (x y:t.D) (cs ds:List Value),RepD ok w t x cs→RepD ok w t y ds→
 (Op.equalIn d T (valOf t cs) (valOf t ds)).run P w = .ok (eqD t x y) w
def Cd (n:Nat) (T:Nat) (t:Ty):Prop:=∀ d,n≤d→EqAt P d T t
def EqFact (T:Nat) (t:Ty):Prop:=(t.isAgg=true∧P.eqGuardType P.depth T=false∧Cd P 10000 T t)∨(t = .bool∧P.underlying T=some .bool)
structure TabOk (tb:Tab):Prop where
 ty:AllL (fun p=>Fit P p.1 p.2∧ByFact P tb p.1 p.2∧AggFact tb p.1 p.2) tb.ty
 fo:AllL (fun p=>SFact P p.1 p.2) tb.fo
 ar:AllL (fun p=>ArFact P p.1 p.2.1 p.2.2) tb.ar
 eq:AllL (fun p=>EqFact P p.1 p.2) tb.eq
 slf:(tb.ty.all fun p=>!hasSlf p.2 || Nat.beq p.1 Lay.bld)=true
 byt:AllL (fun p=>p.2 = .sl (.int .u8)→P.underlying p.1=some (.slice Lay.byt)) tb.ty
 mixed:P.follows .mixedOrders=true
end
section
variable {P : Program} {tb : Tab}
theorem aM:∀ {fs:List Field} {fl:List (Nat×Ty)},Dz (fun (f:Field) (p:Nat×Ty)=>f.offset=p.1∧Fit P f.type p.2) fs fl→
  fs.mapM (fun f=>(P.info? f.type).map fun i=>(f.offset,i.size))=some (fl.map fun p=>(p.1,p.2.sz))
 | [],[],_=>rfl
 | f :: fs,p :: fl,h=>by
  obtain ⟨⟨h1,h2⟩,h3⟩:=h
  obtain ⟨i,hi,hs,_⟩:=h2.info
  simp only [List.mapM_cons,hi,aM h3,Option.map_some,h1,hs,List.map_cons]
  rfl
 | [],_ :: _,h=>h.elim
 | _ :: _,[],h=>h.elim
theorem eq_int {T:Nat} {k:IntKind} (h:P.underlying T=some (.int k)):Cd P 1 T (.int k):=by
 intro d hd ok w x y cs ds hx hy
 obtain ⟨d,rfl⟩:∃ e,d=e+1:=⟨d-1,by omega⟩
 simp only [RepD] at hx hy
 subst hx;subst hy
 exact run_equalIn_int w d T k k x y h
theorem Zj0 {T:Nat} (h:P.underlying T=some .bool):Cd P 1 T .bool:=by
 intro d hd ok w x y cs ds hx hy
 obtain ⟨d,rfl⟩:∃ e,d=e+1:=⟨d-1,by omega⟩
 simp only [RepD] at hx hy
 subst hx;subst hy
 exact run_equalIn_bool' w d T x y h
theorem Zy7 {T:Nat} (h:P.underlying T=some .string):Cd P 1 T .str:=by
 intro d hd ok w x y cs ds hx hy
 obtain ⟨d,rfl⟩:∃ e,d=e+1:=⟨d-1,by omega⟩
 simp only [RepD] at hx hy
 subst hx;subst hy
 exact run_equalIn_string w d T x y h
theorem Cd.mono {n m T:Nat} {t:Ty} (h:Cd P n T t) (hm:n≤m):Cd P m T t:=fun d hd=>h d (by omega)
def FEq (P:Program) (n:Nat):List Field→Nat→Ty→Prop
 | [f],off,a=>f.name≠ "_" ∧f.offset = off∧Fit P f.type a∧Cd P n f.type a
 | f :: g :: fs,off, .pair a b=>(f.name≠ "_" ∧f.offset = off∧Fit P f.type a∧Cd P n f.type a)∧FEq P n (g :: fs) (off + a.sz) b
 | _,_,_=>False
theorem TU {f:Field} {u:Ty} (hf:Fit P f.type u) {ok:Nat→Nat→Prop} {w:World} {y:u.D} {c pre post:List Value} (hr:RepD ok w u y c) (hp:pre.length=f.offset):
  (part f.type (pre++(c++post)).toArray f.offset).run P w = .ok (valOf u c) w:=by
 have hc:((pre++(c++post)).drop f.offset).take u.sz=c:=by
  rw [← hp,List.drop_left,← hr.len,List.take_left]
 have:=lQ (P:=P) (w:=w) hf (ok:=ok) (y:=y) (cs:=pre++(c++post)) (off:=f.offset) (by rw [hc];exact hr)
 rw [hc] at this
 exact this
theorem aN {n:Nat}:∀ {fs:List Field} {off:Nat} {t:Ty},FEq P n fs off t→∀ {d:Nat},n≤d→∀ {ok:Nat→Nat→Prop} {w:World} {x y:t.D} {cs ds pre pre':List Value},RepD ok w t x cs→RepD ok w t y ds→
  pre.length=off→pre'.length=off→(Op.eqFields d (pre++cs).toArray (pre'++ds).toArray fs).run P w = .ok (eqD t x y) w
 | [f],off,a,h,d,hd,ok,w,x,y,cs,ds,pre,pre',hx,hy,hp,hp'=>by
  obtain ⟨h1,h2,h3,h4⟩:=h
  have e1:=TU h3 (post:=[]) (pre:=pre) hx (by rw [hp,h2])
  have e2:=TU h3 (post:=[]) (pre:=pre') hy (by rw [hp',h2])
  rw [List.append_nil] at e1 e2
  have e3:=h4 d hd ok w x y cs ds hx hy
  simp only [Op.eqFields,if_pos h1,Sem.run_bind,e1,e2,e3,Result.andThen_ok]
  cases eqD a x y <;> simp
 | f :: g :: fs,off, .pair a b,h,d,hd,ok,w,x,y,cs,ds,pre,pre',hx,hy,hp,hp'=>by
  obtain ⟨⟨h1,h2,h3,h4⟩,h5⟩:=h
  obtain ⟨c1,c2,rfl,hx1,hx2⟩:=hx
  obtain ⟨d1,d2,rfl,hy1,hy2⟩:=hy
  have e1:=TU h3 (post:=c2) (pre:=pre) hx1 (by rw [hp,h2])
  have e2:=TU h3 (post:=d2) (pre:=pre') hy1 (by rw [hp',h2])
  have e3:=h4 d hd ok w x.1 y.1 c1 d1 hx1 hy1
  have e4:=aN h5 hd (pre:=pre++c1) (pre':=pre'++d1) hx2 hy2 (by rw [List.length_append,hp,hx1.len]) (by rw [List.length_append,hp',hy1.len])
  rw [List.append_assoc,List.append_assoc] at e4
  rw [Op.eqFields]
  simp only [if_pos h1,Sem.run_bind,e1,e2,e3,Result.andThen_ok]
  show _=Result.ok (eqD a x.1 y.1 && eqD b x.2 y.2) w
  cases eqD a x.1 y.1
  ·simp
  ·simpa using e4
 | [],_,_,h,_,_,_,_,_,_,_,_,_,_,_,_,_,_=>h.elim
 | _ :: _ :: _,_, .int _,h,_,_,_,_,_,_,_,_,_,_,_,_,_,_=>h.elim
 | _ :: _ :: _,_, .bool,h,_,_,_,_,_,_,_,_,_,_,_,_,_,_=>h.elim
 | _ :: _ :: _,_, .str,h,_,_,_,_,_,_,_,_,_,_,_,_,_,_=>h.elim
 | _ :: _ :: _,_, .sl _,h,_,_,_,_,_,_,_,_,_,_,_,_,_,_=>h.elim
 | _ :: _ :: _,_, .wrap _,h,_,_,_,_,_,_,_,_,_,_,_,_,_,_=>h.elim
 | _ :: _ :: _,_, .arr _ _,h,_,_,_,_,_,_,_,_,_,_,_,_,_,_=>h.elim
theorem Fx {n T:Nat} {fs:Array Field} {a b:Ty} (hu:P.underlying T=some (.struct fs)) (hp:P.stoodInHeld T=false) (hf:FEq P n fs.toList 0 (.pair a b)):Cd P (n+1) T (.pair a b):=by
 intro d hd ok w x y cs ds hx hy
 obtain ⟨d,rfl⟩:∃ e,d=e+1:=⟨d-1,by omega⟩
 have hfo:P.fieldsOf T=fs:=by simp [Program.fieldsOf,hu]
 show (Op.equalIn (d+1) T (.agg cs.toArray) (.agg ds.toArray)).run P w=_
 rw [run_equalIn_struct (P:=P) w d T _ _ (by rw [hfo];exact hu) hp,hfo]
 exact aN hf (by omega) (pre:=[]) (pre':=[]) hx hy rfl rfl
theorem SG {t:Ty} (h:t.isAgg=true) (cs:List Value):valOf t cs = .agg cs.toArray:=by simp [valOf,h]
theorem Tab.ru (h:TabOk P tb) (call:Nat→Option Spec) (ks:Keeps):EnvOk P (tb.env call ks) where
 ty:=fun T t ht=>(h.ty.mem _ (FU ht)).1
 fo:=fun S f d u hf=>by
  obtain ⟨fl,h1,h2⟩:=Option.bind_eq_some_iff.1 hf
  obtain ⟨fs,h3,h4⟩:=h.fo.mem _ (FU h1)
  have hlen:fs.toList.length=fl.length:=h4.len
  have hlt:f<fl.length:=(List.getElem?_eq_some_iff.1 h2).1
  have hfs:fs.toList[f]? = some fs.toList[f]:=List.getElem?_eq_getElem (by omega)
  obtain ⟨p,hp,h5,h6⟩:=h4.get hfs
  rw [h2] at hp
  cases hp
  exact ⟨fs,_,h3,by rw [← Array.getElem?_toList];exact hfs,h5,h6⟩
 ar:=fun T n e ha=>h.ar.mem _ (FU ha)
 by_:=fun T e ET ie ht hu hi=>by
  obtain ⟨ET',ie',h1,h2,h3,h4⟩:=(h.ty.mem _ (FU ht)).2.1
  rw [hu] at h1
  cases h1
  rw [hi] at h2
  cases h2
  exact ⟨h3,h4⟩
 byt:=fun T ET ht hu=>by
  have:=h.byt.mem _ (FU ht) rfl
  rw [hu] at this
  cases this
  rfl
 slf:=fun T t ht hs=>by
  have:=List.all_eq_true.1 h.slf _ (FU ht)
  simp only [hs,Bool.not_true,Bool.false_or] at this
  exact Nat.eq_of_beq_eq_true this
 arMax:=fun T m e ht=>by
  obtain ⟨_,h2⟩:=(h.ty.mem _ (FU ht)).2.2
  obtain ⟨_,_,_,h3,_⟩:=h.ar.mem _ (FU h2)
  exact h3
 pl:=fun T t ht ha=>by
  obtain ⟨hfit,_,hagg⟩:=h.ty.mem _ (FU ht)
  have hst:∀ fl,look tb.fo T=some fl→∃ place:Nat→Option (Nat×Nat),(∀ i d u,(tb.env call ks).pl T i=some (d,u)→place i=some (d,u.sz))∧
    ∀ (w:World) (parts:Array (Nat×Value)) (cells:Array Value),Instr.fill place t.zcells.toArray parts.toList=some cells→(Instr.build T parts).run P w = .ok (.agg cells) w:=fun fl hfl=>by
   obtain ⟨fs,h3,h4⟩:=h.fo.mem _ (FU hfl)
   refine ⟨fun i=>(fl.map fun p=>(p.1,p.2.sz)).toArray[i]?,fun i d u hi=>?_,fun w parts cells hc=>?_⟩
   ·have hi':(look tb.fo T).bind (fun l=>l[i]?)=some (d,u):=hi
    rw [hfl] at hi'
    have hi2:fl[i]? = some (d,u):=hi'
    simp [hi2]
   ·obtain ⟨it,hit,_,hz⟩:=hfit.info
    refine run_build w T parts cells ?_
    unfold Program.built
    rw [hit,h3]
    dsimp only
    rw [hz,aM h4]
    dsimp only
    rw [SG ha]
    exact hc
  cases t with
  | arr m e=>
   obtain ⟨hfo,har⟩:=hagg
   obtain ⟨ET,hu,hfe,_,it,hit,hz⟩:=h.ar.mem _ (FU har)
   obtain ⟨ie,hie,_,_⟩:=hfe.info
   refine ⟨fun i=>some (i*ie.size,ie.size),fun i d u hi=>?_,fun w parts cells hc=>?_⟩
   ·have hi':(look tb.fo T).bind (fun l=>l[i]?)=some (d,u):=hi
    rw [hfo] at hi'
    cases hi'
   ·refine run_build w T parts cells ?_
    unfold Program.built
    rw [hit,hu]
    dsimp only
    rw [hz,hie]
    exact hc
  | pair a b=>obtain ⟨fl,hfl⟩:=hagg ha;exact hst fl hfl
  | wrap a=>obtain ⟨fl,hfl⟩:=hagg ha;exact hst fl hfl
  | _=>cases ha
 eq:=fun T t he ok w x y cs ds p q hx hy=>by
  rcases h.eq.mem _ (FU he) with ⟨ha,hg,he⟩ | ⟨hb,hu⟩
  ·have:=he 10000 (Nat.le_refl _) ok w x y cs ds hx hy
   rw [SG ha,SG ha] at this ⊢
   refine ⟨run_eqGuard_agg w _ T p q _ _ hg,run_eqGuard_agg w _ T p q _ _ hg,?_,?_⟩
   ·rw [run_eql_struct,this];rfl
   ·rw [run_neq_struct,this];rfl
  ·dsimp only at hb
   subst hb
   simp only [RepD] at hx hy
   subst hx;subst hy
   exact ⟨rfl,rfl,run_eql_bool w T x y hu,run_neq_bool w T x y hu⟩
 mixed:=h.mixed
end
end Go.AM
end

section
/- A law's row: arguments that can be read as data are represented; the call's answer. -/
namespace Go.AM
open Go.RowKit (Below)
set_option linter.unusedSectionVars false
variable [Lay]
mutual
/-- A type whose values are plain data of kind t, through and through. -/
inductive Deep (P:Program):Nat→Ty→Prop
 | int {T:Nat} {k:IntKind}:P.underlying T=some (.int k)→Deep P T (.int k)
 | bool {T:Nat}:P.underlying T=some .bool→Deep P T .bool
 | str {T:Nat}:P.underlying T=some .string→Deep P T .str
 | sl {T ET:Nat} {e:Ty}:P.underlying T=some (.slice ET)→P.cellsOf ET=e.sz→Deep P ET e→Deep P T (.sl e)
 | wrap {T:Nat} {fs:Array Field} {a:Ty}:P.underlying T=some (.struct fs)→P.cellsOf T=a.sz→fs.size=1→DeepF P fs.toList 0 a→Deep P T (.wrap a)
 | pair {T:Nat} {fs:Array Field} {a b:Ty}:P.underlying T=some (.struct fs)→P.cellsOf T=a.sz+b.sz→DeepF P fs.toList 0 (.pair a b)→Deep P T (.pair a b)
inductive DeepF (P:Program):List Field→Nat→Ty→Prop
 | last {f:Field} {off:Nat} {a:Ty}:f.offset=off→P.cellsOf f.type=a.sz→Deep P f.type a→DeepF P [f] off a
 | cons {f g:Field} {fs:List Field} {off:Nat} {a b:Ty}:f.offset=off→P.cellsOf f.type=a.sz→Deep P f.type a→DeepF P (g :: fs) (off+a.sz) b→DeepF P (f :: g :: fs) off (.pair a b)
end
def okD:(t:Ty)→t.D→Prop
 | .int k,n=>(Lit.int k n).wf=true
 | .bool,_=>True
 | .str,s=>s.size≤maxLen
 | .sl e,l=>List.length (α:=e.D) l≤maxLen∧∀ x∈l,okD e x
 | .wrap a,x=>okD a x
 | .pair a b,x=>okD a x.1∧okD b x.2
 | .arr m e,l=>List.length (α:=e.D) l=m+1∧∀ x∈l,okD e x
 | .lk _,_=>True
def OK (w:World) (b _o:Nat):Prop:=b<w.heap.size
theorem WU {w:World} {base:Nat} {a:Addr} {n:Nat} {cs:List Value} (h:w.cells? base a n=some cs):cs.length=n∧∀ j v,cs[j]? = some v→w.cell? (a.add j)=some v:=by
 unfold World.cells? at h
 split at h
 ·have hl:=mapM_some_length h
  rw [List.length_range] at hl
  refine ⟨hl,fun j v hj=>?_⟩
  have hjn:j<n:=by have:=(List.getElem?_eq_some_iff.1 hj).1;omega
  have:=mapM_some_get h j j (by simp [hjn])
  rw [this,hj]
 ·cases h
theorem Zqg {w:World} {a:Addr} {v:Value} (h:w.cell? a=some v):a.block<w.heap.size:=by
 unfold World.cell? at h
 cases hb:w.heap[a.block]? with
 | none=>simp [hb] at h
 | some b=>exact (Array.getElem?_eq_some_iff.1 hb).1
section
variable {P : Program} {H : Type} {enc : TypeId × Value → H} {w : World} {base : Nat} {spare : Nat → Bool} {held : Bool}
theorem trod_int {T:Nat} {k:IntKind} {fuel:Nat} {cs:List Value} {p:DataW H×List MemPlace} (hu:P.underlying T=some (.int k)) (h:DataW.trod enc P w base spare held (fuel+1) T cs=some p):∃ n,cs=[.int k n]∧(Lit.int k n).wf=true:=by
 unfold DataW.trod at h
 rw [hu] at h
 dsimp only at h
 split at h <;> simp_all
theorem trod_bool {T:Nat} {fuel:Nat} {cs:List Value} {p:DataW H×List MemPlace} (hu:P.underlying T=some .bool) (h:DataW.trod enc P w base spare held (fuel+1) T cs=some p):∃ n,cs=[.bool n]:=by
 unfold DataW.trod at h
 rw [hu] at h
 dsimp only at h
 split at h <;> simp_all
theorem Zrg {T:Nat} {fuel:Nat} {cs:List Value} {p:DataW H×List MemPlace} (hu:P.underlying T=some .string) (h:DataW.trod enc P w base spare held (fuel+1) T cs=some p):∃ n,cs=[.string n]∧n.size≤maxLen:=by
 unfold DataW.trod at h
 rw [hu] at h
 dsimp only at h
 split at h <;> simp_all
theorem Zi0 {T ET:Nat} {fuel:Nat} {cs:List Value} {p:DataW H×List MemPlace} (hu:P.underlying T=some (.slice ET)) (h:DataW.trod enc P w base spare held (fuel+1) T cs=some p):
   cs=[.slice none 0 0]∨∃ a len cap elems,cs=[.slice (some a) len cap]∧len≤cap∧cap≤maxLen∧(List.range len).mapM (fun i=>(w.cells? base (a.add (i*P.cellsOf ET)) (P.cellsOf ET)).bind (DataW.trod enc P w base spare held fuel ET))=some elems:=by
  unfold DataW.trod at h
  rw [hu] at h
  dsimp only at h
  split at h <;> simp_all
  obtain ⟨⟨_,h1,h2⟩,h3⟩:=h
  obtain ⟨el,he,_⟩:=Option.bind_eq_some_iff.1 h3
  exact ⟨_,_,_,⟨rfl,rfl,rfl⟩,h1,h2,el,he⟩
theorem lz {T:Nat} {fuel:Nat} {fs:Array Field} {cs:List Value} {p:DataW H×List MemPlace} (hu:P.underlying T=some (.struct fs)) (h:DataW.trod enc P w base spare held (fuel+1) T cs=some p):
   cs.length=P.cellsOf T∧∃ xs,(fs.toList.mapM fun f=>DataW.trod enc P w base spare held fuel f.type ((cs.drop f.offset).take (P.cellsOf f.type)))=some xs:=by
  unfold DataW.trod at h
  rw [hu] at h
  dsimp only at h
  split at h <;> simp_all
  exact ⟨h.choose,h.choose_spec.1⟩
mutual
theorem Pr {T:Nat} {t:Ty} {fuel:Nat} {cs:List Value} {p:DataW H×List MemPlace} (hd:Deep P T t) (h:DataW.trod enc P w base spare held fuel T cs=some p):
  ∃ x,RepD (OK w) w t x cs∧okD t x:=by
 cases fuel with
 | zero=>cases h
 | succ fuel=>
  cases hd with
  | int hu=>obtain ⟨n,rfl,hw⟩:=trod_int hu h;exact ⟨n,rfl,hw⟩
  | bool hu=>obtain ⟨n,rfl⟩:=trod_bool hu h;exact ⟨n,rfl,trivial⟩
  | str hu=>obtain ⟨n,rfl,hw⟩:=Zrg hu h;exact ⟨n,rfl,hw⟩
  | @sl _ ET e hu hc hde=>
   rcases Zi0 hu h with rfl | ⟨a,len,cap,elems,rfl,hlc,hcm,hel⟩
   ·exact ⟨[],⟨none,0,0,rfl,rfl,Nat.le_refl _,Nat.zero_le _,fun i x h=>by simp at h⟩,Nat.zero_le _,fun x hx=>by cases hx⟩
   ·have hlen:=mapM_some_length hel
    rw [List.length_range] at hlen
    rw [hc] at hel
    have key:∀ i,i<len→∃ ys,w.cells? base (a.add (i*e.sz)) e.sz=some ys∧∃ x,RepD (OK w) w e x ys∧okD e x:=fun i hi=>by
     have h1:=mapM_some_get hel i i (by simp [hi])
     obtain ⟨q,hq⟩:∃ q,elems[i]? = some q:=⟨elems[i],List.getElem?_eq_getElem (by omega)⟩
     rw [hq] at h1
     obtain ⟨ys,hy,hq2⟩:=Option.bind_eq_some_iff.1 h1
     exact ⟨ys,hy,Pr hde hq2⟩
    obtain ⟨l,hl⟩:∃ l:List e.D,l.length=len∧∀ (i:Nat) x,l[i]? = some x→∃ ys,w.cells? base (a.add (i*e.sz)) e.sz=some ys∧RepD (OK w) w e x ys∧okD e x:=by
     have:∀ n,n≤len→∃ l:List e.D,l.length=n∧∀ (i:Nat) x,l[i]? = some x→∃ ys,w.cells? base (a.add (i*e.sz)) e.sz=some ys∧RepD (OK w) w e x ys∧okD e x:=by
      intro n
      induction n with
      | zero=>intro _;exact ⟨[],rfl,fun i x h=>by simp at h⟩
      | succ n ih=>
       intro hn
       obtain ⟨l,hl,hx⟩:=ih (by omega)
       obtain ⟨ys,hy,x,hr,hk⟩:=key n (by omega)
       refine ⟨l++[x],by simp [hl],fun i z hz=>?_⟩
       by_cases hi:i<n
       ·rw [List.getElem?_append_left (by omega)] at hz
        exact hx i z hz
       ·rw [List.getElem?_append_right (by omega)] at hz
        have:i=n:=by
         have:=(List.getElem?_eq_some_iff.1 hz).1
         simp at this
         omega
        subst this
        rw [hl,Nat.sub_self] at hz
        simp at hz
        subst hz
        exact ⟨ys,hy,hr,hk⟩
     exact this len (Nat.le_refl _)
    refine ⟨l,⟨some a,len,cap,rfl,hl.1,hlc,hcm,fun i x hi=>?_⟩,?_,fun x hx=>?_⟩
    ·obtain ⟨ys,hy,hr,_⟩:=hl.2 i x hi
     obtain ⟨hly,hcell⟩:=WU hy
     have hspot:a.spot=none:=by
      obtain ⟨x0,hx0⟩:∃ x0,l[0]? = some x0:=⟨l[0]'(by have:=(List.getElem?_eq_some_iff.1 hi).1;omega),List.getElem?_eq_getElem _⟩
      obtain ⟨ys0,hy0,hr0,_⟩:=hl.2 0 x0 hx0
      have hpos0:0<ys0.length:=by rw [hr0.len];exact Ty.IE e
      have:=(WU hy0).2 0 ys0[0] (List.getElem?_eq_getElem hpos0)
      rw [Addr.add_add,Nat.zero_mul,Nat.zero_add] at this
      have h0:a.add 0=a:=by simp [Addr.add]
      rw [h0] at this
      exact World.cell?_spot this
     refine ⟨a,rfl,hspot,ys,hr,fun j v hj=>?_⟩
     have h1:=hcell j v hj
     rw [Addr.add_add,Fv a hspot] at h1
     exact ⟨Zqg (a:=⟨a.block,a.off+(i*e.sz+j),none⟩) h1,h1⟩
    ·have:=hl.1;show List.length (α:=e.D) l≤maxLen;omega
    ·obtain ⟨i,hi⟩:=List.mem_iff_getElem?.1 hx
     obtain ⟨_,_,_,hk⟩:=hl.2 i x hi
     exact hk
  | wrap hu hc h1 hf=>
   obtain ⟨hlen,xs,hxs⟩:=lz hu h
   obtain ⟨x,hx,hk⟩:=PR hf (pre:=[]) (cs:=cs) (by rw [hlen,hc]) rfl hxs
   exact ⟨x,hx,hk⟩
  | pair hu hc hf=>
   obtain ⟨hlen,xs,hxs⟩:=lz hu h
   obtain ⟨x,hx,hk⟩:=PR hf (pre:=[]) (cs:=cs) (by rw [hlen,hc];rfl) rfl hxs
   exact ⟨x,hx,hk⟩
 termination_by (fuel,0)

theorem PR {fs:List Field} {off:Nat} {t:Ty} {fuel:Nat} {pre cs:List Value} {xs:List (DataW H×List MemPlace)} (hd:DeepF P fs off t) (hl:cs.length=t.sz) (hp:pre.length=off)
  (h:(fs.mapM fun f=>DataW.trod enc P w base spare held fuel f.type (((pre++cs).drop f.offset).take (P.cellsOf f.type)))=some xs):∃ x,RepD (OK w) w t x cs∧okD t x:=by
 cases hd with
 | @last f _ _ ho hc hde=>
  simp only [List.mapM_cons,List.mapM_nil,Option.bind_eq_bind,Option.pure_def] at h
  obtain ⟨q,hq,_⟩:=Option.bind_eq_some_iff.1 h
  rw [ho,← hp,List.drop_left,hc,List.take_of_length_le (by omega)] at hq
  exact Pr hde hq
 | @cons f g fs _ a b ho hc hde hr=>
  rw [List.mapM_cons] at h
  obtain ⟨q,hq,h2⟩:=Option.bind_eq_some_iff.1 h
  obtain ⟨qs,hqs,_⟩:=Option.bind_eq_some_iff.1 h2
  rw [ho,← hp,List.drop_left,hc] at hq
  have hl':cs.length=a.sz+b.sz:=hl
  obtain ⟨x,hx,hk⟩:=Pr hde hq
  have hcs:cs=cs.take a.sz++cs.drop a.sz:=(List.take_append_drop _ _).symm
  have hpre:pre++cs=(pre++cs.take a.sz)++cs.drop a.sz:=by rw [List.append_assoc,← hcs]
  rw [hpre] at hqs
  obtain ⟨y,hy,hky⟩:=PR hr (pre:=pre++cs.take a.sz) (cs:=cs.drop a.sz) (by rw [List.length_drop];omega) (by rw [List.length_append,List.length_take,hp];omega) hqs
  exact ⟨(x,y),⟨_,_,hcs,hx,hy⟩,hk,hky⟩
 termination_by (fuel,fs.length+1)
end
end
end Go.AM
end

section
/- A law's call: what is handed in can be read; it answers true, and nothing below turns. -/
namespace Go.AM
open Go.RowKit (Below)
set_option linter.unusedSectionVars false
variable [Lay]
theorem rq {P:Program} {w:World} {r:Reach} {base T:Nat} {t:Ty} {v:Value} (hd:Deep P T t) (h:Value.okWide P w r base T v):v=valOf t v.cells.toList:=by
 cases hd with
 | int hu=>obtain ⟨n,rfl⟩:=WideShapes.okWide_int hu h;rfl
 | bool hu=>obtain ⟨n,rfl⟩:=WideShapes.okWide_bool hu h;rfl
 | str hu=>obtain ⟨n,rfl⟩:=WideShapes.okWide_string hu h;rfl
 | sl hu hc hde=>obtain ⟨a,len,cap,rfl⟩:=WideShapes.okWide_slice hu h;rfl
 | wrap hu hc h1 hf=>
  unfold Value.okWide at h
  rw [hu] at h
  obtain ⟨cs,rfl,_⟩:=h
  rfl
 | pair hu hc hf=>
  unfold Value.okWide at h
  rw [hu] at h
  obtain ⟨cs,rfl,_⟩:=h
  rfl
@[reducible] def Fe : List Ty → List PK
 | []=>[]
 | t :: ts=> .val t :: Fe ts
def fg:(ps:List Ty)→DP (Fe ps)→Prop
 | [],_=>True
 | p :: ps,x=>okD p x.1∧fg ps x.2
def Qp (P:Program):List Nat→List Ty→Prop
 | [],[]=>True
 | T :: Ts,t :: ts=>Deep P T t∧Qp P Ts ts
 | _,_=>False
section
variable {P : Program} {H : Type} {enc : TypeId × Value → H} {W : World} {base : Nat}
theorem aK:∀ {Ts:List Nat} {ts:List Ty} {vs:List Value} {ds:List (DataW H)} {p:List MemPlace},Qp P Ts ts→DataW.TrodAll enc P W 0 (fun _=>true) true Ts vs ds p→
  (∀ (j:Nat) T v,Ts[j]? = some T→vs[j]? = some v→Value.okWide P W .any base T v)→
  ∃ (l:List AV) (x:DP (Fe ts)),DK (Fe ts) l=some x∧Ig (OK W) W l vs [] []∧fg ts x
 | [],[],[],[],p,_,_,_=>⟨[],(),rfl,⟨rfl,rfl⟩,trivial⟩
 | T :: Ts,t :: ts,v :: vs,d :: ds,p,hd,ha,hv=>by
  obtain ⟨p1,q,⟨fuel,hf⟩,hr,_⟩:=ha
  obtain ⟨x,hx,hk⟩:=Pr hd.1 hf
  obtain ⟨l,y,h1,h2,h3⟩:=aK hd.2 hr fun j T v hT hv'=>hv (j+1) T v (by simpa using hT) (by simpa using hv')
  refine ⟨.dat t x [] :: l,(x,y),?_,⟨[],[],⟨⟨_,hx,rq hd.1 (hv 0 T v rfl rfl)⟩,rfl,rfl⟩,h2⟩,hk,h3⟩
  show DK (.val t :: Fe ts) _=_
  unfold DK
  have:Nb (.val t) (AV.dat t x [])=some x:=by unfold Nb AV.as Dl;simp
  rw [this,h1]
 | [],[],_ :: _,_,_,_,ha,_=>by cases ‹List (DataW H)› <;> exact ha.elim
 | [],[],[],_ :: _,_,_,ha,_=>ha.elim
 | [],_ :: _,_,_,_,hd,_,_=>hd.elim
 | _ :: _,[],_,_,_,hd,_,_=>hd.elim
 | _ :: _,_ :: _,[],_,_,_,ha,_=>by cases ‹List (DataW H)› <;> exact ha.elim
 | _ :: _,_ :: _,_ :: _,[],_,_,ha,_=>ha.elim
theorem aL {f:FuncId} {Ts:List Nat} {ts:List Ty} {F:DP (Fe ts)→Option Bool} (hc:Ah P f (spec (Fe ts) [(.bool,[])] F)) (hF:∀ x,fg ts x→F x=some true) (hd:Qp P Ts ts) {z:Nat} (hlay:Lay.ok z W)
  {args:Array Value} {ds:List (DataW H)} {p:List MemPlace} (ha:DataW.TrodAll enc P W 0 (fun _=>true) true Ts args.toList ds p)
  (hv:∀ (j:Nat) T v,Ts[j]? = some T→args[j]? = some v→Value.okWide P W .any base T v):
  Calls P f args W fun e W'=>e = .returned (.bool true)∧Below W.heap.size W W':=by
 obtain ⟨l,x,h1,h2,h3⟩:=aK hd ha fun j T v hT hv'=>hv j T v hT (by rw [← Array.getElem?_toList];exact hv')
 have hs:spec (Fe ts) [(.bool,[])] F l=some ⟨Bool,F x,dL [(.bool,[])],fun _=>[]⟩:=by unfold spec;rw [h1]
 have:=hc l _ true hs (hF x h3) (OK W) W args.toList [] [] ⟨z,hlay,(fun _ hm=>by cases hm),fun _ _ hm=>by cases hm⟩ (fun _ _ h=>⟨h,(fun hm=>by cases hm),fun _ hm=>by cases hm⟩) List.nodup_nil (fun _ hm=>by cases hm) ⟨(fun _ _ _ _ _ h _=>by simp at h),(fun _ _ hm=>by cases hm)⟩ h2
 rw [Array.toArray_toList] at this
 refine this.mono fun e W' h=>?_
 obtain ⟨v,rfl,hb,ρ,_,_,_,cs,hr,hv',_⟩:=h
 simp only [RepD] at hr
 subst hr
 subst hv'
 exact ⟨rfl,hb.below⟩
end
end Go.AM
end
