import Derived.Test.YtclpadlpcfnfmaaGreatAmGen
/- Contracts of functions of numbers, bools and strings, out of what is known of their calls. -/
namespace Go.AM
open Go.RowKit (Below)
set_option linter.unusedSectionVars false
variable [Lay]
def LA:Ty->Bool
 | .int _ | .bool | .str=>true
 | _=>false
def sv:(t:Ty)->t.D->Value
 | .int k,n=> .int k n
 | .bool,b=> .bool b
 | .str,s=> .string s
 | _,_=>undef
def dK:(ps:List Ty)->En (E7 ps)->List Value
 | [],_=>[]
 | t :: ts,x=>sv t x.1 :: dK ts x.2
def Jt:List Ty->List (Ty×List Tag)
 | []=>[]
 | t :: ts=>(t,[]) :: Jt ts
def pZ:(rs:List Ty)->Ew (Jt rs)->List Value
 | [],_=>[]
 | [t],y=>[sv t y]
 | t :: u :: rs,y=>sv t y.1 :: pZ (u :: rs) y.2
section
variable {P : Program} {f : FuncId} {ok : Nat -> Nat -> Prop} {w : World}
theorem Yq6 {t:Ty} (ht:LA t=true) {x:t.D} {cs:List Value} (h:RepD ok w t x cs):valOf t cs=sv t x:=by
 cases t with
 | int k=>simp only [RepD] at h;subst h;rfl
 | bool=>simp only [RepD] at h;subst h;rfl
 | str=>simp only [RepD] at h;subst h;rfl
 | _=>cases ht
theorem oT {t:Ty} (ht:LA t=true) (x:t.D):RepD ok w t x [sv t x]/\valOf t [sv t x]=sv t x:=by
 cases t with
 | int k=>exact ⟨rfl,rfl⟩
 | bool=>exact ⟨rfl,rfl⟩
 | str=>exact ⟨rfl,rfl⟩
 | _=>cases ht
theorem y4:∀ {ps:List Ty} {l:List AV} {vs:List Value} {bs:List Nat} {rws:List (Option (Nat×Nat))} {x:En (E7 ps)},ps.all LA=true->FQ (E7 ps) l=some x->L4 ok w l vs bs rws->vs=dK ps x/\bs=[]/\rws=[]
 | [],[],[],_,_,_,_,_,h=>⟨rfl,h⟩
 | [],[],_ :: _,_,_,_,_,_,h=>h.elim
 | [],_ :: _,_,_,_,_,_,h,_=>by cases h
 | _ :: _,[],_,_,_,_,_,h,_=>by cases h
 | _ :: _,_ :: _,[],_,_,_,_,_,h=>h.elim
 | t :: ts,a :: l,v :: vs,bs,rws,x,hs,hd,⟨r,s,Hb,Jj⟩=>by
  simp only [List.all_cons,Bool.and_eq_true] at hs;have LM:FQ (.val t :: E7 ts) (a :: l)=some x:=hd;unfold FQ at LM;split at LM
  ·rename_i y hy;split at LM
   ·rename_i z hz;cases LM;obtain ⟨h1,rfl,rfl⟩:=WC (W6 rfl hy) Hb;obtain ⟨hv,hb⟩:=y4 hs.2 hz Jj;subst hv;have QU:a.as t=some y:=hy;cases a with
    | dat u x' gs=>
     obtain ⟨cs,hc,hv⟩:=h1;have EH:=hc.cast QU;obtain ⟨e,_⟩:=F6 QU;subst e;rw [hv,Yq6 hs.1 EH];exact ⟨rfl,hb⟩
    | nils=>exact h1.elim
    | _=>first | cases QU | exact h1.elim
   ·cases LM
  ·cases LM
def p0 (t:Ty) (x:t.D) (v:Value):Prop:=∃ cs,(∀ ok w,RepD ok w t x cs)/\v=valOf t cs
def dL:(rs:List Ty)->Ew (Jt rs)->List Value->Prop
 | [],_,[]=>True
 | [t],y,[v]=>p0 t y v
 | t :: u :: rs,y,v :: vs=>p0 t y.1 v/\dL (u :: rs) y.2 vs
 | _,_,_=>False
theorem y5 {t:Ty} (ht:LA t=true) (x:t.D):p0 t x (sv t x):=
 ⟨[sv t x],λ ok w=>(oT (ok:=ok) (w:=w) ht x).1,(oT (ok:=λ _ _=>True) (w:=default) ht x).2.symm⟩
theorem xl:∀ {rs:List Ty} (y:Ew (Jt rs)),rs.all LA=true->dL rs y (pZ rs y)
 | [],_,_=>trivial
 | [t],y,h=>by
  simp only [List.all_cons,Bool.and_eq_true] at h;exact y5 h.1 y
 | t :: u :: rs,y,h=>by
  simp only [List.all_cons,Bool.and_eq_true] at h;exact ⟨y5 h.1 y.1,xl (rs:=u :: rs) y.2 (by simp only [List.all_cons,Bool.and_eq_true];exact h.2)⟩
theorem Zlh {w':World}:∀ {rs:List Ty} {y:Ew (Jt rs)} {vs:List Value} (j:Nat),dL rs y vs->L8 ok (λ _=>none) w' j (F9 (Jt rs) y) vs
 | [],_,[],_,_=>trivial
 | [],_,_ :: _,_,h=>h.elim
 | [t],y,[v],j,⟨cs,h1,h2⟩=>⟨⟨cs,h1 ok w',h2,trivial⟩,trivial⟩
 | [_],_,[],_,h=>h.elim
 | [_],_,_ :: _ :: _,_,h=>h.elim
 | t :: u :: rs,y,v :: vs,j,⟨⟨cs,h1,h2⟩,h3⟩=>⟨⟨cs,h1 ok w',h2,trivial⟩,Zlh (rs:=u :: rs) _ h3⟩
 | _ :: _ :: _,_,[],_,h=>h.elim
def RZ:List Value->Value
 | [v]=>v
 | vs=> .tuple vs.toArray
theorem y6 {ρ:Nat->Option (Nat×Nat)} {w w':World} {EG:List Con} {bs:List Nat} {rws:List (Option (Nat×Nat))}:∀ (ds:List Dat) (us:List Value),L8 ok ρ w' 0 ds us->Yk ok ρ w w' EG bs rws (RZ us) (Np ds)
 | [],[],_=>⟨[],rfl,trivial⟩
 | [],_ :: _,h=>h.elim
 | [_],[],h=>h.elim
 | [_],[_],h=>h.1
 | [_],_ :: _ :: _,h=>h.2.elim
 | _ :: _ :: _,[],h=>h.elim
 | _ :: _ :: _,[_],h=>h.2.elim
 | _ :: _ :: _,_ :: _ :: _,h=>⟨_,rfl,h⟩
theorem Ylg {ps rs:List Ty} (ER:ps.all LA=true) {F:En (E7 ps)->Option (Ew (Jt rs))}
  (h:∀ x y,F x=some y->∀ z w,Lay.ok z w->Calls P f (dK ps x).toArray w λ e w'=>(∃ vs,dL rs y vs/\e = .returned (RZ vs))/\Below w.heap.size w w'):Bh P f (spec (E7 ps) (Jt rs) F):=by
 intro l r y hs hm ok0 w vs bs rws ⟨z,hz,_⟩ _ _ _ _ C7;unfold spec at hs;split at hs
 ·rename_i x hx;cases hs;obtain ⟨hv,rfl,rfl⟩:=y4 ER hx C7;subst hv;refine (h x y hm z w hz).mono ?_;rintro e w' ⟨⟨us,OC,rfl⟩,hb⟩;refine ⟨_,rfl,BelowX.MD hb,λ _=>none,λ j b u hj=>(nomatch hj),λ j k b u u' hj=>(nomatch hj),trivial,?_⟩;have hr:=Zlh (ok:=Df ok0 w w' [] (λ _=>none)) (w':=w') 0 OC;exact y6 _ _ hr
 ·cases hs
theorem Yoy {ps rs:List Ty} (ER:ps.all LA=true) (hrs:rs.all LA=true) {F:En (E7 ps)->Option (Ew (Jt rs))}
  (h:∀ x y,F x=some y->∀ z w,Lay.ok z w->Calls P f (dK ps x).toArray w λ e w'=>e = .returned (RZ (pZ rs y))/\Below w.heap.size w w'):Bh P f (spec (E7 ps) (Jt rs) F):=
 Ylg ER λ x y Pu z w hz=>(h x y Pu z w hz).mono λ _ _ ⟨he,hb⟩=>⟨⟨_,xl y hrs,he⟩,hb⟩
end
end Go.AM
