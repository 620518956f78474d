import Derived.Test.YtclpadlpcfnfmaaGreatAmGen
/- Contracts of functions of numbers, bools and strings, out of what is known of their calls. -/
namespace Go.AM
open Go.RowKit (Below)
set_option linter.unusedSectionVars false
variable [Lay]
def Lz:Ty->Bool
 | .int _ | .bool | .str=>true
 | _=>false
def sv:(t:Ty)->t.D->Value
 | .int k,n=> .int k n
 | .bool,b=> .bool b
 | .str,s=> .string s
 | _,_=>undef
def dI:(ps:List Ty)->En (E7 ps)->List Value
 | [],_=>[]
 | t :: ts,x=>sv t x.1 :: dI ts x.2
def Jt:List Ty->List (Ty×List Tag)
 | []=>[]
 | t :: ts=>(t,[]) :: Jt ts
def pY:(rs:List Ty)->Ev (Jt rs)->List Value
 | [],_=>[]
 | [t],y=>[sv t y]
 | t :: u :: rs,y=>sv t y.1 :: pY (u :: rs) y.2
section
variable {P : Program} {f : FuncId} {ok : Nat -> Nat -> Prop} {w : World}
theorem Yr6 {t:Ty} (ht:Lz t=true) {x:t.D} {cs:List Value} (h:RepD ok w t x cs):valOf t cs=sv t x:=by
 cases t with
 | int k=>simp only [RepD] at h;subst h;rfl
 | bool=>simp only [RepD] at h;subst h;rfl
 | str=>simp only [RepD] at h;subst h;rfl
 | _=>cases ht
theorem oS {t:Ty} (ht:Lz t=true) (x:t.D):RepD ok w t x [sv t x]/\valOf t [sv t x]=sv t x:=by
 cases t with
 | int k=>exact ⟨rfl,rfl⟩
 | bool=>exact ⟨rfl,rfl⟩
 | str=>exact ⟨rfl,rfl⟩
 | _=>cases ht
theorem y5:∀ {ps:List Ty} {l:List AV} {vs:List Value} {bs:List Nat} {rws:List (Option (Nat×Nat))} {x:En (E7 ps)},ps.all Lz=true->FQ (E7 ps) l=some x->L3 ok w l vs bs rws->vs=dI ps x/\bs=[]/\rws=[]
 | [],[],[],_,_,_,_,_,h=>⟨rfl,h⟩
 | [],[],_ :: _,_,_,_,_,_,h=>h.elim
 | [],_ :: _,_,_,_,_,_,h,_=>by cases h
 | _ :: _,[],_,_,_,_,_,h,_=>by cases h
 | _ :: _,_ :: _,[],_,_,_,_,_,h=>h.elim
 | t :: ts,a :: l,v :: vs,bs,rws,x,hs,hd,⟨r,s,Hb,Jj⟩=>by
  simp only [List.all_cons,Bool.and_eq_true] at hs;have LL:FQ (.val t :: E7 ts) (a :: l)=some x:=hd;unfold FQ at LL;split at LL
  ·rename_i y hy;split at LL
   ·rename_i z hz;cases LL;obtain ⟨h1,rfl,rfl⟩:=WA (W2 rfl hy) Hb;obtain ⟨hv,hb⟩:=y5 hs.2 hz Jj;subst hv;have QU:a.as t=some y:=hy;cases a with
    | dat u x' gs=>
     obtain ⟨cs,hc,hv⟩:=h1;have EH:=hc.cast QU;obtain ⟨e,_⟩:=F6 QU;subst e;rw [hv,Yr6 hs.1 EH];exact ⟨rfl,hb⟩
    | nils=>exact h1.elim
    | _=>first | cases QU | exact h1.elim
   ·cases LL
  ·cases LL
def pZ (t:Ty) (x:t.D) (v:Value):Prop:=∃ cs,(∀ ok w,RepD ok w t x cs)/\v=valOf t cs
def dJ:(rs:List Ty)->Ev (Jt rs)->List Value->Prop
 | [],_,[]=>True
 | [t],y,[v]=>pZ t y v
 | t :: u :: rs,y,v :: vs=>pZ t y.1 v/\dJ (u :: rs) y.2 vs
 | _,_,_=>False
theorem y6 {t:Ty} (ht:Lz t=true) (x:t.D):pZ t x (sv t x):=
 ⟨[sv t x],λ ok w=>(oS (ok:=ok) (w:=w) ht x).1,(oS (ok:=λ _ _=>True) (w:=default) ht x).2.symm⟩
theorem xl:∀ {rs:List Ty} (y:Ev (Jt rs)),rs.all Lz=true->dJ rs y (pY rs y)
 | [],_,_=>trivial
 | [t],y,h=>by
  simp only [List.all_cons,Bool.and_eq_true] at h;exact y6 h.1 y
 | t :: u :: rs,y,h=>by
  simp only [List.all_cons,Bool.and_eq_true] at h;exact ⟨y6 h.1 y.1,xl (rs:=u :: rs) y.2 (by simp only [List.all_cons,Bool.and_eq_true];exact h.2)⟩
theorem Zmh {w':World}:∀ {rs:List Ty} {y:Ev (Jt rs)} {vs:List Value} (j:Nat),dJ rs y vs->L7 ok (λ _=>none) w' j (F9 (Jt rs) y) vs
 | [],_,[],_,_=>trivial
 | [],_,_ :: _,_,h=>h.elim
 | [t],y,[v],j,⟨cs,h1,h2⟩=>⟨⟨cs,h1 ok w',h2,trivial⟩,trivial⟩
 | [_],_,[],_,h=>h.elim
 | [_],_,_ :: _ :: _,_,h=>h.elim
 | t :: u :: rs,y,v :: vs,j,⟨⟨cs,h1,h2⟩,h3⟩=>⟨⟨cs,h1 ok w',h2,trivial⟩,Zmh (rs:=u :: rs) _ h3⟩
 | _ :: _ :: _,_,[],_,h=>h.elim
def RX:List Value->Value
 | [v]=>v
 | vs=> .tuple vs.toArray
theorem y7 {ρ:Nat->Option (Nat×Nat)} {w w':World} {EG:List Con} {bs:List Nat} {rws:List (Option (Nat×Nat))}:∀ (ds:List Dat) (us:List Value),L7 ok ρ w' 0 ds us->Yh ok ρ w w' EG bs rws (RX us) (No ds)
 | [],[],_=>⟨[],rfl,trivial⟩
 | [],_ :: _,h=>h.elim
 | [_],[],h=>h.elim
 | [_],[_],h=>h.1
 | [_],_ :: _ :: _,h=>h.2.elim
 | _ :: _ :: _,[],h=>h.elim
 | _ :: _ :: _,[_],h=>h.2.elim
 | _ :: _ :: _,_ :: _ :: _,h=>⟨_,rfl,h⟩
theorem Ymg {ps rs:List Ty} (ER:ps.all Lz=true) {F:En (E7 ps)->Option (Ev (Jt rs))}
  (h:∀ x y,F x=some y->∀ z w,Lay.ok z w->Calls P f (dI ps x).toArray w λ e w'=>(∃ vs,dJ rs y vs/\e = .returned (RX vs))/\Below w.heap.size w w'):Bh P f (spec (E7 ps) (Jt rs) F):=by
 intro l r y hs hm ok0 w vs bs rws ⟨z,hz,_⟩ _ _ _ _ C7;unfold spec at hs;split at hs
 ·rename_i x hx;cases hs;obtain ⟨hv,rfl,rfl⟩:=y5 ER hx C7;subst hv;refine (h x y hm z w hz).mono ?_;rintro e w' ⟨⟨us,OC,rfl⟩,hb⟩;refine ⟨_,rfl,BelowX.MD hb,λ _=>none,λ j b u hj=>(nomatch hj),λ j k b u u' hj=>(nomatch hj),trivial,?_⟩;have hr:=Zmh (ok:=Df ok0 w w' [] (λ _=>none)) (w':=w') 0 OC;exact y7 _ _ hr
 ·cases hs
theorem Ypy {ps rs:List Ty} (ER:ps.all Lz=true) (hrs:rs.all Lz=true) {F:En (E7 ps)->Option (Ev (Jt rs))}
  (h:∀ x y,F x=some y->∀ z w,Lay.ok z w->Calls P f (dI ps x).toArray w λ e w'=>e = .returned (RX (pY rs y))/\Below w.heap.size w w'):Bh P f (spec (E7 ps) (Jt rs) F):=
 Ymg ER λ x y Pu z w hz=>(h x y Pu z w hz).mono λ _ _ ⟨he,hb⟩=>⟨⟨_,xl y hrs,he⟩,hb⟩
end
end Go.AM
