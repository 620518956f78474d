import Derived.Test.YtclpadlpcfnfmaaGreatAmGen
/- Contracts of functions of numbers, bools and strings, out of what is known of their calls. -/
namespace Go.AM
open Go.RowKit (Below)
set_option linter.unusedSectionVars false
variable [Lay]
def Kz:Ty→Bool
 | .int _ | .bool | .str=>true
 | _=>false
def sv:(t:Ty)→t.D→Value
 | .int k,n=> .int k n
 | .bool,b=> .bool b
 | .str,s=> .string s
 | _,_=>undef
def bE:(ps:List Ty)→DO (Ez ps)→List Value
 | [],_=>[]
 | t :: ts,x=>sv t x.1 :: bE ts x.2
def IG:List Ty→List (Ty×List Tag)
 | []=>[]
 | t :: ts=>(t,[]) :: IG ts
def mz:(rs:List Ty)→DX (IG rs)→List Value
 | [],_=>[]
 | [t],y=>[sv t y]
 | t :: u :: rs,y=>sv t y.1 :: mz (u :: rs) y.2
section
variable {P : Program} {f : FuncId} {ok : Nat → Nat → Prop} {w : World}
theorem Yvt {t:Ty} (ht:Kz t=true) {x:t.D} {cs:List Value} (h:RepD ok w t x cs):valOf t cs=sv t x:=by
 cases t with
 | int k=>simp only [RepD] at h;subst h;rfl
 | bool=>simp only [RepD] at h;subst h;rfl
 | str=>simp only [RepD] at h;subst h;rfl
 | _=>cases ht
theorem lq {t:Ty} (ht:Kz t=true) (x:t.D):RepD ok w t x [sv t x]∧valOf t [sv t x]=sv t x:=by
 cases t with
 | int k=>exact ⟨rfl,rfl⟩
 | bool=>exact ⟨rfl,rfl⟩
 | str=>exact ⟨rfl,rfl⟩
 | _=>cases ht
theorem uY:∀ {ps:List Ty} {l:List AV} {vs:List Value} {bs:List Nat} {rws:List (Option (Nat×Nat))} {x:DO (Ez ps)},ps.all Kz=true→E6 (Ez ps) l=some x→KV ok w l vs bs rws→vs=bE ps x∧bs=[]∧rws=[]
 | [],[],[],_,_,_,_,_,h=>⟨rfl,h⟩
 | [],[],_ :: _,_,_,_,_,_,h=>h.elim
 | [],_ :: _,_,_,_,_,_,h,_=>by cases h
 | _ :: _,[],_,_,_,_,_,h,_=>by cases h
 | _ :: _,_ :: _,[],_,_,_,_,_,h=>h.elim
 | t :: ts,a :: l,v :: vs,bs,rws,x,hs,hd,⟨r,s,Ki,IA⟩=>by
  simp only [List.all_cons,Bool.and_eq_true] at hs
  have Hq:E6 (.val t :: Ez ts) (a :: l)=some x:=hd
  unfold E6 at Hq
  split at Hq
  ·rename_i y hy
   split at Hq
   ·rename_i z hz
    cases Hq
    obtain ⟨h1,rfl,rfl⟩:=U8 (Vu rfl hy) Ki
    obtain ⟨hv,hb⟩:=uY hs.2 hz IA
    subst hv
    have PR:a.as t=some y:=hy
    cases a with
    | dat u x' gs=>
     obtain ⟨cs,hc,hv⟩:=h1
     have CP:=hc.cast PR
     obtain ⟨e,_⟩:=Fj PR
     subst e
     rw [hv,Yvt hs.1 CP]
     exact ⟨rfl,hb⟩
    | nils=>exact h1.elim
    | _=>first | cases PR | exact h1.elim
   ·cases Hq
  ·cases Hq
def mB (t:Ty) (x:t.D) (v:Value):Prop:=∃ cs,(∀ ok w,RepD ok w t x cs)∧v=valOf t cs
def bF:(rs:List Ty)→DX (IG rs)→List Value→Prop
 | [],_,[]=>True
 | [t],y,[v]=>mB t y v
 | t :: u :: rs,y,v :: vs=>mB t y.1 v∧bF (u :: rs) y.2 vs
 | _,_,_=>False
theorem uZ {t:Ty} (ht:Kz t=true) (x:t.D):mB t x (sv t x):=
 ⟨[sv t x],fun ok w=>(lq (ok:=ok) (w:=w) ht x).1,(lq (ok:=fun _ _=>True) (w:=default) ht x).2.symm⟩
theorem s6:∀ {rs:List Ty} (y:DX (IG rs)),rs.all Kz=true→bF rs y (mz rs y)
 | [],_,_=>trivial
 | [t],y,h=>by
  simp only [List.all_cons,Bool.and_eq_true] at h
  exact uZ h.1 y
 | t :: u :: rs,y,h=>by
  simp only [List.all_cons,Bool.and_eq_true] at h
  exact ⟨uZ h.1 y.1,s6 (rs:=u :: rs) y.2 (by simp only [List.all_cons,Bool.and_eq_true];exact h.2)⟩
theorem zR {w':World}:∀ {rs:List Ty} {y:DX (IG rs)} {vs:List Value} (j:Nat),bF rs y vs→K4 ok (fun _=>none) w' j (Fo (IG rs) y) vs
 | [],_,[],_,_=>trivial
 | [],_,_ :: _,_,h=>h.elim
 | [t],y,[v],j,⟨cs,h1,h2⟩=>⟨⟨cs,h1 ok w',h2,trivial⟩,trivial⟩
 | [_],_,[],_,h=>h.elim
 | [_],_,_ :: _ :: _,_,h=>h.elim
 | t :: u :: rs,y,v :: vs,j,⟨⟨cs,h1,h2⟩,h3⟩=>⟨⟨cs,h1 ok w',h2,trivial⟩,zR (rs:=u :: rs) _ h3⟩
 | _ :: _ :: _,_,[],_,h=>h.elim
def QU:List Value→Value
 | [v]=>v
 | vs=> .tuple vs.toArray
theorem u4 {ρ:Nat→Option (Nat×Nat)} {w w':World} {D9:List Con} {bs:List Nat} {rws:List (Option (Nat×Nat))}:∀ (ds:List Dat) (us:List Value),K4 ok ρ w' 0 ds us→TX ok ρ w w' D9 bs rws (QU us) (Ml ds)
 | [],[],_=>⟨[],rfl,trivial⟩
 | [],_ :: _,h=>h.elim
 | [_],[],h=>h.elim
 | [_],[_],h=>h.1
 | [_],_ :: _ :: _,h=>h.2.elim
 | _ :: _ :: _,[],h=>h.elim
 | _ :: _ :: _,[_],h=>h.2.elim
 | _ :: _ :: _,_ :: _ :: _,h=>⟨_,rfl,h⟩
theorem Zl6 {ps rs:List Ty} (Ek:ps.all Kz=true) {F:DO (Ez ps)→Option (DX (IG rs))}
  (h:∀ x y,F x=some y→∀ z w,Lay.ok z w→Calls P f (bE ps x).toArray w fun e w'=>(∃ vs,bF rs y vs∧e = .returned (QU vs))∧Below w.heap.size w w'):AY P f (spec (Ez ps) (IG rs) F):=by
 intro l r y hs hm ok0 w vs bs rws ⟨z,hz,_⟩ _ _ _ _ Cy
 unfold spec at hs
 split at hs
 ·rename_i x hx
  cases hs
  obtain ⟨hv,rfl,rfl⟩:=uY Ek hx Cy
  subst hv
  refine (h x y hm z w hz).mono ?_
  rintro e w' ⟨⟨us,Sx,rfl⟩,hb⟩
  refine ⟨_,rfl,BelowX.LB hb,fun _=>none,fun j b u hj=>(nomatch hj),fun j k b u u' hj=>(nomatch hj),trivial,?_⟩
  have hr:=zR (ok:=DE ok0 w w' [] (fun _=>none)) (w':=w') 0 Sx
  exact u4 _ _ hr
 ·cases hs
theorem Ynm {ps rs:List Ty} (Ek:ps.all Kz=true) (hrs:rs.all Kz=true) {F:DO (Ez ps)→Option (DX (IG rs))}
  (h:∀ x y,F x=some y→∀ z w,Lay.ok z w→Calls P f (bE ps x).toArray w fun e w'=>e = .returned (QU (mz rs y))∧Below w.heap.size w w'):AY P f (spec (Ez ps) (IG rs) F):=
 Zl6 Ek fun x y Oh z w hz=>(h x y Oh z w hz).mono fun _ _ ⟨he,hb⟩=>⟨⟨_,s6 y hrs,he⟩,hb⟩
end
end Go.AM
