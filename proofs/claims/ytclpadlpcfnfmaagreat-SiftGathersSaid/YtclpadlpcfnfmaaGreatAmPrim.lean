import Derived.Test.YtclpadlpcfnfmaaGreatAmGen
/- Contracts of functions of numbers, bools and strings, out of what is known of their calls. -/
namespace Go.AM
open Go.RowKit (Below)
set_option linter.unusedSectionVars false
variable [Lay]
def Ld:Ty→Bool
 | .int _ | .bool | .str=>true
 | _=>false
def sv:(t:Ty)→t.D→Value
 | .int k,n=> .int k n
 | .bool,b=> .bool b
 | .str,s=> .string s
 | _,_=>undef
def cZ:(ps:List Ty)→DP (Fe ps)→List Value
 | [],_=>[]
 | t :: ts,x=>sv t x.1 :: cZ ts x.2
def FX:List Ty→List (Ty×List Tag)
 | []=>[]
 | t :: ts=>(t,[]) :: FX ts
def Zyh:(rs:List Ty)→Ey (FX rs)→List Value
 | [],_=>[]
 | [t],y=>[sv t y]
 | t :: u :: rs,y=>sv t y.1 :: Zyh (u :: rs) y.2
section
variable {P : Program} {f : FuncId} {ok : Nat → Nat → Prop} {w : World}
theorem Zk8 {t:Ty} (ht:Ld t=true) {x:t.D} {cs:List Value} (h:RepD ok w t x cs):valOf t cs=sv t x:=by
 cases t with
 | int k=>simp only [RepD] at h;subst h;rfl
 | bool=>simp only [RepD] at h;subst h;rfl
 | str=>simp only [RepD] at h;subst h;rfl
 | _=>cases ht
theorem rS {t:Ty} (ht:Ld t=true) (x:t.D):RepD ok w t x [sv t x]∧valOf t [sv t x]=sv t x:=by
 cases t with
 | int k=>exact ⟨rfl,rfl⟩
 | bool=>exact ⟨rfl,rfl⟩
 | str=>exact ⟨rfl,rfl⟩
 | _=>cases ht
theorem lR:∀ {ps:List Ty} {l:List AV} {vs:List Value} {bs:List Nat} {rws:List (Option (Nat×Nat))} {x:DP (Fe ps)},ps.all Ld=true→DK (Fe ps) l=some x→Ig ok w l vs bs rws→vs=cZ ps x∧bs=[]∧rws=[]
 | [],[],[],_,_,_,_,_,h=>⟨rfl,h⟩
 | [],[],_ :: _,_,_,_,_,_,h=>h.elim
 | [],_ :: _,_,_,_,_,_,h,_=>by cases h
 | _ :: _,[],_,_,_,_,_,h,_=>by cases h
 | _ :: _,_ :: _,[],_,_,_,_,_,h=>h.elim
 | t :: ts,a :: l,v :: vs,bs,rws,x,hs,hd,⟨r,s,hr0,hr2⟩=>by
  simp only [List.all_cons,Bool.and_eq_true] at hs
  have hd':DK (.val t :: Fe ts) (a :: l)=some x:=hd
  unfold DK at hd'
  split at hd'
  ·rename_i y hy
   split at hd'
   ·rename_i z hz
    cases hd'
    obtain ⟨h1,rfl,rfl⟩:=Nq (Qq rfl hy) hr0
    obtain ⟨hv,hb⟩:=lR hs.2 hz hr2
    subst hv
    have hy':a.as t=some y:=hy
    cases a with
    | dat u x' gs=>
     obtain ⟨cs,hc,hv⟩:=h1
     have hc':=hc.cast hy'
     obtain ⟨e,_⟩:=CR hy'
     subst e
     rw [hv,Zk8 hs.1 hc']
     exact ⟨rfl,hb⟩
    | nils=>exact h1.elim
    | _=>first | cases hy' | exact h1.elim
   ·cases hd'
  ·cases hd'
def Zzh (t:Ty) (x:t.D) (v:Value):Prop:=∃ cs,(∀ ok w,RepD ok w t x cs)∧v=valOf t cs
def da:(rs:List Ty)→Ey (FX rs)→List Value→Prop
 | [],_,[]=>True
 | [t],y,[v]=>Zzh t y v
 | t :: u :: rs,y,v :: vs=>Zzh t y.1 v∧da (u :: rs) y.2 vs
 | _,_,_=>False
theorem lS {t:Ty} (ht:Ld t=true) (x:t.D):Zzh t x (sv t x):=
 ⟨[sv t x],fun ok w=>(rS (ok:=ok) (w:=w) ht x).1,(rS (ok:=fun _ _=>True) (w:=default) ht x).2.symm⟩
theorem gy:∀ {rs:List Ty} (y:Ey (FX rs)),rs.all Ld=true→da rs y (Zyh rs y)
 | [],_,_=>trivial
 | [t],y,h=>by
  simp only [List.all_cons,Bool.and_eq_true] at h
  exact lS h.1 y
 | t :: u :: rs,y,h=>by
  simp only [List.all_cons,Bool.and_eq_true] at h
  exact ⟨lS h.1 y.1,gy (rs:=u :: rs) y.2 (by simp only [List.all_cons,Bool.and_eq_true];exact h.2)⟩
theorem wg {w':World}:∀ {rs:List Ty} {y:Ey (FX rs)} {vs:List Value} (j:Nat),da rs y vs→Ju ok (fun _=>none) w' j (EO (FX rs) y) vs
 | [],_,[],_,_=>trivial
 | [],_,_ :: _,_,h=>h.elim
 | [t],y,[v],j,⟨cs,h1,h2⟩=>⟨⟨cs,h1 ok w',h2,trivial⟩,trivial⟩
 | [_],_,[],_,h=>h.elim
 | [_],_,_ :: _ :: _,_,h=>h.elim
 | t :: u :: rs,y,v :: vs,j,⟨⟨cs,h1,h2⟩,h3⟩=>⟨⟨cs,h1 ok w',h2,trivial⟩,wg (rs:=u :: rs) _ h3⟩
 | _ :: _ :: _,_,[],_,h=>h.elim
def SZ:List Value→Value
 | [v]=>v
 | vs=> .tuple vs.toArray
theorem lT {ρ:Nat→Option (Nat×Nat)} {w w':World} {ios:List Con} {bs:List Nat} {rws:List (Option (Nat×Nat))}:∀ (ds:List Dat) (us:List Value),Ju ok ρ w' 0 ds us→TZ ok ρ w w' ios bs rws (SZ us) (KO ds)
 | [],[],_=>⟨[],rfl,trivial⟩
 | [],_ :: _,h=>h.elim
 | [_],[],h=>h.elim
 | [_],[_],h=>h.1
 | [_],_ :: _ :: _,h=>h.2.elim
 | _ :: _ :: _,[],h=>h.elim
 | _ :: _ :: _,[_],h=>h.2.elim
 | _ :: _ :: _,_ :: _ :: _,h=>⟨_,rfl,h⟩
theorem Zai {ps rs:List Ty} (hps:ps.all Ld=true) {F:DP (Fe ps)→Option (Ey (FX rs))}
  (h:∀ x y,F x=some y→∀ z w,Lay.ok z w→Calls P f (cZ ps x).toArray w fun e w'=>(∃ vs,da rs y vs∧e = .returned (SZ vs))∧Below w.heap.size w w'):Ah P f (spec (Fe ps) (FX rs) F):=by
 intro l r y hs hm ok0 w vs bs rws ⟨z,hz,_⟩ _ _ _ _ hargs
 unfold spec at hs
 split at hs
 ·rename_i x hx
  cases hs
  obtain ⟨hv,rfl,rfl⟩:=lR hps hx hargs
  subst hv
  refine (h x y hm z w hz).mono ?_
  rintro e w' ⟨⟨us,hus,rfl⟩,hb⟩
  refine ⟨_,rfl,BelowX.Gn hb,fun _=>none,fun j b u hj=>(nomatch hj),fun j k b u u' hj=>(nomatch hj),trivial,?_⟩
  have hr:=wg (ok:=okR ok0 w w' [] (fun _=>none)) (w':=w') 0 hus
  exact lT _ _ hr
 ·cases hs
theorem Zg1 {ps rs:List Ty} (hps:ps.all Ld=true) (hrs:rs.all Ld=true) {F:DP (Fe ps)→Option (Ey (FX rs))}
  (h:∀ x y,F x=some y→∀ z w,Lay.ok z w→Calls P f (cZ ps x).toArray w fun e w'=>e = .returned (SZ (Zyh rs y))∧Below w.heap.size w w'):Ah P f (spec (Fe ps) (FX rs) F):=
 Zai hps fun x y hxy z w hz=>(h x y hxy z w hz).mono fun _ _ ⟨he,hb⟩=>⟨⟨_,gy y hrs,he⟩,hb⟩
end
end Go.AM
