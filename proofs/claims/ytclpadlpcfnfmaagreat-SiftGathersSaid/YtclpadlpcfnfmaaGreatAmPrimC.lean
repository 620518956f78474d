import Derived.Test.YtclpadlpcfnfmaaGreatAmPrimS
import Derived.Shelf.SlLaysE0
import Derived.Shelf.RegionOpenPlain
import Derived.Shelf.SlicesE.Clone
import Derived.WalkKit
import Derived.Deep.LoopGhost
import Derived.Lib.Walk
import Derived.Lib.SliceRun
/- slices.Clone whose result is plain data; of nil and of no elements too. -/
namespace Go.AM
open Go.RowKit Go.Lib Go.Shelf Go.Proofs
set_option linter.unusedSectionVars false
variable {P : Program} {ρ : Ren}
set_option maxHeartbeats 2000000 in
set_option maxRecDepth 100000 in
theorem gC (L:SlLaysE0.n41 P ρ) (i0:TypeInfo) (z:Value) (size bytes:Nat) (hi:P.info? (ρ.t 23)=some i0) (hz0:i0.zero=some z) (hz1:i0.size=size) (hz2:i0.bytes=bytes) (hzs:z.cells.size=size) (hsz:0<size)
  (z23:∀ w,(Go.sizeOf (ρ.t 23)).run P w = .ok size w) (ad:Addr) (n c:Nat) (news:List Value) (w:World) (hl:news.length=n*size) (hn:n≤maxLen) (hbig:n*bytes≤140737488355328)
  (hc:∀ j u,news[j]? = some u→w.cell? (ad.add j)=some u) (h1:∀ u∈news,u.oneCell'=true):
  Calls P (ρ.f 41) #[.slice (some ad) n c] w fun e w'=>∃ v',e = .returned v'∧w'.ownsRow w.heap.size (ρ.t 23) size v' n news∧v'≠ .slice none 0 0∧Below w.heap.size w w':=by
 have mixed:=L.mixed;have t4:=L.t4;have a4:=L.a4;have z4:=L.z4;have v4:=L.v4;have t22:=L.t22;have a22:=L.a22;have z22:=L.z22;have v22:=L.v22
 have q22:∀ (w:World) (a:Option Addr) (n c n' c':Nat),(binOp .eql (ρ.t 22) (.slice a n c) (.slice none n' c')).run P w = .ok (.bool a.isNone) w:=fun w a n c n' c'=>Lib.run_eql_slice_nil w _ _ a n c n' c' L.t22
 have u22:∀ w,Sem.run P (underlying (ρ.t 22)) w = .ok (TypeDesc.slice (ρ.t 23)) w:=run_underlying t22
 have A:Aside (∀ j u,news[j]? = some u→w.cell? (ad.add j)=some u):=hc
 clear hc
 obtain ⟨_,_,FG⟩:=L.f41
 go_enter FG,SlBodyN.n41_ntmps ρ
 go_wp2_with (at_builtin;refine wpList_append_own _ rfl _ _ (ρ.t 22) rfl w.heap.size (ρ.t 23) i0 z size bytes t22 hi hz0 hz1 hz2 hzs hsz _ _ _ rfl (World.ownsRow_made w #[] 0 (Nat.le_refl _) (Nat.zero_le _) (by simp)) ad n c news rfl ?qc1 ?qc2 ?qc3 ?qc4 ?qc5 ?qc6 ?_)
 case qc1=>exact hl
 case qc2=>
  intro j u hj
  exact Lib.cell?_alloc_some _ (A.out j u hj)
 case qc3=>exact h1
 case qc4=>rw [Nat.zero_add];exact hn
 case qc5=>rw [Nat.zero_add];exact hbig
 case qc6=>simp
 intro v' w1 hown hgrow hnil
 go_wp2
 go_ret
 refine ⟨v',rfl,by simpa using hown,?_,?_⟩
 ·exact hnil
 ·exact ((Below.refl _ w).alloc (Nat.le_refl _) _).grown hgrow (by simp) (by intro k hk;simp [Value.ownBlock] at hk;omega)
section
variable [Lay] {f : FuncId}
def Xq (ok:Nat→Nat→Prop) (w:World):(ps:List Ty)→DP (Fe ps)→List Value→Prop
 | [],_,vs=>vs=[]
 | t :: ps,x,vs=>∃ cs r,vs=valOf t cs :: r∧RepD ok w t x.1 cs∧Xq ok w ps x.2 r
def MW (ok:Nat→Nat→Prop) (w:World):(rs:List (Ty×List Tag))→Ey rs→List Value→Prop
 | [],_,vs=>vs=[]
 | [a],y,vs=>∃ cs,vs=[valOf a.1 cs]∧RepD ok w a.1 y cs
 | a :: b :: rs,y,vs=>∃ cs r,vs=valOf a.1 cs :: r∧RepD ok w a.1 y.1 cs∧MW ok w (b :: rs) y.2 r
theorem lY {ok:Nat→Nat→Prop} {w:World}:∀ {ps:List Ty} {l:List AV} {vs:List Value} {bs:List Nat} {rws:List (Option (Nat×Nat))} {x:DP (Fe ps)},DK (Fe ps) l=some x→Ig ok w l vs bs rws→Xq ok w ps x vs∧bs=[]∧rws=[]
 | [],[],[],_,_,_,_,h=>⟨rfl,h⟩
 | [],[],_ :: _,_,_,_,_,h=>h.elim
 | [],_ :: _,_,_,_,_,h,_=>by cases h
 | _ :: _,[],_,_,_,_,h,_=>by cases h
 | _ :: _,_ :: _,[],_,_,_,_,h=>h.elim
 | t :: ts,a :: l,v :: vs,bs,rws,x,hd,⟨r,s,hr0,hr2⟩=>by
  have hd':DK (.val t :: Fe ts) (a :: l)=some x:=hd
  unfold DK at hd'
  split at hd'
  ·rename_i y hy
   split at hd'
   ·rename_i z hz
    cases hd'
    obtain ⟨h1,rfl,rfl⟩:=Nq (Qq rfl hy) hr0
    obtain ⟨hv,hb⟩:=lY hz hr2
    have hy':a.as t=some y:=hy
    cases a with
    | dat u x' gs=>
     obtain ⟨cs,hc,hv'⟩:=h1
     have hc':=hc.cast hy'
     obtain ⟨e,_⟩:=CR hy'
     subst e
     exact ⟨⟨cs,vs,by rw [hv'],hc',hv⟩,hb⟩
    | nils=>exact h1.elim
    | _=>first | cases hy' | exact h1.elim
   ·cases hd'
  ·cases hd'
theorem lZ {ok:Nat→Nat→Prop} {w:World}:∀ {ps:List Ty} {vs:List Value} (x:DP (Fe ps)),Xq ok w ps x vs→∃ l,DK (Fe ps) l=some x∧Ig ok w l vs [] []
 | [],vs,x,h=>by
  cases h
  exact ⟨[],rfl,rfl,rfl⟩
 | t :: ts,vs,x,⟨cs,r,hv,hr,h2⟩=>by
  obtain ⟨l,h3,h4⟩:=lZ (ps:=ts) x.2 h2
  subst hv
  refine ⟨.dat t x.1 [] :: l,?_,[],[],⟨⟨cs,hr,rfl⟩,rfl,rfl⟩,h4⟩
  show DK (.val t :: Fe ts) (.dat t x.1 [] :: l)=some x
  unfold DK
  have:Nb (.val t) (.dat t x.1 [])=some x.1:=by
   show Dl (t:=t) t x.1=some x.1
   unfold Dl
   rw [dif_pos rfl]
  rw [this]
  dsimp only
  rw [h3]
theorem wu {ok:Nat→Nat→Prop} {w':World}:∀ {rs:List Ty} {y:Ey (FX rs)} {vs:List Value} (j:Nat),MW ok w' (FX rs) y vs→Ju ok (fun _=>none) w' j (EO (FX rs) y) vs
 | [],_,_,_,h=>by
  cases h
  trivial
 | [t],y,vs,j,⟨cs,h1,h2⟩=>by
  subst h1
  exact ⟨⟨cs,h2,rfl,trivial⟩,trivial⟩
 | t :: u :: rs,y,vs,j,⟨cs,r,h1,h2,h3⟩=>by
  subst h1
  exact ⟨⟨cs,h2,rfl,trivial⟩,wu (rs:=u :: rs) _ h3⟩
theorem wv {ok ρ} {w w':World}:∀ {rs:List (Ty×List Tag)} {y:Ey rs} {vs:List Value} {j:Nat},Ju ok ρ w' j (EO rs y) vs→MW ok w' rs y vs
 | [],_,[],_,_=>rfl
 | [],_,_ :: _,_,h=>h.elim
 | [a],y,[v],j,⟨⟨cs,h1,h2,_⟩,_⟩=>⟨cs,by rw [h2],h1⟩
 | [_],_,[],_,h=>h.elim
 | [_],_,_ :: _ :: _,_,h=>h.2.elim
 | a :: b :: rs,y,v :: vs,j,⟨⟨cs,h1,h2,_⟩,h3⟩=>⟨cs,vs,by rw [h2],h1,wv (w:=w) (rs:=b :: rs) h3⟩
 | _ :: _ :: _,_,[],_,h=>h.elim
theorem ma {ok ρ} {w w':World} {v:Value} {rs:List (Ty×List Tag)} {y:Ey rs} (h:TZ ok ρ w w' [] [] [] v (KO (EO rs y))):∃ vs,MW ok w' rs y vs∧v=SZ vs:=by
 cases rs with
 | nil=>
  obtain ⟨vs,rfl,h⟩:=h
  cases vs with
  | nil=>exact ⟨[],rfl,rfl⟩
  | cons _ _=>exact h.elim
 | cons a rs=>cases rs with
  | nil=>
   obtain ⟨cs,h1,h2,_⟩:=h
   exact ⟨[v],⟨cs,by rw [h2],h1⟩,rfl⟩
  | cons b rs=>
   have h':∃ vs:List Value,v = .tuple vs.toArray∧Ju ok ρ w' 0 (EO (a :: b :: rs) y) vs:=by cases rs <;> exact h
   clear h
   obtain ⟨vs,rfl,h2⟩:=h'
   refine ⟨vs,wv (w:=w) h2,?_⟩
   cases vs with
   | nil=>exact h2.elim
   | cons v vs=>cases vs with
    | nil=>cases rs <;> exact h2.2.elim
    | cons _ _=>rfl
theorem Vh {ok ok':Nat→Nat→Prop} {w:World} (hm:∀ b o,ok b o→ok' b o):∀ {rs:List (Ty×List Tag)} {y:Ey rs} {vs:List Value},MW ok w rs y vs→MW ok' w rs y vs
 | [],_,_,h=>h
 | [a],y,_,⟨cs,h1,h2⟩=>⟨cs,h1,h2.mono fun b o hk=>⟨hm b o hk,rfl⟩⟩
 | a :: b :: rs,y,_,⟨cs,r,h1,h2,h3⟩=>⟨cs,r,h1,h2.mono fun b o hk=>⟨hm b o hk,rfl⟩,Vh hm h3⟩
def okN (ok0:Nat→Nat→Prop) (w w':World) (b o:Nat):Prop:=ok0 b o∨(w.heap.size≤b∧b<w'.heap.size)
theorem Ud {ps rs:List Ty} {F:DP (Fe ps)→Option (Ey (FX rs))}
  (h:∀ x y,F x=some y→∀ (ok0:Nat→Nat→Prop) (w:World) (vs:List Value) (z:Nat),Lay.ok z w→(∀ b o,ok0 b o→b<w.heap.size)→Xq ok0 w ps x vs→
   Calls P f vs.toArray w fun e w'=>(∃ us,MW (okN ok0 w w') w' (FX rs) y us∧e = .returned (SZ us))∧Below w.heap.size w w'):Ah P f (spec (Fe ps) (FX rs) F):=by
 intro l r y hs hm ok0 w vs bs rws ⟨z,hz,_⟩ hok _ _ _ hargs
 unfold spec at hs
 split at hs
 ·rename_i x hx
  cases hs
  obtain ⟨hv,rfl,rfl⟩:=lY hx hargs
  refine (h x y hm ok0 w vs z hz (fun b o hb=>(hok b o hb).1) hv).mono ?_
  rintro e w' ⟨⟨us,hus,rfl⟩,hb⟩
  refine ⟨_,rfl,BelowX.Gn hb,fun _=>none,fun j b u hj=>(nomatch hj),fun j k b u u' hj=>(nomatch hj),trivial,?_⟩
  have e1:okR ok0 w w' [] (fun _=>none)=okN ok0 w w':=by
   funext b o
   simp [okR,okN]
  rw [e1]
  exact lT _ _ (wu 0 hus)
 ·cases hs
theorem Qx {ps:List Ty} {rs:List (Ty×List Tag)} {F:DP (Fe ps)→Option (Ey rs)} (hC:Ah P f (spec (Fe ps) rs F)) {x:DP (Fe ps)} {y:Ey rs} (hF:F x=some y)
  {ok0:Nat→Nat→Prop} {w:World} {vs:List Value} {z:Nat} (hz:Lay.ok z w) (hok:∀ b o,ok0 b o→b<w.heap.size) (ha:Xq ok0 w ps x vs):
  Calls P f vs.toArray w fun e w'=>(∃ us,MW (okN ok0 w w') w' rs y us∧e = .returned (SZ us))∧Below w.heap.size w w':=by
 obtain ⟨l,hl,hal⟩:=lZ x ha
 have hs:spec (Fe ps) rs F l=some ⟨Ey rs,F x,dL rs,fun _=>[]⟩:=by
  unfold spec
  rw [hl]
 refine (hC l _ y hs hF ok0 w vs [] [] ⟨z,hz,by simp,by simp⟩ (fun b o hb=>⟨hok b o hb,by simp,by simp⟩) List.nodup_nil (by simp) ⟨fun i j b u u' h=>by simp at h,fun b u h=>by simp at h⟩ hal).mono ?_
 rintro e w' ⟨v,rfl,hb,ρ,hρ,_,_,hr⟩
 obtain ⟨us,hus,rfl⟩:=ma hr
 refine ⟨⟨us,?_,rfl⟩,hb.below⟩
 exact Vh (fun b o hk=>by
  rcases hk with hk | ⟨h1,h2,_⟩
  ·exact .inl hk
  ·rcases h1 with h1 | ⟨u,h1⟩
   ·exact .inr ⟨h1,h2⟩
   ·cases h1) hus
theorem Zi {ok:Nat→Nat→Prop} {w:World} {e:Ty} {l:List e.D} {n0:Nat} {ET:TypeId} {v:Value} {cells:List Value} (ho:w.ownsRow n0 ET e.sz v l.length cells) (hr:FV ok w e l cells)
  (hok:∀ b o,n0≤b→b<w.heap.size→ok b o):RepD ok w (.sl e) l [v]:=by
 obtain ⟨_,ho⟩:=ho
 rcases ho with ⟨rfl,h0⟩ | ⟨g,cap,cur,rfl,hg,hh,hle,hmx,hcs,htk⟩
 ·have h2:=hr.1
  rw [h0] at h2
  have hl:List.length (α:=e.D) l=0:=by
   have:=e.IE
   rcases Nat.eq_zero_or_pos (List.length (α:=e.D) l) with h | h
   ·exact h
   ·have:=Nat.mul_pos h this
    simp at h2
    omega
  refine ⟨none,0,0,rfl,hl,Nat.le_refl _,Nat.zero_le _,fun i x hi=>?_⟩
  have:=(List.getElem?_eq_some_iff.1 hi).1
  omega
 ·refine ⟨_,_,cap,rfl,rfl,hle,hmx,fun i x hi=>⟨_,rfl,rfl,?_⟩⟩
  obtain ⟨ys,hy,hyc⟩:=hr.2 i x hi
  refine ⟨ys,hy,fun j u hj=>⟨hok _ _ hg (Array.getElem?_eq_some_iff.1 hh).1,?_⟩⟩
  have h3:=hyc j u hj
  rw [← htk,List.getElem?_take] at h3
  split at h3
  ·rw [cell_of_row w g _ cur ET (0,0) hh]
   simpa using h3
  ·cases h3
theorem wx {e:Ty} (hwd:Gg e=true) {by_:Nat} (L:SlLaysE0.n41 P ρ) (i0:TypeInfo) (z:Value) (hi:P.info? (ρ.t 23)=some i0) (hz0:i0.zero=some z) (hz1:i0.size=e.sz) (hz2:i0.bytes=by_) (hzs:z.cells.size=e.sz)
  (z23:∀ w,(Go.sizeOf (ρ.t 23)).run P w = .ok e.sz w):Ah P (ρ.f 41) (spec (Fe [.sl e]) (FX [.sl e]) fun x=>OB by_ x.1):=
 Ud fun x y hF ok0 w vs zl hz hok ha=>by
  obtain ⟨cs,r,rfl,⟨a,n,cap,rfl,hln,hn,hmx,hc⟩,hr⟩:=ha
  cases hr
  unfold OB at hF
  cases hb:Bw (List.length (α:=e.D) x.1) by_ with
  | false=>rw [hb] at hF;cases hF
  | true=>
   rw [hb] at hF
   cases hF
   have hroom:List.length (α:=e.D) x.1*by_≤140737488355328:=of_decide_eq_true hb
   have hv:valOf (.sl e) [.slice a n cap] = .slice a n cap:=rfl
   rw [hv]
   cases a with
   | none=>
    refine (AnyE.slices_Clone_nil L n cap w).mono ?_
    rintro e1 w' ⟨rfl,rfl⟩
    have h0:x.1=[]:=by
     cases hx:x.1 with
     | nil=>rfl
     | cons u us=>
      obtain ⟨A,hA,_⟩:=hc 0 u (by rw [hx];rfl)
      cases hA
    refine ⟨⟨[.slice none 0 0],⟨[.slice none 0 0],rfl,none,0,0,rfl,?_,Nat.le_refl _,Nat.zero_le _,fun i u hi=>?_⟩,rfl⟩,Below.refl _ _⟩
    ·show List.length (α:=e.D) x.1=0
     rw [h0];rfl
    ·have hi':x.1[i]? = some u:=hi
     rw [h0] at hi'
     cases hi'
   | some A=>
    obtain ⟨news,hrows,hcell,hone⟩:=Hy (ok:=ok0) (w:=w) (e:=e) (c:=fun k=>w.cell? ⟨A.block,k,none⟩) (l:=x.1) (base:=A.off) (fun i u hi=>by
     obtain ⟨A',hA',_,ys,hy,hyc⟩:=hc i u hi
     cases hA'
     exact ⟨ys,hy,fun j u hj=>(hyc j u hj).2⟩)
    refine (gC L i0 z e.sz by_ hi hz0 hz1 hz2 hzs e.IE z23 A n cap news w (by rw [hrows.1,hln]) (by omega) (by rw [← hln];exact hroom) (fun j u hj=>?_) hone).mono ?_
    ·have hpos:0<List.length (α:=e.D) x.1:=by
      rcases Nat.eq_zero_or_pos (List.length (α:=e.D) x.1) with h | h
      ·have:=hrows.1
       rw [h,Nat.zero_mul] at this
       have:=(List.getElem?_eq_some_iff.1 hj).1
       omega
      ·exact h
     obtain ⟨A',hA',hs,_⟩:=hc 0 _ (List.getElem?_eq_getElem hpos)
     cases hA'
     rw [Fv A hs]
     exact hcell j u hj
    ·rintro e1 w' ⟨v',rfl,hown,hne,hbel⟩
     refine ⟨⟨[v'],⟨[v'],rfl,Zi (e:=e) (n0:=w.heap.size) (by rw [hln];exact hown) ?_ fun b o h1 h2=> .inr ⟨h1,h2⟩⟩,rfl⟩,hbel⟩
     exact ⟨hrows.1,fun i u hi=>by
      obtain ⟨ys,hy,hyc⟩:=hrows.2 i u hi
      exact ⟨ys,IW hwd hy,hyc⟩⟩
end
end Go.AM
