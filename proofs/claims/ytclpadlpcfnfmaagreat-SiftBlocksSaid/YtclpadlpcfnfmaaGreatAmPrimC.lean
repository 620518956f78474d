import Derived.Test.YtclpadlpcfnfmaaGreatAmPrimS
import Derived.Shelf.SlLaysE0
import Derived.Shelf.RegionOpenPlain
import Derived.Shelf.SlicesE.Clone
import Derived.WalkKit
import Derived.Deep.LoopGhost
import Derived.Lib.Walk
import Derived.Lib.SliceRun
/- slices.Clone whose result is plain data; of nil and of no elements too. -/
namespace Go.AM
open Go.RowKit Go.Lib Go.Shelf Go.Proofs
set_option linter.unusedSectionVars false
variable {P : Program} {ρ : Ren}
set_option maxHeartbeats 2000000 in
set_option maxRecDepth 100000 in
theorem s8 (L:SlLaysE0.n41 P ρ) (i0:TypeInfo) (z:Value) (size bytes:Nat) (hi:P.info? (ρ.t 23)=some i0) (JS:i0.zero=some z) (KI:i0.size=size) (L3:i0.bytes=bytes) (nH:z.cells.size=size) (Bu:0<size)
  (z23:∀ w,(Go.sizeOf (ρ.t 23)).run P w = .ok size w) (ad:Addr) (n c:Nat) (news:List Value) (w:World) (hl:news.length=n*size) (hn:n≤maxLen) (Ya5:n*bytes≤140737488355328)
  (hc:∀ j u,news[j]? = some u→w.cell? (ad.add j)=some u) (h1:∀ u∈news,u.oneCell'=true):
  Calls P (ρ.f 41) #[.slice (some ad) n c] w fun e w'=>∃ v',e = .returned v'∧w'.ownsRow w.heap.size (ρ.t 23) size v' n news∧v'≠ .slice none 0 0∧Below w.heap.size w w':=by
 have mixed:=L.mixed;have t4:=L.t4;have a4:=L.a4;have z4:=L.z4;have v4:=L.v4;have t22:=L.t22;have a22:=L.a22;have z22:=L.z22;have v22:=L.v22
 have q22:∀ (w:World) (a:Option Addr) (n c n' c':Nat),(binOp .eql (ρ.t 22) (.slice a n c) (.slice none n' c')).run P w = .ok (.bool a.isNone) w:=fun w a n c n' c'=>Lib.run_eql_slice_nil w _ _ a n c n' c' L.t22
 have u22:∀ w,Sem.run P (underlying (ρ.t 22)) w = .ok (TypeDesc.slice (ρ.t 23)) w:=run_underlying t22
 have A:Aside (∀ j u,news[j]? = some u→w.cell? (ad.add j)=some u):=hc
 clear hc
 obtain ⟨_,_,FG⟩:=L.f41
 go_enter FG,SlBodyN.n41_ntmps ρ
 go_wp2_with (at_builtin;refine wpList_append_own _ rfl _ _ (ρ.t 22) rfl w.heap.size (ρ.t 23) i0 z size bytes t22 hi JS KI L3 nH Bu _ _ _ rfl (World.ownsRow_made w #[] 0 (Ah _) (Nat.zero_le _) (by simp)) ad n c news rfl ?qc1 ?qc2 ?qc3 ?qc4 ?qc5 ?qc6 ?_)
 case qc1=>exact hl
 case qc2=>
  intro j u hj
  exact Lib.cell?_alloc_some _ (A.out j u hj)
 case qc3=>exact h1
 case qc4=>rw [Au];exact hn
 case qc5=>rw [Au];exact Ya5
 case qc6=>simp
 intro v' w1 Ej LK Mz
 go_wp2
 go_ret
 refine ⟨v',rfl,by simpa using Ej,?_,?_⟩
 ·exact Mz
 ·exact ((Below.refl _ w).alloc (Ah _) _).grown LK (by simp) (by intro k hk;simp [Value.ownBlock] at hk;omega)
section
variable [Lay] {f : FuncId}
def WJ (ok:Nat→Nat→Prop) (w:World):(ps:List Ty)→DO (Ez ps)→List Value→Prop
 | [],_,vs=>vs=[]
 | t :: ps,x,vs=>∃ cs r,vs=valOf t cs :: r∧RepD ok w t x.1 cs∧WJ ok w ps x.2 r
def N5 (ok:Nat→Nat→Prop) (w:World):(rs:List (Ty×List Tag))→DX rs→List Value→Prop
 | [],_,vs=>vs=[]
 | [a],y,vs=>∃ cs,vs=[valOf a.1 cs]∧RepD ok w a.1 y cs
 | a :: b :: rs,y,vs=>∃ cs r,vs=valOf a.1 cs :: r∧RepD ok w a.1 y.1 cs∧N5 ok w (b :: rs) y.2 r
theorem u7 {ok:Nat→Nat→Prop} {w:World}:∀ {ps:List Ty} {l:List AV} {vs:List Value} {bs:List Nat} {rws:List (Option (Nat×Nat))} {x:DO (Ez ps)},E6 (Ez ps) l=some x→KV ok w l vs bs rws→WJ ok w ps x vs∧bs=[]∧rws=[]
 | [],[],[],_,_,_,_,h=>⟨rfl,h⟩
 | [],[],_ :: _,_,_,_,_,h=>h.elim
 | [],_ :: _,_,_,_,_,h,_=>by cases h
 | _ :: _,[],_,_,_,_,h,_=>by cases h
 | _ :: _,_ :: _,[],_,_,_,_,h=>h.elim
 | t :: ts,a :: l,v :: vs,bs,rws,x,hd,⟨r,s,Ki,IA⟩=>by
  have Hq:E6 (.val t :: Ez ts) (a :: l)=some x:=hd
  unfold E6 at Hq
  split at Hq
  ·rename_i y hy
   split at Hq
   ·rename_i z hz
    cases Hq
    obtain ⟨h1,rfl,rfl⟩:=U8 (Vu rfl hy) Ki
    obtain ⟨hv,hb⟩:=u7 hz IA
    have PR:a.as t=some y:=hy
    cases a with
    | dat u x' gs=>
     obtain ⟨cs,hc,Ho⟩:=h1
     have CP:=hc.cast PR
     obtain ⟨e,_⟩:=Fj PR
     subst e
     exact ⟨⟨cs,vs,by rw [Ho],CP,hv⟩,hb⟩
    | nils=>exact h1.elim
    | _=>first | cases PR | exact h1.elim
   ·cases Hq
  ·cases Hq
theorem va {ok:Nat→Nat→Prop} {w:World}:∀ {ps:List Ty} {vs:List Value} (x:DO (Ez ps)),WJ ok w ps x vs→∃ l,E6 (Ez ps) l=some x∧KV ok w l vs [] []
 | [],vs,x,h=>by
  cases h
  exact ⟨[],rfl,rfl,rfl⟩
 | t :: ts,vs,x,⟨cs,r,hv,hr,h2⟩=>by
  obtain ⟨l,h3,h4⟩:=va (ps:=ts) x.2 h2
  subst hv
  refine ⟨.dat t x.1 [] :: l,?_,[],[],⟨⟨cs,hr,rfl⟩,rfl,rfl⟩,h4⟩
  show E6 (.val t :: Ez ts) (.dat t x.1 [] :: l)=some x
  unfold E6
  have:Qi (.val t) (.dat t x.1 [])=some x.1:=by
   show C7 (t:=t) t x.1=some x.1
   unfold C7
   rw [dif_pos rfl]
  rw [this]
  dsimp only
  rw [h3]
theorem zU {ok:Nat→Nat→Prop} {w':World}:∀ {rs:List Ty} {y:DX (IG rs)} {vs:List Value} (j:Nat),N5 ok w' (IG rs) y vs→K4 ok (fun _=>none) w' j (Fo (IG rs) y) vs
 | [],_,_,_,h=>by
  cases h
  trivial
 | [t],y,vs,j,⟨cs,h1,h2⟩=>by
  subst h1
  exact ⟨⟨cs,h2,rfl,trivial⟩,trivial⟩
 | t :: u :: rs,y,vs,j,⟨cs,r,h1,h2,h3⟩=>by
  subst h1
  exact ⟨⟨cs,h2,rfl,trivial⟩,zU (rs:=u :: rs) _ h3⟩
theorem zV {ok ρ} {w w':World}:∀ {rs:List (Ty×List Tag)} {y:DX rs} {vs:List Value} {j:Nat},K4 ok ρ w' j (Fo rs y) vs→N5 ok w' rs y vs
 | [],_,[],_,_=>rfl
 | [],_,_ :: _,_,h=>h.elim
 | [a],y,[v],j,⟨⟨cs,h1,h2,_⟩,_⟩=>⟨cs,by rw [h2],h1⟩
 | [_],_,[],_,h=>h.elim
 | [_],_,_ :: _ :: _,_,h=>h.2.elim
 | a :: b :: rs,y,v :: vs,j,⟨⟨cs,h1,h2,_⟩,h3⟩=>⟨cs,vs,by rw [h2],h1,zV (w:=w) (rs:=b :: rs) h3⟩
 | _ :: _ :: _,_,[],_,h=>h.elim
theorem vc {ok ρ} {w w':World} {v:Value} {rs:List (Ty×List Tag)} {y:DX rs} (h:TX ok ρ w w' [] [] [] v (Ml (Fo rs y))):∃ vs,N5 ok w' rs y vs∧v=QU vs:=by
 cases rs with
 | nil=>
  obtain ⟨vs,rfl,h⟩:=h
  cases vs with
  | nil=>exact ⟨[],rfl,rfl⟩
  | cons _ _=>exact h.elim
 | cons a rs=>cases rs with
  | nil=>
   obtain ⟨cs,h1,h2,_⟩:=h
   exact ⟨[v],⟨cs,by rw [h2],h1⟩,rfl⟩
  | cons b rs=>
   have h':∃ vs:List Value,v = .tuple vs.toArray∧K4 ok ρ w' 0 (Fo (a :: b :: rs) y) vs:=by cases rs <;> exact h
   clear h
   obtain ⟨vs,rfl,h2⟩:=h'
   refine ⟨vs,zV (w:=w) h2,?_⟩
   cases vs with
   | nil=>exact h2.elim
   | cons v vs=>cases vs with
    | nil=>cases rs <;> exact h2.2.elim
    | cons _ _=>rfl
theorem pk {ok ok':Nat→Nat→Prop} {w:World} (hm:∀ b o,ok b o→ok' b o):∀ {rs:List (Ty×List Tag)} {y:DX rs} {vs:List Value},N5 ok w rs y vs→N5 ok' w rs y vs
 | [],_,_,h=>h
 | [a],y,_,⟨cs,h1,h2⟩=>⟨cs,h1,h2.mono fun b o hk=>⟨hm b o hk,rfl⟩⟩
 | a :: b :: rs,y,_,⟨cs,r,h1,h2,h3⟩=>⟨cs,r,h1,h2.mono fun b o hk=>⟨hm b o hk,rfl⟩,pk hm h3⟩
def SJ (ok0:Nat→Nat→Prop) (w w':World) (b o:Nat):Prop:=ok0 b o∨(w.heap.size≤b∧b<w'.heap.size)
theorem Vx {ps rs:List Ty} {F:DO (Ez ps)→Option (DX (IG rs))}
  (h:∀ x y,F x=some y→∀ (ok0:Nat→Nat→Prop) (w:World) (vs:List Value) (z:Nat),Lay.ok z w→(∀ b o,ok0 b o→b<w.heap.size)→WJ ok0 w ps x vs→
   Calls P f vs.toArray w fun e w'=>(∃ us,N5 (SJ ok0 w w') w' (IG rs) y us∧e = .returned (QU us))∧Below w.heap.size w w'):AY P f (spec (Ez ps) (IG rs) F):=by
 intro l r y hs hm ok0 w vs bs rws ⟨z,hz,_⟩ BE _ _ _ Cy
 unfold spec at hs
 split at hs
 ·rename_i x hx
  cases hs
  obtain ⟨hv,rfl,rfl⟩:=u7 hx Cy
  refine (h x y hm ok0 w vs z hz (fun b o hb=>(BE b o hb).1) hv).mono ?_
  rintro e w' ⟨⟨us,Sx,rfl⟩,hb⟩
  refine ⟨_,rfl,BelowX.LB hb,fun _=>none,fun j b u hj=>(nomatch hj),fun j k b u u' hj=>(nomatch hj),trivial,?_⟩
  have e1:DE ok0 w w' [] (fun _=>none)=SJ ok0 w w':=by
   funext b o
   simp [DE,SJ]
  rw [e1]
  exact u4 _ _ (zU 0 Sx)
 ·cases hs
theorem Tv {ps:List Ty} {rs:List (Ty×List Tag)} {F:DO (Ez ps)→Option (DX rs)} (hC:AY P f (spec (Ez ps) rs F)) {x:DO (Ez ps)} {y:DX rs} (hF:F x=some y)
  {ok0:Nat→Nat→Prop} {w:World} {vs:List Value} {z:Nat} (hz:Lay.ok z w) (BE:∀ b o,ok0 b o→b<w.heap.size) (ha:WJ ok0 w ps x vs):
  Calls P f vs.toArray w fun e w'=>(∃ us,N5 (SJ ok0 w w') w' rs y us∧e = .returned (QU us))∧Below w.heap.size w w':=by
 obtain ⟨l,hl,Oi⟩:=va x ha
 have hs:spec (Ez ps) rs F l=some ⟨DX rs,F x,iu rs,fun _=>[]⟩:=by
  unfold spec
  rw [hl]
 refine (hC l _ y hs hF ok0 w vs [] [] ⟨z,hz,by simp,by simp⟩ (fun b o hb=>⟨BE b o hb,by simp,by simp⟩) List.nodup_nil (by simp) ⟨fun i j b u u' h=>by simp at h,fun b u h=>by simp at h⟩ Oi).mono ?_
 rintro e w' ⟨v,rfl,hb,ρ,hρ,_,_,hr⟩
 obtain ⟨us,Sx,rfl⟩:=vc hr
 refine ⟨⟨us,?_,rfl⟩,hb.below⟩
 exact pk (fun b o hk=>by
  rcases hk with hk | ⟨h1,h2,_⟩
  ·exact .inl hk
  ·rcases h1 with h1 | ⟨u,h1⟩
   ·exact .inr ⟨h1,h2⟩
   ·cases h1) Sx
theorem Zk {ok:Nat→Nat→Prop} {w:World} {e:Ty} {l:List e.D} {n0:Nat} {ET:TypeId} {v:Value} {cells:List Value} (ho:w.ownsRow n0 ET e.sz v l.length cells) (hr:IE ok w e l cells)
  (BE:∀ b o,n0≤b→b<w.heap.size→ok b o):RepD ok w (.sl e) l [v]:=by
 obtain ⟨_,ho⟩:=ho
 rcases ho with ⟨rfl,h0⟩ | ⟨g,cap,cur,rfl,hg,hh,hle,CL,Co,Fc⟩
 ·have h2:=hr.1
  rw [h0] at h2
  have hl:List.length (α:=e.D) l=0:=by
   have:=e.LG
   rcases Nat.eq_zero_or_pos (List.length (α:=e.D) l) with h | h
   ·exact h
   ·have:=Nat.mul_pos h this
    simp at h2
    omega
  refine ⟨none,0,0,rfl,hl,Ah _,Nat.zero_le _,fun i x hi=>?_⟩
  have:=(List.getElem?_eq_some_iff.1 hi).1
  omega
 ·refine ⟨_,_,cap,rfl,rfl,hle,CL,fun i x hi=>⟨_,rfl,rfl,?_⟩⟩
  obtain ⟨ys,hy,B4⟩:=hr.2 i x hi
  refine ⟨ys,hy,fun j u hj=>⟨BE _ _ hg (Array.getElem?_eq_some_iff.1 hh).1,?_⟩⟩
  have h3:=B4 j u hj
  rw [← Fc,AA] at h3
  split at h3
  ·rw [cell_of_row w g _ cur ET (0,0) hh]
   simpa using h3
  ·cases h3
theorem Zzt {e:Ty} (Jt:Hy e=true) {by_:Nat} (L:SlLaysE0.n41 P ρ) (i0:TypeInfo) (z:Value) (hi:P.info? (ρ.t 23)=some i0) (JS:i0.zero=some z) (KI:i0.size=e.sz) (L3:i0.bytes=by_) (nH:z.cells.size=e.sz)
  (z23:∀ w,(Go.sizeOf (ρ.t 23)).run P w = .ok e.sz w):AY P (ρ.f 41) (spec (Ez [.sl e]) (IG [.sl e]) fun x=>MY by_ x.1):=
 Vx fun x y hF ok0 w vs zl hz BE ha=>by
  obtain ⟨cs,r,rfl,⟨a,n,cap,rfl,CM,hn,CL,hc⟩,hr⟩:=ha
  cases hr
  unfold MY at hF
  cases hb:BM (List.length (α:=e.D) x.1) by_ with
  | false=>rw [hb] at hF;cases hF
  | true=>
   rw [hb] at hF
   cases hF
   have Fp:List.length (α:=e.D) x.1*by_≤140737488355328:=Ak hb
   have hv:valOf (.sl e) [.slice a n cap] = .slice a n cap:=rfl
   rw [hv]
   cases a with
   | none=>
    refine (AnyE.slices_Clone_nil L n cap w).mono ?_
    rintro e1 w' ⟨rfl,rfl⟩
    have h0:x.1=[]:=by
     cases hx:x.1 with
     | nil=>rfl
     | cons u us=>
      obtain ⟨A,hA,_⟩:=hc 0 u (by rw [hx];rfl)
      cases hA
    refine ⟨⟨[.slice none 0 0],⟨[.slice none 0 0],rfl,none,0,0,rfl,?_,Ah _,Nat.zero_le _,fun i u hi=>?_⟩,rfl⟩,Below.refl _ _⟩
    ·show List.length (α:=e.D) x.1=0
     rw [h0];rfl
    ·have hi':x.1[i]? = some u:=hi
     rw [h0] at hi'
     cases hi'
   | some A=>
    obtain ⟨news,EG,C8,Pk⟩:=SO (ok:=ok0) (w:=w) (e:=e) (c:=fun k=>w.cell? ⟨A.block,k,none⟩) (l:=x.1) (base:=A.off) (fun i u hi=>by
     obtain ⟨A',DR,_,ys,hy,B4⟩:=hc i u hi
     cases DR
     exact ⟨ys,hy,fun j u hj=>(B4 j u hj).2⟩)
    refine (s8 L i0 z e.sz by_ hi JS KI L3 nH e.LG z23 A n cap news w (by rw [EG.1,CM]) (by omega) (by rw [← CM];exact Fp) (fun j u hj=>?_) Pk).mono ?_
    ·have HH:0<List.length (α:=e.D) x.1:=by
      rcases Nat.eq_zero_or_pos (List.length (α:=e.D) x.1) with h | h
      ·have:=EG.1
       rw [h,Nat.zero_mul] at this
       have:=(List.getElem?_eq_some_iff.1 hj).1
       omega
      ·exact h
     obtain ⟨A',DR,hs,_⟩:=hc 0 _ (Ap HH)
     cases DR
     rw [Hx A hs]
     exact C8 j u hj
    ·rintro e1 w' ⟨v',rfl,Ej,Cb,Dz⟩
     refine ⟨⟨[v'],⟨[v'],rfl,Zk (e:=e) (n0:=w.heap.size) (by rw [CM];exact Ej) ?_ fun b o h1 h2=> .inr ⟨h1,h2⟩⟩,rfl⟩,Dz⟩
     exact ⟨EG.1,fun i u hi=>by
      obtain ⟨ys,hy,B4⟩:=EG.2 i u hi
      exact ⟨ys,OU Jt hy,B4⟩⟩
end
end Go.AM
