import Derived.Test.YtclpadlpcfnfmaaGreatAmPrimS
import Derived.Shelf.SlLaysE0
import Derived.Shelf.RegionOpenPlain
import Derived.Shelf.SlicesE.Clone
import Derived.WalkKit
import Derived.Deep.LoopGhost
import Derived.Lib.Walk
import Derived.Lib.SliceRun
/- slices.Clone whose result is plain data; of nil and of no elements too. -/
namespace Go.AM
open Go.RowKit Go.Lib Go.Shelf Go.Proofs
set_option linter.unusedSectionVars false
variable {P : Program} {ρ : Ren}
set_option maxHeartbeats 2000000 in
set_option maxRecDepth 100000 in
theorem xo (L:SlLaysE0.n41 P ρ) (i0:TypeInfo) (z:Value) (size bytes:Nat) (hi:P.info? (ρ.t 23)=some i0) (FZ:i0.zero=some z) (LN:i0.size=size) (M3:i0.bytes=bytes) (q0:z.cells.size=size) (BL:0<size)
  (z23:∀ w,(Go.sizeOf (ρ.t 23)).run P w = .ok size w) (ad:Addr) (n c:Nat) (news:List Value) (w:World) (hl:news.length=n*size) (hn:n<=maxLen) (pr:n*bytes<=140737488355328)
  (hc:∀ j u,news[j]? = some u->w.cell? (ad.add j)=some u) (h1:∀ u∈news,u.oneCell'=true):
  Calls P (ρ.f 41) #[.slice (some ad) n c] w λ e w'=>∃ v',e = .returned v'/\w'.ownsRow w.heap.size (ρ.t 23) size v' n news/\v'≠ .slice none 0 0/\Below w.heap.size w w':=by
 have mixed:=L.mixed;have t4:=L.t4;have a4:=L.a4;have z4:=L.z4;have v4:=L.v4;have t22:=L.t22;have a22:=L.a22;have z22:=L.z22;have v22:=L.v22;have q22:∀ (w:World) (a:Option Addr) (n c n' c':Nat),(binOp .eql (ρ.t 22) (.slice a n c) (.slice none n' c')).run P w = .ok (.bool a.isNone) w:=λ w a n c n' c'=>Lib.run_eql_slice_nil w _ _ a n c n' c' L.t22
 have u22:∀ w,Sem.run P (underlying (ρ.t 22)) w = .ok (TypeDesc.slice (ρ.t 23)) w:=run_underlying t22;have A:Aside (∀ j u,news[j]? = some u->w.cell? (ad.add j)=some u):=hc;clear hc;obtain ⟨_,_,FG⟩:=L.f41;go_enter FG,SlBodyN.n41_ntmps ρ;go_wp2_with (at_builtin;refine wpList_append_own _ rfl _ _ (ρ.t 22) rfl w.heap.size (ρ.t 23) i0 z size bytes t22 hi FZ LN M3 q0 BL _ _ _ rfl (World.ownsRow_made w #[] 0 (Au _) (Nat.zero_le _) Ah) ad n c news rfl ?qc1 ?qc2 ?qc3 ?qc4 ?qc5 ?qc6 ?_)
 case qc1=>exact hl
 case qc2=>
  intro j u hj;exact Lib.cell?_alloc_some _ (A.out j u hj)
 case qc3=>exact h1
 case qc4=>rw [AF];exact hn
 case qc5=>rw [AF];exact pr
 case qc6=>simp
 intro v' w1 E2 MJ NC;go_wp2
 go_ret
 refine ⟨v',rfl,by simpa using E2,?_,?_⟩
 ·exact NC
 ·exact ((Below.refl _ w).alloc (Au _) _).grown MJ Ah (by intro k hk;simp [Value.ownBlock] at hk;omega)
section
variable [Lay] {f : FuncId}
def Yk (ok:Nat->Nat->Prop) (w:World):(ps:List Ty)->En (E7 ps)->List Value->Prop
 | [],_,vs=>vs=[]
 | t :: ps,x,vs=>∃ cs r,vs=valOf t cs :: r/\RepD ok w t x.1 cs/\Yk ok w ps x.2 r
def Ph (ok:Nat->Nat->Prop) (w:World):(rs:List (Ty×List Tag))->Ev rs->List Value->Prop
 | [],_,vs=>vs=[]
 | [a],y,vs=>∃ cs,vs=[valOf a.1 cs]/\RepD ok w a.1 y cs
 | a :: b :: rs,y,vs=>∃ cs r,vs=valOf a.1 cs :: r/\RepD ok w a.1 y.1 cs/\Ph ok w (b :: rs) y.2 r
theorem y9 {ok:Nat->Nat->Prop} {w:World}:∀ {ps:List Ty} {l:List AV} {vs:List Value} {bs:List Nat} {rws:List (Option (Nat×Nat))} {x:En (E7 ps)},FQ (E7 ps) l=some x->L3 ok w l vs bs rws->Yk ok w ps x vs/\bs=[]/\rws=[]
 | [],[],[],_,_,_,_,h=>⟨rfl,h⟩
 | [],[],_ :: _,_,_,_,_,h=>h.elim
 | [],_ :: _,_,_,_,_,h,_=>by cases h
 | _ :: _,[],_,_,_,_,h,_=>by cases h
 | _ :: _,_ :: _,[],_,_,_,_,h=>h.elim
 | t :: ts,a :: l,v :: vs,bs,rws,x,hd,⟨r,s,Hb,Jj⟩=>by
  have LL:FQ (.val t :: E7 ts) (a :: l)=some x:=hd;unfold FQ at LL;split at LL
  ·rename_i y hy;split at LL
   ·rename_i z hz;cases LL;obtain ⟨h1,rfl,rfl⟩:=WA (W2 rfl hy) Hb;obtain ⟨hv,hb⟩:=y9 hz Jj;have QU:a.as t=some y:=hy;cases a with
    | dat u x' gs=>
     obtain ⟨cs,hc,IT⟩:=h1;have EH:=hc.cast QU;obtain ⟨e,_⟩:=F6 QU;subst e;exact ⟨⟨cs,vs,by rw [IT],EH,hv⟩,hb⟩
    | nils=>exact h1.elim
    | _=>first | cases QU | exact h1.elim
   ·cases LL
  ·cases LL
theorem za {ok:Nat->Nat->Prop} {w:World}:∀ {ps:List Ty} {vs:List Value} (x:En (E7 ps)),Yk ok w ps x vs->∃ l,FQ (E7 ps) l=some x/\L3 ok w l vs [] []
 | [],vs,x,h=>by
  cases h;exact ⟨[],rfl,rfl,rfl⟩
 | t :: ts,vs,x,⟨cs,r,hv,hr,h2⟩=>by
  obtain ⟨l,h3,h4⟩:=za (ps:=ts) x.2 h2;subst hv;refine ⟨.dat t x.1 [] :: l,?_,[],[],⟨⟨cs,hr,rfl⟩,rfl,rfl⟩,h4⟩;show FQ (.val t :: E7 ts) (.dat t x.1 [] :: l)=some x;unfold FQ;have:Rn (.val t) (.dat t x.1 [])=some x.1:=by
   show DM (t:=t) t x.1=some x.1;unfold DM;rw [dif_pos rfl]
  rw [this];dsimp only;rw [h3]
theorem Zph {ok:Nat->Nat->Prop} {w':World}:∀ {rs:List Ty} {y:Ev (Jt rs)} {vs:List Value} (j:Nat),Ph ok w' (Jt rs) y vs->L7 ok (λ _=>none) w' j (F9 (Jt rs) y) vs
 | [],_,_,_,h=>by
  cases h;trivial
 | [t],y,vs,j,⟨cs,h1,h2⟩=>by
  subst h1;exact ⟨⟨cs,h2,rfl,trivial⟩,trivial⟩
 | t :: u :: rs,y,vs,j,⟨cs,r,h1,h2,h3⟩=>by
  subst h1;exact ⟨⟨cs,h2,rfl,trivial⟩,Zph (rs:=u :: rs) _ h3⟩
theorem Zqh {ok ρ} {w w':World}:∀ {rs:List (Ty×List Tag)} {y:Ev rs} {vs:List Value} {j:Nat},L7 ok ρ w' j (F9 rs y) vs->Ph ok w' rs y vs
 | [],_,[],_,_=>rfl
 | [],_,_ :: _,_,h=>h.elim
 | [a],y,[v],j,⟨⟨cs,h1,h2,_⟩,_⟩=>⟨cs,by rw [h2],h1⟩
 | [_],_,[],_,h=>h.elim
 | [_],_,_ :: _ :: _,_,h=>h.2.elim
 | a :: b :: rs,y,v :: vs,j,⟨⟨cs,h1,h2,_⟩,h3⟩=>⟨cs,vs,by rw [h2],h1,Zqh (w:=w) (rs:=b :: rs) h3⟩
 | _ :: _ :: _,_,[],_,h=>h.elim
theorem zb {ok ρ} {w w':World} {v:Value} {rs:List (Ty×List Tag)} {y:Ev rs} (h:Yh ok ρ w w' [] [] [] v (No (F9 rs y))):∃ vs,Ph ok w' rs y vs/\v=RX vs:=by
 cases rs with
 | nil=>
  obtain ⟨vs,rfl,h⟩:=h;cases vs with
  | nil=>exact ⟨[],rfl,rfl⟩
  | cons _ _=>exact h.elim
 | cons a rs=>cases rs with
  | nil=>
   obtain ⟨cs,h1,h2,_⟩:=h;exact ⟨[v],⟨cs,by rw [h2],h1⟩,rfl⟩
  | cons b rs=>
   have h':∃ vs:List Value,v = .tuple vs.toArray/\L7 ok ρ w' 0 (F9 (a :: b :: rs) y) vs:=by cases rs <;> exact h
   clear h;obtain ⟨vs,rfl,h2⟩:=h';refine ⟨vs,Zqh (w:=w) h2,?_⟩;cases vs with
   | nil=>exact h2.elim
   | cons v vs=>cases vs with
    | nil=>cases rs <;> exact h2.2.elim
    | cons _ _=>rfl
theorem sY {ok ok':Nat->Nat->Prop} {w:World} (hm:∀ b o,ok b o->ok' b o):∀ {rs:List (Ty×List Tag)} {y:Ev rs} {vs:List Value},Ph ok w rs y vs->Ph ok' w rs y vs
 | [],_,_,h=>h
 | [a],y,_,⟨cs,h1,h2⟩=>⟨cs,h1,h2.mono λ b o hk=>⟨hm b o hk,rfl⟩⟩
 | a :: b :: rs,y,_,⟨cs,r,h1,h2,h3⟩=>⟨cs,r,h1,h2.mono λ b o hk=>⟨hm b o hk,rfl⟩,sY hm h3⟩
def T6 (ok0:Nat->Nat->Prop) (w w':World) (b o:Nat):Prop:=ok0 b o\/(w.heap.size<=b/\b<w'.heap.size)
theorem W7 {ps rs:List Ty} {F:En (E7 ps)->Option (Ev (Jt rs))}
  (h:∀ x y,F x=some y->∀ (ok0:Nat->Nat->Prop) (w:World) (vs:List Value) (z:Nat),Lay.ok z w->(∀ b o,ok0 b o->b<w.heap.size)->Yk ok0 w ps x vs->
   Calls P f vs.toArray w λ e w'=>(∃ us,Ph (T6 ok0 w w') w' (Jt rs) y us/\e = .returned (RX us))/\Below w.heap.size w w'):Bh P f (spec (E7 ps) (Jt rs) F):=by
 intro l r y hs hm ok0 w vs bs rws ⟨z,hz,_⟩ B3 _ _ _ C7;unfold spec at hs;split at hs
 ·rename_i x hx;cases hs;obtain ⟨hv,rfl,rfl⟩:=y9 hx C7;refine (h x y hm ok0 w vs z hz (λ b o hb=>(B3 b o hb).1) hv).mono ?_;rintro e w' ⟨⟨us,OC,rfl⟩,hb⟩;refine ⟨_,rfl,BelowX.MD hb,λ _=>none,λ j b u hj=>(nomatch hj),λ j k b u u' hj=>(nomatch hj),trivial,?_⟩;have e1:Df ok0 w w' [] (λ _=>none)=T6 ok0 w w':=by
   funext b o;simp [Df,T6]
  rw [e1];exact y7 _ _ (Zph 0 OC)
 ·cases hs
theorem UN {ps:List Ty} {rs:List (Ty×List Tag)} {F:En (E7 ps)->Option (Ev rs)} (hC:Bh P f (spec (E7 ps) rs F)) {x:En (E7 ps)} {y:Ev rs} (hF:F x=some y)
  {ok0:Nat->Nat->Prop} {w:World} {vs:List Value} {z:Nat} (hz:Lay.ok z w) (B3:∀ b o,ok0 b o->b<w.heap.size) (ha:Yk ok0 w ps x vs):
  Calls P f vs.toArray w λ e w'=>(∃ us,Ph (T6 ok0 w w') w' rs y us/\e = .returned (RX us))/\Below w.heap.size w w':=by
 obtain ⟨l,hl,OB⟩:=za x ha;have hs:spec (E7 ps) rs F l=some ⟨Ev rs,F x,ll rs,λ _=>[]⟩:=by
  unfold spec;rw [hl]
 refine (hC l _ y hs hF ok0 w vs [] [] ⟨z,hz,Ah,Ah⟩ (λ b o hb=>⟨B3 b o hb,Ah,Ah⟩) List.nodup_nil Ah ⟨λ i j b u u' h=>by simp at h,λ b u h=>by simp at h⟩ OB).mono ?_;rintro e w' ⟨v,rfl,hb,ρ,hρ,_,_,hr⟩;obtain ⟨us,OC,rfl⟩:=zb hr;refine ⟨⟨us,?_,rfl⟩,hb.below⟩
 exact sY (λ b o hk=>by
  rcases hk with hk | ⟨h1,h2,_⟩
  ·exact .inl hk
  ·rcases h1 with h1 | ⟨u,h1⟩
   ·exact .inr ⟨h1,h2⟩
   ·cases h1) OC
theorem aZ {ok:Nat->Nat->Prop} {w:World} {e:Ty} {l:List e.D} {n0:Nat} {ET:TypeId} {v:Value} {cells:List Value} (ho:w.ownsRow n0 ET e.sz v l.length cells) (hr:Jr ok w e l cells)
  (B3:∀ b o,n0<=b->b<w.heap.size->ok b o):RepD ok w (.sl e) l [v]:=by
 obtain ⟨_,ho⟩:=ho;rcases ho with ⟨rfl,h0⟩ | ⟨g,cap,cur,rfl,hg,hh,hle,Ds,CM,Fw⟩
 ·have h2:=hr.1;rw [h0] at h2;have hl:List.length (α:=e.D) l=0:=by
   have:=e.Nk;rcases Nat.eq_zero_or_pos (List.length (α:=e.D) l) with h | h
   ·exact h
   ·have:=Nat.mul_pos h this;simp at h2;omega
  refine ⟨none,0,0,rfl,hl,Au _,Nat.zero_le _,λ i x hi=>?_⟩;have:=(List.getElem?_eq_some_iff.1 hi).1;omega
 ·refine ⟨_,_,cap,rfl,rfl,hle,Ds,λ i x hi=>⟨_,rfl,rfl,?_⟩⟩;obtain ⟨ys,hy,CU⟩:=hr.2 i x hi;refine ⟨ys,hy,λ j u hj=>⟨B3 _ _ hg (Array.getElem?_eq_some_iff.1 hh).1,?_⟩⟩;have h3:=CU j u hj;rw [<- Fw,AQ] at h3;split at h3
  ·rw [cell_of_row w g _ cur ET (0,0) hh];simpa using h3
  ·cases h3
theorem Zw3 {e:Ty} (Jg:IP e=true) {by_:Nat} (L:SlLaysE0.n41 P ρ) (i0:TypeInfo) (z:Value) (hi:P.info? (ρ.t 23)=some i0) (FZ:i0.zero=some z) (LN:i0.size=e.sz) (M3:i0.bytes=by_) (q0:z.cells.size=e.sz)
  (z23:∀ w,(Go.sizeOf (ρ.t 23)).run P w = .ok e.sz w):Bh P (ρ.f 41) (spec (E7 [.sl e]) (Jt [.sl e]) λ x=>N9 by_ x.1):=
 W7 λ x y hF ok0 w vs zl hz B3 ha=>by
  obtain ⟨cs,r,rfl,⟨a,n,cap,rfl,DG,hn,Ds,hc⟩,hr⟩:=ha;cases hr;unfold N9 at hF;cases hb:B1 (List.length (α:=e.D) x.1) by_ with
  | false=>rw [hb] at hF;cases hF
  | true=>
   rw [hb] at hF;cases hF;have Gb:List.length (α:=e.D) x.1*by_<=140737488355328:=Az hb;have hv:valOf (.sl e) [.slice a n cap] = .slice a n cap:=rfl;rw [hv];cases a with
   | none=>
    refine (AnyE.slices_Clone_nil L n cap w).mono ?_;rintro e1 w' ⟨rfl,rfl⟩;have h0:x.1=[]:=by
     cases hx:x.1 with
     | nil=>rfl
     | cons u us=>
      obtain ⟨A,hA,_⟩:=hc 0 u (by rw [hx];rfl);cases hA
    refine ⟨⟨[.slice none 0 0],⟨[.slice none 0 0],rfl,none,0,0,rfl,?_,Au _,Nat.zero_le _,λ i u hi=>?_⟩,rfl⟩,Below.refl _ _⟩
    ·show List.length (α:=e.D) x.1=0;rw [h0];rfl
    ·have hi':x.1[i]? = some u:=hi;rw [h0] at hi';cases hi'
   | some A=>
    obtain ⟨news,Fg,D0,Qv⟩:=Ue (ok:=ok0) (w:=w) (e:=e) (c:=λ k=>w.cell? ⟨A.block,k,none⟩) (l:=x.1) (base:=A.off) (λ i u hi=>by
     obtain ⟨A',ED,_,ys,hy,CU⟩:=hc i u hi;cases ED
     exact ⟨ys,hy,λ j u hj=>(CU j u hj).2⟩)
    refine (xo L i0 z e.sz by_ hi FZ LN M3 q0 e.Nk z23 A n cap news w (by rw [Fg.1,DG]) Ad (by rw [<- DG];exact Gb) (λ j u hj=>?_) Qv).mono ?_
    ·have IW:0<List.length (α:=e.D) x.1:=by
      rcases Nat.eq_zero_or_pos (List.length (α:=e.D) x.1) with h | h
      ·have:=Fg.1;rw [h,Nat.zero_mul] at this;have:=(List.getElem?_eq_some_iff.1 hj).1;omega
      ·exact h
     obtain ⟨A',ED,hs,_⟩:=hc 0 _ (AD IW);cases ED;rw [IN A hs];exact D0 j u hj
    ·rintro e1 w' ⟨v',rfl,E2,Cg,D9⟩;refine ⟨⟨[v'],⟨[v'],rfl,aZ (e:=e) (n0:=w.heap.size) (by rw [DG];exact E2) ?_ λ b o h1 h2=> .inr ⟨h1,h2⟩⟩,rfl⟩,D9⟩
     exact ⟨Fg.1,λ i u hi=>by
      obtain ⟨ys,hy,CU⟩:=Fg.2 i u hi
      exact ⟨ys,P6 Jg hy,CU⟩⟩
end
end Go.AM
