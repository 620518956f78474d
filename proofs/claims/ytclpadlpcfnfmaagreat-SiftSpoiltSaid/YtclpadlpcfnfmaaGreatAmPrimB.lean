import Derived.Test.YtclpadlpcfnfmaaGreatAmPrim
import Derived.Test.YtclpadlpcfnfmaaGreatAmPrimW
import Derived.Shelf.Strings.BuilderK
/- strings.Builder's copyCheck and String, exactly: what they leave of memory. -/
set_option linter.unusedVariables false
namespace Go.AM
open Go.RowKit (Below)
@[reducible] def JD : Ty := .pair (.lk false) (.sl (.int .u8))
structure StrW (w w':World) (q:Option Nat):Prop where
 os:w'.os=w.os
 tape:w'.tape=w.tape
 output:w'.output=w.output
 size:w.heap.size<=w'.heap.size
 block:∀ k,k<w.heap.size->q≠some k->w'.heap[k]? = w.heap[k]?
 row:∀ k cur T y,q=some k->w.heap[k]? = some (.cells cur T y)->∃ z,w'.heap[k]? = some (.cells cur T z)
theorem StrW.MD {w w':World} (h:Below w.heap.size w w') (q:Option Nat) (hq:∀ k,q=some k->k<w.heap.size):StrW w w' q:=
 ⟨h.os,h.tape,h.output,h.size,λ k hk _=>h.block k hk,λ k cur T y e hh=>⟨y,(h.block k (hq k e)).trans hh⟩⟩
theorem StrW.freeze {w:World} {g n:Nat} (hg:g<w.heap.size):StrW w (w.drew.freeze ⟨g,0,none⟩ n) (some g):=by
 have hd:=(Below.refl w.heap.size w).drew;unfold World.freeze;by_cases hn:n=0
 ·rw [if_pos hn];exact StrW.MD hd _ λ k e=>by cases e;exact hg
 ·rw [if_neg hn];refine ⟨hd.os,hd.tape,hd.output,by rw [Array.size_modify];exact hd.size,λ k hk hq=>?_,λ k cur T y e hh=>?_⟩
  ·simp only [Array.getElem?_modify];rw [if_neg λ e=>hq (by rw [<- e])];exact hd.block k hk
  ·cases e;simp only [Array.getElem?_modify,if_true];rw [show w.drew.heap[g]? = w.heap[g]? from rfl,hh];obtain ⟨lo,hi⟩:=y;exact ⟨_,rfl⟩
end Go.AM
namespace Go.Proofs
open Go.Shelf Go.RowKit
variable {P : Program} {ρ : Ren}
set_option maxHeartbeats 2000000 in
set_option maxRecDepth 100000 in
theorem Zgs (L:Lays.n169 P ρ) (X:Builder.Extra P ρ) (b:Nat) (p:Value) (l:List UInt8) (g cap:Nat) (cur:Array Value) (y:Nat×Nat) (w:World) (h0:l≠[]) (NT:w.heap[b]? = some (.cells #[p, .slice (some ⟨g,0,none⟩) l.length cap] (ρ.t 72) (0,0)))
  (hg:w.heap[g]? = some (.cells cur (ρ.t 5) y)) (qK:l.length<=cap) (KP:cap<=maxLen) (CM:cur.size=cap) (D0:∀ j x,l[j]? = some x->w.cell? ((⟨g,0,none⟩:Addr).add j)=some (.int .u8 x.toNat)):
  Calls P (ρ.f 169) #[.pointer (some ⟨b,0,none⟩)] w λ e w'=>e = .returned (.string ⟨l.toArray⟩)/\w'=w.drew.freeze ⟨g,0,none⟩ l.length:=by
 have Li:l.length≠0:=by simpa using h0
 have c1:w.drew.cell? ⟨b,1,none⟩=some (.slice (some ⟨g,0,none⟩) l.length cap):=by
  have:w.drew.heap[b]? = some (.cells #[p, .slice (some ⟨g,0,none⟩) l.length cap] (ρ.t 72) (0,0)):=NT;rw [Lib.cell_of_heap this];rfl
 have qV:(Builtin.unsafeSliceData_ #[(ρ.t 37)] (ρ.t 127) #[.slice (some ⟨g,0,none⟩) l.length cap]).run P w.drew = .ok (.pointer (some ⟨g,0,none⟩)) w.drew:=
  Lib.run_unsafeSliceData_row _ _ _ _ _ _ (by omega)
 have qW:(Builtin.unsafeString_ #[(ρ.t 127),(ρ.t 3)] (ρ.t 9) #[.pointer (some ⟨g,0,none⟩), .int .i64 l.length]).run P w.drew = .ok (.string ⟨l.toArray⟩) (w.drew.freeze ⟨g,0,none⟩ l.length):=
  Lib.run_unsafeString_row w.drew (ρ.t 127) (ρ.t 3) (ρ.t 9) (ρ.t 5) L.t127 X.cellsByte g cur.size (by have QQ:w.drew.heap[g]? = some (.cells cur (ρ.t 5) y):=hg;simp [World.shape?,QQ]) l h0 (by omega) (by unfold maxLen at KP;omega) D0
 have mixed:=L.mixed;have t72:=L.t72;have a72:=L.a72;have z72:=L.z72;have v72:=L.v72;have u72:=run_underlying L.t72;have t70:=L.t70;have a70:=L.a70;have z70:=L.z70;have v70:=L.v70;have u70:=run_underlying L.t70;have t37:=L.t37;have a37:=L.a37;have z37:=L.z37;have v37:=L.v37;have u37:=run_underlying L.t37;have t127:=L.t127;have a127:=L.a127;have z127:=L.z127;have v127:=L.v127;have u127:=run_underlying L.t127;have t3:=L.t3;have a3:=L.a3;have z3:=L.z3;have v3:=L.v3;have u3:=run_underlying L.t3;have t9:=L.t9;have a9:=L.a9;have z9:=L.z9;have v9:=L.v9;have u9:=run_underlying L.t9;have t5:=X.t5;have a5:=X.a5;have z5:=X.z5;have v5:=X.v5;have u5:=run_underlying X.t5;go_enter L.f169,Body.n169_ntmps ρ;go_wp2
 go_region_o
 all_goals (go_wp2;go_ret;exact ⟨rfl,rfl⟩)
set_option maxHeartbeats 2000000 in
set_option maxRecDepth 100000 in
theorem Zns (L:Lays.n169 P ρ) (X:Builder.Extra P ρ) (b:Nat) (p:Value) (w:World) (NT:w.heap[b]? = some (.cells #[p, .slice none 0 0] (ρ.t 72) (0,0))):
  Calls P (ρ.f 169) #[.pointer (some ⟨b,0,none⟩)] w λ e w'=>e = .returned (.string ⟨#[]⟩)/\Below w.heap.size w w':=by
 have qW:=Any.unsafeString_none L X;have c1:w.drew.cell? ⟨b,1,none⟩=some (.slice none 0 0):=by
  have:w.drew.heap[b]? = some (.cells #[p, .slice none 0 0] (ρ.t 72) (0,0)):=NT;rw [Lib.cell_of_heap this];rfl
 have qV:(Builtin.unsafeSliceData_ #[(ρ.t 37)] (ρ.t 127) #[.slice none 0 0]).run P w.drew = .ok (.pointer none) w.drew:=rfl;have mixed:=L.mixed;have t72:=L.t72;have a72:=L.a72;have z72:=L.z72;have v72:=L.v72;have u72:=run_underlying L.t72;have t70:=L.t70;have a70:=L.a70;have z70:=L.z70;have v70:=L.v70;have u70:=run_underlying L.t70;have t37:=L.t37;have a37:=L.a37;have z37:=L.z37;have v37:=L.v37;have u37:=run_underlying L.t37;have t127:=L.t127;have a127:=L.a127;have z127:=L.z127;have v127:=L.v127;have u127:=run_underlying L.t127;have t3:=L.t3;have a3:=L.a3;have z3:=L.z3;have v3:=L.v3;have u3:=run_underlying L.t3;have t9:=L.t9;have a9:=L.a9;have z9:=L.z9;have v9:=L.v9;have u9:=run_underlying L.t9;have t5:=X.t5;have a5:=X.a5;have z5:=X.z5;have v5:=X.v5;have u5:=run_underlying X.t5;go_enter L.f169,Body.n169_ntmps ρ;go_wp2
 go_region_o
 all_goals (go_wp2;go_ret;exact ⟨rfl,Below.drew (Below.refl _ w)⟩)
set_option maxHeartbeats 2000000 in
set_option maxRecDepth 100000 in
theorem Zvr (L:Lays.n169 P ρ) (X:Builder.Extra P ρ) (b g:Nat) (p:Value) (cur:Array Value) (w:World) (NT:w.heap[b]? = some (.cells #[p, .slice (some ⟨g,0,none⟩) 0 0] (ρ.t 72) (0,0))) (fz:Nat×Nat) (hg:w.heap[g]? = some (.cells cur (ρ.t 5) fz)):
  Calls P (ρ.f 169) #[.pointer (some ⟨b,0,none⟩)] w λ e w'=>e = .returned (.string ⟨#[]⟩)/\Below w.heap.size w w':=by
 have qW:=Any.unsafeString_none L X;have AY:b<w.heap.size:=by
  rcases Nat.lt_or_ge b w.heap.size with h' | h'
  ·exact h'
  ·simp [Array.getElem?_eq_none h'] at NT
 have c1:w.drew.cell? ⟨b,1,none⟩=some (.slice (some ⟨g,0,none⟩) 0 0):=by
  have:w.drew.heap[b]? = some (.cells #[p, .slice (some ⟨g,0,none⟩) 0 0] (ρ.t 72) (0,0)):=NT;rw [Lib.cell_of_heap this];rfl
 have qV:(Builtin.unsafeSliceData_ #[(ρ.t 37)] (ρ.t 127) #[.slice (some ⟨g,0,none⟩) 0 0]).run P w.drew = .ok (.pointer (some ⟨w.drew.heap.size,0,none⟩)) (w.drew.alloc (.view ⟨g,0,none⟩ (ρ.t 5))):=
  Lib.run_unsafeSliceData_zero w.drew _ _ (ρ.t 5) L.t127 ⟨g,0,none⟩ 0 ((ρ.t 5),cur.size) (by have QQ:w.drew.heap[g]? = some (.cells cur (ρ.t 5) fz):=hg;simp [World.shape?,QQ])
 have c2:(w.drew.alloc (.view ⟨g,0,none⟩ (ρ.t 5))).cell? ⟨b,1,none⟩=some (.slice (some ⟨g,0,none⟩) 0 0):=by
  have:(w.drew.alloc (.view ⟨g,0,none⟩ (ρ.t 5))).heap[b]? = _:=(Lib.alloc_old w.drew _ b AY).trans NT;rw [Lib.cell_of_heap this];rfl
 have c3:(w.alloc (.view ⟨g,0,none⟩ (ρ.t 5))).drew.cell? ⟨b,1,none⟩=some (.slice (some ⟨g,0,none⟩) 0 0):=c2;have c0:w.cell? ⟨b,1,none⟩=some (.slice (some ⟨g,0,none⟩) 0 0):=c1;have mixed:=L.mixed;have t72:=L.t72;have a72:=L.a72;have z72:=L.z72;have v72:=L.v72;have u72:=run_underlying L.t72;have t70:=L.t70;have a70:=L.a70;have z70:=L.z70;have v70:=L.v70;have u70:=run_underlying L.t70;have t37:=L.t37;have a37:=L.a37;have z37:=L.z37;have v37:=L.v37;have u37:=run_underlying L.t37;have t127:=L.t127;have a127:=L.a127;have z127:=L.z127;have v127:=L.v127;have u127:=run_underlying L.t127;have t3:=L.t3;have a3:=L.a3;have z3:=L.z3;have v3:=L.v3;have u3:=run_underlying L.t3;have t9:=L.t9;have a9:=L.a9;have z9:=L.z9;have v9:=L.v9;have u9:=run_underlying L.t9;have t5:=X.t5;have a5:=X.a5;have z5:=X.z5;have v5:=X.v5;have u5:=run_underlying X.t5;go_enter L.f169,Body.n169_ntmps ρ;go_wp2
 go_region_o
 all_goals (go_wp2;go_ret;exact ⟨rfl,(Below.drew (Below.refl _ w)).alloc (Nat.le_refl _) _⟩)
set_option maxHeartbeats 2000000 in
set_option maxRecDepth 100000 in
theorem Zhs (L:Lays.n169 P ρ) (X:Builder.Extra P ρ) (b g cap:Nat) (p:Value) (w:World) (IS:cap≠0) (NT:w.heap[b]? = some (.cells #[p, .slice (some ⟨g,0,none⟩) 0 cap] (ρ.t 72) (0,0))):
  Calls P (ρ.f 169) #[.pointer (some ⟨b,0,none⟩)] w λ e w'=>e = .returned (.string ⟨#[]⟩)/\Below w.heap.size w w':=by
 have qW:=Any.unsafeString_none L X;have c1:w.drew.cell? ⟨b,1,none⟩=some (.slice (some ⟨g,0,none⟩) 0 cap):=by
  have:w.drew.heap[b]? = some (.cells #[p, .slice (some ⟨g,0,none⟩) 0 cap] (ρ.t 72) (0,0)):=NT;rw [Lib.cell_of_heap this];rfl
 have qV:(Builtin.unsafeSliceData_ #[(ρ.t 37)] (ρ.t 127) #[.slice (some ⟨g,0,none⟩) 0 cap]).run P w.drew = .ok (.pointer (some ⟨g,0,none⟩)) w.drew:=
  Lib.run_unsafeSliceData_row _ _ _ _ _ _ IS
 clear IS;have mixed:=L.mixed;have t72:=L.t72;have a72:=L.a72;have z72:=L.z72;have v72:=L.v72;have u72:=run_underlying L.t72;have t70:=L.t70;have a70:=L.a70;have z70:=L.z70;have v70:=L.v70;have u70:=run_underlying L.t70;have t37:=L.t37;have a37:=L.a37;have z37:=L.z37;have v37:=L.v37;have u37:=run_underlying L.t37;have t127:=L.t127;have a127:=L.a127;have z127:=L.z127;have v127:=L.v127;have u127:=run_underlying L.t127;have t3:=L.t3;have a3:=L.a3;have z3:=L.z3;have v3:=L.v3;have u3:=run_underlying L.t3;have t9:=L.t9;have a9:=L.a9;have z9:=L.z9;have v9:=L.v9;have u9:=run_underlying L.t9;have t5:=X.t5;have a5:=X.a5;have z5:=X.z5;have v5:=X.v5;have u5:=run_underlying X.t5;go_enter L.f169,Body.n169_ntmps ρ;go_wp2
 go_region_o
 all_goals (go_wp2;go_ret;exact ⟨rfl,Below.drew (Below.refl _ w)⟩)
end Go.Proofs
namespace Go.AM
open Go.RowKit (Below)
open Go.Proofs Go.Shelf
set_option linter.unusedSectionVars false
variable [Lay]
section
variable {P : Program} {ρ : Ren} {ok0 : Nat -> Nat -> Prop} {w : World}
def Zxq (w:World) (sl:Value):Option (Nat×Nat)->Prop
 | none=>sl = .slice none 0 0
 | some (g,u)=>∃ cap cur,sl = .slice (some ⟨g,0,none⟩) u cap/\w.heap[g]? = some (.cells cur Lay.byt (0,0))/\cur.size=cap/\u<=cap/\cap<=maxLen
theorem xm {l:List AV} {vs:List Value} {bs:List Nat} {rws:List (Option (Nat×Nat))} {x:En [.io JD [(1,0)]]} (hx:FQ [.io JD [(1,0)]] l=some x) (ha:L3 ok0 w l vs bs rws):
  ∃ b p sl q,vs=[.pointer (some ⟨b,0,none⟩)]/\bs=[b]/\rws=[q]/\w.heap[b]? = some (.cells #[p,sl] Lay.bld (0,0))/\fA false x.1.1 p/\(p = .pointer none\/p = .pointer (some ⟨b,0,none⟩))/\
   RepD ok0 w (.sl (.int .u8)) x.1.2 [sl]/\Zxq w sl q:=by
 match l,vs,hx,ha with
 | [],_,hx,_=>cases hx
 | av :: _ :: _,_,hx,_=>
  unfold FQ at hx;split at hx
  ·split at hx
   ·rename_i h;cases h
   ·cases hx
  ·cases hx
 | [av],[],_,ha=>exact ha.elim
 | [av],_ :: _ :: _,_,⟨_,_,_,ha⟩=>exact ha.elim
 | [av],[v],hx,⟨r,s,h1,h2⟩=>
  obtain ⟨rfl,rfl⟩:=h2;unfold FQ at hx;split at hx
  ·rename_i y hy;cases hx;obtain ⟨gs,rfl,T4⟩:=lV hy;obtain ⟨b,rfl,rfl,cs,T,hh,⟨c1,c2,rfl,⟨p,rfl,hp⟩,Jj⟩,⟨hs,hT⟩,hd⟩:=h1;have hT':T=Lay.bld:=hT rfl;subst hT';obtain ⟨a,n,cap,rfl,DG,hn,Gf,D0⟩:=Jj;obtain ⟨τ,rfl⟩:∃ τ,gs=[τ]:=by
    cases gs with
    | nil=>cases T4
    | cons τ r=>cases r with
     | nil=>exact ⟨τ,rfl⟩
     | cons _ _=>simp at T4
   have hτ:τ.off=1/\τ.sz=0:=by
    simp at T4;exact T4
   obtain ⟨q,r1,rfl,JN,hq⟩:=hd;have Xyh:r1=[]:=JN;subst Xyh;have RJ:p = .pointer none\/p = .pointer (some ⟨b,0,none⟩):=by
    have:=hs.1;unfold Fu at this;simpa using this
   refine ⟨b,p,_,q,rfl,rfl,rfl,hh,hp,RJ,⟨a,n,cap,rfl,DG,hn,Gf,D0⟩,?_⟩;rw [hτ.1,hτ.2] at hq;cases q with
   | none=>simpa [Zxq] using hq
   | some bu=>
    obtain ⟨g,u⟩:=bu;obtain ⟨n',Dr,cur,T',k1,k2,k3,k4,k5,k6,k7⟩:=hq;simp at k1;obtain ⟨rfl,rfl,rfl⟩:=k1;have:T'=Lay.byt:=k7 rfl;subst this;have e1:Pj 0=1:=rfl;rw [e1,Nat.mul_one] at k2 k4;subst k2;exact ⟨_,cur,rfl,k3,k4,k5,k6⟩
  ·cases hx
theorem Zv3 (L:Lays.n240 P ρ) (X:Builder.X72 P ρ) (hB:Lay.bld = ρ.t 72):Bh P (ρ.f 240) (Hm 0 [.io JD [(1,0)]] [(JD,[⟨1,1,0,0⟩])] (λ x=>some (OW x.1))):=by
 intro l r y hs hm ok0 w vs bs rws MO hk Iw Ey DF C7;unfold Hm at hs;split at hs
 ·rename_i x hx;cases hs;cases hm;obtain ⟨b,p,sl,q,rfl,rfl,rfl,hh,hp,RJ,hr,hq⟩:=xm hx C7;have AY:b<w.heap.size:=Ey b (List.mem_singleton.2 rfl);have key:∀ w',w'.os=w.os->w'.tape=w.tape->w'.output=w.output->w'.heap.size=w.heap.size->(∀ k,k≠b->w'.heap[k]? = w.heap[k]?)->w'.heap[b]? = some (.cells #[.pointer (some ⟨b,0,none⟩),sl] Lay.bld (0,0))->
    ∃ v,Ending.returned (.tuple #[]) = .returned v/\BelowX ⟨w.heap.size,[b],[q]⟩ w w'/\O4 ok0 w w' (No ((F9 [(JD,[⟨1,1,0,0⟩])] (OW x.1)).take 0)) (Mb ([PK.io JD [(1,0)]].filter Ih) ((F9 [(JD,[⟨1,1,0,0⟩])] (OW x.1)).drop 0)) [b] [q] v:=by
   intro w' e1 e2 e3 e4 fB GF;have T5:∀ g u,q=some (g,u)->g≠b/\g<w.heap.size:=λ g u e=>by
    have:=DF.2 g u (by rw [e];exact List.mem_singleton.2 rfl);exact ⟨λ h=>this.2 (List.mem_singleton.2 h),this.1⟩
   refine ⟨_,rfl,⟨e1,e2,e3,Ad,λ k _ hn _=>fB k λ e=>hn (List.mem_singleton.2 e),λ k u cur T y hm _ De=>⟨cur,y,(fB k λ e=>?_).trans De,rfl,λ _ _=>rfl⟩,λ k cur T y hm _ De=>by
    obtain rfl:=List.mem_singleton.1 hm;rw [hh] at De;cases De
    exact ⟨_,_,GF,rfl⟩⟩,?_⟩
   ·subst e;exact (DF.2 k u hm).2 (List.mem_singleton.2 rfl)
   refine ⟨λ j=>if j=0 then q else none,λ j g u hj=>?_,λ j k g u u' hj De=>?_,⟨⟨[.pointer (some ⟨b,0,none⟩),sl],Lay.bld,GF,⟨[_],[sl],rfl,⟨_,rfl, .inr ⟨rfl,_,rfl⟩⟩,?_⟩,⟨⟨.inr rfl,trivial⟩,λ _=>rfl⟩,?_⟩,trivial⟩,[],rfl,trivial⟩
   ·simp only at hj;split at hj
    ·exact ⟨.inr ⟨u,by rw [hj];exact List.mem_singleton.2 rfl,Au _⟩,by rw [e4];exact (T5 g u hj).2⟩
    ·cases hj
   ·simp only at hj De;split at hj <;> split at De <;> first | omega | (cases De;done) | (exfalso;exact absurd hj Ah) | (exfalso;exact absurd De Ah)
   ·refine hr.mono λ c o hc=>⟨.inl hc,?_⟩
    obtain ⟨h1,h2,_⟩:=hk c o hc;unfold World.cell?;dsimp only;rw [fB c λ e=>h2 (List.mem_singleton.2 e)]
   ·refine ⟨?_,trivial⟩;cases q with
    | none=>
     have Jf:sl = .slice none 0 0:=hq;subst Jf;exact .inl rfl
    | some gu=>
     obtain ⟨g,u⟩:=gu;obtain ⟨cap,cur,rfl,h1,h2,h3,h4⟩:=hq;refine .inr ⟨g,u,cap,cur,Lay.byt,rfl,?_,(fB g (T5 g u rfl).1).trans h1,?_,h3,h4,λ _=>rfl⟩
     ·show (if (0:Nat)=0 then some (g,u) else none)=some (g,u*Pj 0);rw [if_pos rfl];show _=some (g,u*1);rw [Nat.mul_one]
     ·show cur.size=cap*1;omega
  have IS:w.cell? ⟨b,0,none⟩=some p:=by
   unfold World.cell?;simp only [hh];rfl
  rcases RJ with rfl | rfl
  ·refine (Any.Builder_copyCheck_fresh L X b w IS (by rw [<- hB];unfold World.shape?;simp [hh]) (by unfold World.frozen?;simp [hh])).mono ?_;rintro e w' ⟨rfl,rfl⟩;refine key _ rfl rfl rfl (by unfold World.setCell;simp) (λ k De=>?_) ?_
   ·unfold World.setCell;simp only [Array.getElem?_modify];rw [if_neg (Ne.symm De)]
   ·unfold World.setCell;simp only [Array.getElem?_modify,if_true,hh];rfl
  ·refine (Any.Builder_copyCheck_used L X b w IS).mono ?_;rintro e w' ⟨rfl,rfl⟩;exact key _ rfl rfl rfl rfl (λ _ _=>rfl) hh
 ·cases hs
theorem Xje {n:Int} (h:0<=n/\n<256):((UInt8.ofNat n.toNat).toNat:Int)=n:=by
 rw [UInt8.toNat_ofNat'];omega
theorem Zvz (L:Lays.n169 P ρ) (X:Builder.Extra P ρ) (hB:Lay.bld = ρ.t 72) (hY:Lay.byt = ρ.t 5):Bh P (ρ.f 169) (Hm 1 [.io JD [(1,0)]] [(.str,[]),(JD,[])] (λ x=>Oa x.1)):=by
 intro l r y hs hm ok0 w vs bs rws MO hk Iw Ey DF C7;unfold Hm at hs;split at hs
 ·rename_i x hx;cases hs;have ML:x.1.2.all isByte=true:=by
   cases hb:x.1.2.all isByte with
   | true=>rfl
   | false=>have MY:Oa x.1=some y:=hm;unfold Oa at MY;rw [hb] at MY;cases MY
  have hy:y=(ofBytes x.1.2,x.1):=by
   have MY:Oa x.1=some y:=hm;unfold Oa at MY;rw [ML] at MY;exact (Option.some.inj MY).symm
  subst hy;obtain ⟨b,p,sl,q,rfl,rfl,rfl,hh,hp,RJ,hr,hq⟩:=xm hx C7;have AY:b<w.heap.size:=Ey b (List.mem_singleton.2 rfl);have T5:∀ g u,q=some (g,u)->g≠b/\g<w.heap.size:=λ g u e=>by
   have:=DF.2 g u (by rw [e];exact List.mem_singleton.2 rfl);exact ⟨λ h=>this.2 (List.mem_singleton.2 h),this.1⟩
  have key:∀ w',StrW w w' (q.map (·.1))->∃ v,Ending.returned (.string (ofBytes x.1.2)) = .returned v/\BelowX ⟨w.heap.size,[b],[q]⟩ w w'/\
    O4 ok0 w w' (No ((F9 [(.str,[]),(JD,[])] ((ofBytes x.1.2,x.1):ByteArray×(Bool×List Int))).take 1)) (Mb ([PK.io JD [(1,0)]].filter Ih) ((F9 [(.str,[]),(JD,[])] ((ofBytes x.1.2,x.1):ByteArray×(Bool×List Int))).drop 1)) [b] [q] v:=by
   intro w' hS;have Zb:∀ k,q.map (·.1)=some k->∃ u,q=some (k,u):=λ k e=>by
    obtain ⟨⟨g,u⟩,h1,h2⟩:=Option.map_eq_some_iff.1 e;cases h2;exact ⟨u,h1⟩
   have D0:∀ c o,c<w.heap.size->c≠b->w'.cell? ⟨c,o,none⟩=w.cell? ⟨c,o,none⟩:=λ c o hc _=>by
    by_cases Kk:q.map (·.1)=some c
    ·obtain ⟨u,hu⟩:=Zb c Kk;subst hu;obtain ⟨cap,cur,_,h1,_⟩:=hq;obtain ⟨z,hz⟩:=hS.row c cur _ _ rfl h1;unfold World.cell?;simp only [h1,hz]
    ·unfold World.cell?;dsimp only;rw [hS.block c hc Kk]
   have FW:w'.heap[b]? = w.heap[b]?:=hS.block b AY λ e=>by
    obtain ⟨u,hu⟩:=Zb b e;exact (T5 b u hu).1 rfl
   refine ⟨_,rfl,⟨hS.os,hS.tape,hS.output,hS.size,λ k De _ hn=>hS.block k De λ e=>?_,λ k u cur T y hm De Fz=>?_,λ k cur T y hm _ Fz=>by
    obtain rfl:=List.mem_singleton.1 hm
    exact ⟨cur,y,FW.trans Fz,rfl⟩⟩,?_⟩
   ·obtain ⟨u,hu⟩:=Zb k e;exact hn u (by rw [hu];exact List.mem_singleton.2 rfl)
   ·have hqk:q=some (k,u):=(List.mem_singleton.1 hm).symm;obtain ⟨z,hz⟩:=hS.row k cur T y (by rw [hqk];rfl) Fz;exact ⟨cur,z,hz,rfl,λ _ _=>rfl⟩
   ·refine ⟨λ _=>none,λ j g u hj=>(nomatch hj),λ j k g u u' hj _=>(nomatch hj),⟨⟨[p,sl],Lay.bld,FW.trans hh,⟨[p],[sl],rfl,⟨p,rfl,hp⟩,?_⟩,⟨⟨?_,trivial⟩,λ _=>rfl⟩,trivial⟩,trivial⟩,[.string (ofBytes x.1.2)],rfl,rfl,trivial⟩
    ·refine hr.mono λ c o hc=>⟨.inl hc,?_⟩
     obtain ⟨h1,h2,_⟩:=hk c o hc;exact D0 c o h1 λ e=>h2 (List.mem_singleton.2 e)
    ·rcases RJ with rfl | rfl
     ·exact .inl rfl
     ·exact .inr rfl
  cases q with
  | none=>
   have Jf:sl = .slice none 0 0:=hq;subst Jf;have Fb:x.1.2=[]:=by
    obtain ⟨a,n,cap,e,DG,_⟩:=hr;cases e;exact AU DG
   refine (Zns L X b p w (by rw [<- hB];exact hh)).mono ?_;rintro e w' ⟨rfl,hb⟩;have:=key w' (StrW.MD hb _ λ k e=>by cases e);have e0:ofBytes x.1.2=⟨#[]⟩:=by rw [Fb];rfl
   rw [show Ending.returned (.string ⟨#[]⟩)=Ending.returned (.string (ofBytes x.1.2)) by rw [e0]];exact this
  | some gu=>
   obtain ⟨g,u⟩:=gu;obtain ⟨cap,cur,rfl,h1,h2,h3,h4⟩:=hq;obtain ⟨_,T4⟩:=T5 g u rfl;obtain ⟨a,n,Dr,e,DG,hn,KP,Xb⟩:=hr;cases e;by_cases hu:u=0
   ·subst hu;have Fb:x.1.2=[]:=AU DG;have Kc:∀ e w',(e=Ending.returned (.string ⟨#[]⟩)/\Below w.heap.size w w')->∃ v,e = .returned v/\BelowX ⟨w.heap.size,[b],[some (g,0)]⟩ w w'/\
      O4 ok0 w w' (No ((F9 [(.str,[]),(JD,[])] ((ofBytes x.1.2,x.1):ByteArray×(Bool×List Int))).take 1)) (Mb ([PK.io JD [(1,0)]].filter Ih) ((F9 [(.str,[]),(JD,[])] ((ofBytes x.1.2,x.1):ByteArray×(Bool×List Int))).drop 1)) [b] [some (g,0)] v:=by
     rintro e w' ⟨rfl,hb⟩;have:=key w' (StrW.MD hb _ λ k e=>by cases e;exact T4);have e0:ofBytes x.1.2=⟨#[]⟩:=by rw [Fb];rfl
     rw [show Ending.returned (.string ⟨#[]⟩)=Ending.returned (.string (ofBytes x.1.2)) by rw [e0]];exact this
    by_cases hc:cap=0
    ·subst hc;exact (Zvr L X b g p cur w (by rw [<- hB];exact hh) _ (by rw [<- hY];exact h1)).mono Kc
    ·exact (Zhs L X b g cap p w hc (by rw [<- hB];exact hh)).mono Kc
   ·have hlen:(x.1.2.map λ n=>UInt8.ofNat n.toNat).length=u:=by rw [Av];exact DG
    have Ii:∀ (j:Nat) n,x.1.2[j]? = some n->w.cell? ⟨g,j,none⟩=some (.int .u8 n):=λ j n hj=>by
     obtain ⟨A,hA,_,ys,hy,hc⟩:=Xb j n hj;cases hA;simp only [RepD] at hy;subst hy;have:=(hc 0 _ rfl).2;simpa [Ty.sz] using this
    have Xzh:∀ (j:Nat) (n:Int),x.1.2[j]? = some n->0<=n/\n<256:=λ j n hj=>by
     have:=List.all_eq_true.1 ML n (List.mem_of_getElem? hj);unfold isByte at this;rw [Bool.and_eq_true] at this;exact ⟨Az this.1,Az this.2⟩
    refine (Zgs L X b p (x.1.2.map λ n=>UInt8.ofNat n.toNat) g cap cur (0,0) w (λ e=>by rw [e] at hlen;exact hu hlen.symm) (by rw [hlen,<- hB];exact hh) (by rw [<- hY];exact h1) Ad h4 h2 λ j z hz=>?_).mono ?_
    ·rw [List.getElem?_map] at hz;obtain ⟨n,JH,Mi⟩:=Option.map_eq_some_iff.1 hz;rw [IN _ rfl];show w.cell? ⟨g,0+j,none⟩=_;rw [AF,Ii j n JH,<- Mi];have:=Xzh j n JH;congr 2;show n=((UInt8.ofNat n.toNat).toNat:Int);exact (Xje this).symm
    ·rintro e w' ⟨rfl,rfl⟩;exact key _ (StrW.freeze T4)
 ·cases hs
end
end Go.AM
