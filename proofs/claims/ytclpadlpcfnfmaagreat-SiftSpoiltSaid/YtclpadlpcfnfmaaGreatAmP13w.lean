import Derived.Test.YtclpadlpcfnfmaaGreatAmP13q
section
/- The program's Takes come to something, whatever the bytes are: numbers. -/
namespace Go.AM.Pure
open Go.AM
def LI (r:List Int×Int):Prop:=r.1.length<=65536/\∀ x∈r.1,BN x
theorem LI.nil (e:Int):LI ([],e):=⟨Nat.zero_le _,λ x hx=>by cases hx⟩
theorem M9 (s:ByteArray):Br (F5 s) (VT s):=by
 rw [PH];exact ZO s
theorem N5 {s:ByteArray} {x:Int} (h0:0<=x) (h1:x<=s.size):(cutS s x (s.size:Int)).size=s.size-x.toNat:=by
 obtain ⟨k,rfl⟩:∃ k:Nat,x=k:=⟨x.toNat,Ad⟩;exact Sw s k s.size (Au _)
def PT (s:ByteArray) (n w:Int) (r:List Int×Int):Prop:=(r.2=0/\0<=w/\w<=64/\r.1=(List.range n.toNat).map λ k=>Ga s k w.toNat)\/(r.2≠0/\r.1=[])
theorem PT.li {s:ByteArray} {n w:Int} {r:List Int×Int} (h:PT s n w r) (hn:n<=65536):LI r:=by
 obtain ⟨l,e⟩:=r;rcases h with ⟨_,_,_,h⟩ | ⟨_,h⟩
 ·have h:l=_:=h;subst h;refine ⟨by rw [Av,List.length_range];omega,λ x hx=>?_⟩;obtain ⟨k,_,rfl⟩:=List.mem_map.1 hx;exact Kr _
 ·have h:l=[]:=h;subst h;exact LI.nil e
theorem PT.len {s:ByteArray} {n w:Int} {r:List Int×Int} (h:PT s n w r) (h0:r.2=0):r.1.length=n.toNat:=by
 rcases h with ⟨_,_,_,h⟩ | ⟨h,_⟩
 ·rw [h,Av,List.length_range]
 ·exact absurd h0 h
theorem P5 (s:ByteArray) {n:Int} (w:Int) (h0:0<=n) (hn:n<=65536):Br (Dd s n w) (PT s n w):=by
 by_cases hw:0<=w/\w<=64
 ·obtain ⟨k,rfl⟩:∃ k:Nat,n=k:=⟨n.toNat,Ad⟩;obtain ⟨v,rfl⟩:∃ v:Nat,w=v:=⟨w.toNat,Ad⟩;refine ZY (gn s Ad Ad) ?_;split
  ·split
   ·exact .inl ⟨rfl,Ad,Ad,rfl⟩
   ·exact .inr ⟨Af,rfl⟩
  ·exact .inr ⟨Af,rfl⟩
 ·show Br (Dd.S (Dd.t0 fu) s n w) _;unfold Dd.S;refine B6 (λ _=>Bp (.inr ⟨Af,rfl⟩)) λ _=>B6 (λ _=>Bp (.inr ⟨Af,rfl⟩)) λ _=>?_
  omega
theorem Zc3 (s:ByteArray) (n:Int) (hs:s.size<=65536):Br (C5 s n) LI:=by
 by_cases hn:0<=n/\(s.size:Int)=8*n
 ·obtain ⟨k,rfl⟩:∃ k:Nat,n=k:=⟨n.toNat,Ad⟩;refine ZY (fO s (n:=k) Ad Ad) ⟨by rw [Av,List.length_range];omega,λ x hx=>?_⟩;obtain ⟨j,_,rfl⟩:=List.mem_map.1 hx;exact Kr _
 ·show Br (C5.S (C5.l0 fu) s n) _;unfold C5.S;rw [Cc,eg,YB _ Ad];refine B6 (λ _=>Bp (LI.nil _)) λ _=>EA (λ _=>Bp (LI.nil _)) λ _=>EA (λ _=>Bp (LI.nil _)) λ _=>?_
  omega
def Qr (o:List C2):Prop:=(BQ o).length<=65536/\∀ i (h:i<o.length),o[i].2.1=((BQ (o.take i)).length:Int)/\1<=o[i].2.2
theorem Qr.nil:Qr []:=⟨Nat.zero_le _,λ i h=>by simp at h⟩
theorem tj (o:List C2) (i:Nat):(BQ (o.take i)).length<=(BQ o).length:=by
 have:BQ o=BQ (o.take i)++BQ (o.drop i):=by rw [<- IV,List.take_append_drop]
 rw [this,Ap];omega
theorem jj {o:List C2} {i:Nat} (h:i<o.length):(BQ (o.take (i+1))).length=(BQ (o.take i)).length+o[i].2.2.toNat:=by
 rw [take_one h,IV,JV,Ap,AO]
theorem Qr.snoc {o:List C2} (h:Qr o) {r:C2} (h1:r.2.1=((BQ o).length:Int)) (h2:1<=r.2.2) (h3:(BQ o).length+r.2.2.toNat<=65536):Qr (o++[r]):=by
 refine ⟨by rw [IV,JV,Ap,AO];exact h3,λ i hi=>?_⟩;rw [Ap,AN] at hi;rcases Nat.lt_or_ge i o.length with AY | Kf
 ·rw [List.getElem_append_left AY,List.take_append_of_le_length Ad];exact h.2 i AY
 ·have:i=o.length:=Ad
  subst this;rw [List.getElem_append_right (Au _),List.take_append_of_le_length (Au _),AB];simpa using ⟨h1,h2⟩
theorem Qr.len {o:List C2} (h:Qr o):∀ i,i<=o.length->i<=(BQ (o.take i)).length
 | 0,_=>Nat.zero_le _
 | i+1,hi=>by
  have h1:=Qr.len h i Ad;have h2:=(h.2 i Ad).2;rw [jj Ad];omega
theorem Qr.KE {o:List C2} (h:Qr o):o.length<=65536:=by
 have:=h.len o.length (Au _);rw [AB] at this;have:=h.1;omega
theorem tk {o:List C2} {i:Nat} (h0:0<i) (h:i<=o.length):K7 none (o.take i)=some (o[i-1]'Ad).1:=by
 have h1:i-1<o.length:=Ad
 have:=take_one h1;rw [show i-1+1=i by omega] at this;rw [this,PV]
theorem vZ {o:List C2} {i:Nat} (hi:i<o.length) (h:Qr o) (k:Df 0 none (o.take i)) (Cg:0<i->o[i].1≠(o[i-1]'Ad).1):Df 0 none (o.take (i+1)):=by
 rw [take_one hi,P9];refine ⟨k,by rw [(h.2 i hi).1];omega,(h.2 i hi).2,λ he=>?_,trivial⟩;rcases Nat.eq_zero_or_pos i with h0 | h0
 ·subst h0;cases he
 ·rw [tk h0 Ad] at he;exact Cg h0 (Option.some.inj he).symm
theorem iy (o:List C2) (h:Qr o):Br (E4 o) λ r=>r.2=true->Df 0 none o/\r.1=((BQ o).length:Int):=by
 have Gg:=h.KE;have hl:=h.1;have main:∀ (d i n:Nat),d=o.length-i->i<=o.length->d<n->Df 0 none (o.take i)->Br (E4.l0 n o ((BQ (o.take i)).length:Int) o (o.length:Int) (i:Int)) λ r=>r.2=true->Df 0 none o/\r.1=((BQ o).length:Int):=by
  intro d;induction d with
  | zero=>
   intro i n hd hi hn hk;obtain ⟨n,rfl⟩:=Aa n;show Br (E4.S0 _ _ _ _ _ _) _;unfold E4.S0;have:i=o.length:=Ad
   subst this;rw [AB] at hk ⊢;exact B6 (λ _=>by omega) λ _=>Bp λ _=>⟨hk,rfl⟩
  | succ d ih=>
   intro i n hd hi hn hk;obtain ⟨n,rfl⟩:=Aa n;have AY:i<o.length:=Ad
   obtain ⟨k1,k2⟩:=h.2 i AY;have k3:=jj AY;have k4:=tj o (i+1);show Br (E4.S0 (E4.l0 n) _ _ _ _ _) _;unfold E4.S0;rw [Ba,BE AY,CA,Bk (a:=((BQ (o.take i)).length:Int)) Ad,Bk (a:=(i:Int)) Ad,CA];have go:(0<i->o[i].1≠(o[i-1]'Ad).1)->Br (E4.l0 n o (((BQ (o.take i)).length:Int)+o[i].2.2) o (o.length:Int) ((i:Int)+1)) λ r=>r.2=true->Df 0 none o/\r.1=((BQ o).length:Int):=λ Cg=>by
    have:=ih (i+1) n Ad Ad Ad (vZ AY h hk Cg);rw [k3] at this;rw [show ((BQ (o.take i)).length:Int)+o[i].2.2=(((BQ (o.take i)).length+o[i].2.2.toNat:Nat):Int) by omega];exact this
   refine B6 (λ _=>CW Ad (EA (λ e=>absurd k1 e) λ _=>B6 (λ _=>by omega) λ _=>B6 (λ _=>by omega) λ _=>B6 (λ h0=>?_) λ h0=>go λ h1=>by omega)) λ _=>by omega
   have JB:i-1<o.length:=Ad
   rw [show (i:Int)-1=((i-1:Nat):Int) by omega,BE JB];exact CW Ad (Fq (λ _=>Bp λ h=>by cases h) λ Cg=>go λ _=>Cg)
 exact main o.length 0 fu Ad Ad Ae trivial
def RT (n:Int) (r:List C2×Int):Prop:=(∀ x∈r.1,BN x.1)/\(r.2=0->Df 0 none r.1/\((BQ r.1).length:Int)=n)
theorem Z1 (s:ByteArray) {n:Int} (h0:0<=n) (hn:n<=65536) (hs:s.size<=65536):Br (Cw s n) (RT n):=by
 have R8:RT n ([],20):=⟨(λ x hx=>by cases hx),λ h=>by cases h⟩;have main:∀ (m k:Nat) (s:ByteArray) (o:List C2),s.size<=m->m<=65536->m<k->Qr o->((BQ o).length:Int)<=n->(∀ x∈o,BN x.1)->Br (Cw.l0 (Cw.t1 fu) k s n o ((BQ o).length:Int)) (RT n):=by
  intro m;induction m with
  | zero=>
   intro k s o hs hm hk hq OD BH;obtain ⟨k,rfl⟩:=Aa k;show Br (Cw.S0 Cw.S1 _ _ _ _ _) _;unfold Cw.S0;have he:s=eB:=Gx.2 Ad;refine Ia (I9 (λ _=>?_) λ h=>absurd he h);unfold Cw.S1;refine CY _ (iy o hq) λ r hr=>Ia (IA (λ hb=>EA (λ _=>Bp R8) λ qz=>Bp ⟨BH,λ _=>⟨(hr hb).1,qz⟩⟩) λ _=>Bp R8)
  | succ m ih=>
   intro k s o hs hm hk hq OD BH;obtain ⟨k,rfl⟩:=Aa k;show Br (Cw.S0 Cw.S1 (Cw.l0 (Cw.t1 fu) k) _ _ _ _) _;unfold Cw.S0;have Gg:=hq.KE;have VM:=hq.1;refine Ia (I9 (λ _=>?_) λ Cg=>?_)
   ·unfold Cw.S1;refine CY _ (iy o hq) λ r hr=>Ia (IA (λ hb=>EA (λ _=>Bp R8) λ qz=>Bp ⟨BH,λ _=>⟨(hr hb).1,qz⟩⟩) λ _=>Bp R8)
   ·rw [Cc];refine CY _ (M9 s) λ r hr=>EA (λ _=>Bp R8) λ Hb=>?_
    obtain ⟨_,r1,r2,r3⟩:=hr.resolve_right λ h=>h.1 Hb
    refine FJ Ad (CY _ (M9 _) λ q hqq=>EA (λ _=>Bp R8) λ VL=>?_);obtain ⟨_,q1,q2,q3⟩:=hqq.resolve_right λ h=>h.1 VL
    rw [N5 Ad r2] at q2;refine B6 (λ _=>Bp R8) λ c1=>?_
    rw [CA];refine B6 (λ _=>Bp R8) λ c2=>H9 Ad ?_
    rw [Bk,Bk];refine FJ Ad ?_;have CM:=N5 (s:=s) (x:=r.2.1+q.2.1) Ad Ad
    have:=ih k (cutS s (r.2.1+q.2.1) (s.size:Int)) (o++[(r.1,((BQ o).length:Int),q.1)]) Ad Ad Ad (hq.snoc rfl c1 (by show (BQ o).length+q.1.toNat<=_;omega)) (by rw [IV,JV,Ap,AO];show (((BQ o).length+q.1.toNat:Nat):Int)<=n;omega) (λ x hx=>by
     rcases List.mem_append.1 hx with hx | hx
     ·exact BH x hx
     ·rw [List.mem_singleton.1 hx];exact r3)
    rw [IV,JV,Ap,AO] at this;rw [show ((BQ o).length:Int)+q.1=(((BQ o).length+q.1.toNat:Nat):Int) by omega];exact this
 show Br (Cw.S (Cw.l0 (Cw.t1 fu) fu) s n) _;unfold Cw.S;refine B6 (λ _=>by omega) λ _=>B6 (λ _=>by omega) λ _=>?_
 exact main s.size fu s [] (Au _) hs Ae Qr.nil (by show (0:Int)<=n;exact h0) (λ x hx=>by cases hx)
theorem Zbz {o:List C2} (h:∀ x∈o,BN x.1):∀ y∈BQ o,BN y:=λ y hy=>by
 unfold BQ at hy;obtain ⟨r,hr,hy⟩:=List.mem_flatMap.1 hy;rw [(List.mem_replicate.1 hy).2];exact h r hr
end Go.AM.Pure
end

section
/- The program's Takes come to something, whatever the bytes are: frames, dictionaries, texts. -/
namespace Go.AM.Pure
open Go.AM
theorem Rt:BN 0:=⟨Ad,Ad⟩
theorem VT.all {s:ByteArray} {r:Int×Int×Int} (h:VT s r):BN r.1/\0<=r.2.1/\r.2.1<=(s.size:Int):=by
 rcases h with ⟨_,h1,h2,h3⟩ | ⟨_,h1,h2⟩
 ·exact ⟨h3,Ad,h2⟩
 ·rw [h1,h2];exact ⟨Rt,Int.le_refl _,Ad⟩
theorem tq (s:ByteArray) (b:Bool):Br (Kp s b) λ r=>BN r.1/\r.2.1.size<=s.size:=by
 unfold Kp;refine CY _ (M9 s) λ r hr=>?_
 obtain ⟨h1,h2,h3⟩:=hr.all;have hc:=N5 h2 h3;rw [Cc];exact IA (λ _=>FJ Ad (Bp ⟨h1,by show (cutS s r.2.1 (s.size:Int)).size<=_;omega⟩)) λ _=>FJ Ad (Bp ⟨h1,by show (cutS s r.2.1 (s.size:Int)).size<=_;omega⟩)
theorem r9 (l:List Int) (hl:l.length<=65536):Br (Ut l) λ _=>True:=by
 obtain ⟨v,h1,h2,_⟩:=Sf (D6 l) (by rw [PS];omega);exact ZY (ZC l hl h1 h2) trivial
theorem gN (s:ByteArray) (l:List Int) (b:Bool) (h:LI (l,0)):Br (BV.S2 s l b) LI:=by
 unfold BV.S2;refine CY _ (r9 l h.1) λ r _=>IA (λ _=>Bp (LI.nil _)) λ _=>EA (λ _=>Bp (LI.nil _)) λ _=>Ia (I9 (λ _=>Bp h) λ _=>Bp (LI.nil _))
theorem Zaz (s:ByteArray) (m:Int) (w:List Int) (hw:w.length<=65536) (b:Bool) (k:Nat):∀ (d i n:Nat) (o:List Int),d=w.length-i->i<=w.length->d<n->0<o.length->o.length+(w.length-i)<=65536->(∀ x∈o,BN x)->
  Br (BV.l1 (BV.t2 (k+1)) n s o m w (w.length:Int) (i:Int) b) LI:=by
 intro d;induction d with
 | zero=>
  intro i n o hd hi hn h0 hl BH;obtain ⟨n,rfl⟩:=Aa n;show Br (BV.S1 _ _ _ _ _ _ _ _ _) _;unfold BV.S1;exact B6 (λ _=>by omega) λ _=>gN s o b ⟨by show o.length<=_;omega,BH⟩
 | succ d ih=>
  intro i n o hd hi hn h0 hl BH;obtain ⟨n,rfl⟩:=Aa n;show Br (BV.S1 _ (BV.l1 (BV.t2 (k+1)) n) _ _ _ _ _ _ _) _;unfold BV.S1;rw [Ba,Ba,CA,Bk];refine B6 (λ _=>CW Ad (CW Ad (H9 Ad (ih (i+1) n _ Ad Ad Ad Ah (by rw [Ap,AN];omega) λ x hx=>?_)))) λ _=>by omega
  rcases List.mem_append.1 hx with hx | hx
  ·exact BH x hx
  ·rw [List.mem_singleton.1 hx];exact Kr _
theorem Zy2 (s:ByteArray) {n:Int} (hn:n<=65536):Br (BV s n) LI:=by
 show Br (BV.S (BV.t0 (18446744073709551613+1+1+1)) s n) _;unfold BV.S;refine B6 (λ _=>Bp (LI.nil _)) λ _=>B6 (λ _=>Bp (LI.nil _)) λ _=>B6 (λ h0=>CY _ (tq s false) λ r hr=>?_) λ h0=>?_
 ·show Br (BV.S0 (BV.l1 (BV.t2 (18446744073709551613+1+1)) (18446744073709551613+1+1)) (BV.t2 (18446744073709551613+1+1)) s n [r.1] r.2.1 r.2.2) _;unfold BV.S0;have h1:∀ x∈[r.1],BN x:=λ x hx=>by rw [List.mem_singleton.1 hx];exact hr.1
  refine B6 (λ JH=>CY _ (tq _ _) λ q hq=>IA (λ _=>Bp (LI.nil _)) λ _=>I9 (λ _=>Bp (LI.nil _)) λ Cg=>?_) λ _=>gN s _ _ ⟨by show 1<=65536;omega,h1⟩
  have BL:0<q.2.1.size:=by
   rcases Nat.eq_zero_or_pos q.2.1.size with h | h
   ·exact absurd (Gx.2 h) Cg
   ·exact h
  rw [Cc,CA];refine FJ Ad (CW Ad (CY _ (P5 _ _ Ad Ad) λ z hz=>EA (λ _=>Bp (LI.nil _)) λ FZ=>?_));have R6:=hz.len FZ;rw [Ba];exact Zaz s _ z.1 Ad _ _ z.1.length 0 _ [r.1] Ad Ad Ad Ah (by rw [AN];omega) h1
 ·show Br (BV.S0 _ (BV.t2 (18446744073709551613+1+1)) s n [] s false) _;unfold BV.S0;exact B6 (λ _=>by omega) λ _=>gN s _ _ (LI.nil 0)
theorem Yud (s:ByteArray):Br (T9 s) λ r=>BN r.1/\0<=r.2/\r.2<=(s.size:Int):=by
 unfold T9;refine CY _ (M9 s) λ r hr=>EA (λ _=>Bp ⟨Rt,Int.le_refl _,by show (0:Int)<=_;omega⟩) λ _=>Bp hr.all
theorem rU (l:List Bool) (hl:l.length<=65536) (v:Bool):Br (PF l v) λ _=>True:=by
 have main:∀ (d i n:Nat),d=l.length-i->i<=l.length->d<n->Br (FA.l0 n l v (l.length:Int) (i:Int)) λ _=>True:=by
  intro d;induction d with
  | zero=>
   intro i n hd hi hn;obtain ⟨n,rfl⟩:=Aa n;show Br (FA.S0 _ _ _ _ _) _;unfold FA.S0;exact B6 (λ _=>by omega) λ _=>Bp trivial
  | succ d ih=>
   intro i n hd hi hn;obtain ⟨n,rfl⟩:=Aa n;show Br (FA.S0 (FA.l0 n) _ _ _ _) _;unfold FA.S0;rw [Ba,Bk];exact B6 (λ _=>CW Ad (IA (λ _=>Bp trivial) λ _=>ih (i+1) n Ad Ad Ad)) λ _=>by omega
 unfold PF;exact CY _ (main l.length 0 fu Ad Ad Ae) λ _ _=>Bp trivial
def DT {α:Type} (ok:α->Prop) (r:List α×List Int×Int):Prop:=r.2.2=0->r.1.length<=65536/\(∀ x∈r.1,ok x)/\r.2.1.length<=65536/\∀ p∈r.2.1,0<=p/\p<(r.1.length:Int)
theorem DT.no {α:Type} {ok:α->Prop} {e:Int} (h:e≠0):DT ok (([]:List α),([]:List Int),e):=λ h0=>absurd h0 h
theorem Zz2 (k:Nat) {D:List Int} (hD:∀ x∈D,BN x) (hk:D.length<=65536) (p:List Int) (hp:p.length<=65536):∀ (d i n:Nat) (z:List Bool),d=p.length-i->i<=p.length->d<n->z.length=D.length->(∀ j (h:j<p.length),j<i->0<=p[j]/\p[j]<(D.length:Int))->
  Br (BZ.l2 (BZ.t3 (k+1)) n (D.length:Int) D p p (p.length:Int) (i:Int) z) (DT BN):=by
 intro d;induction d with
 | zero=>
  intro i n z hd hi hn hz Mg;obtain ⟨n,rfl⟩:=Aa n;show Br (BZ.S2 BZ.S3 _ _ _ _ _ _ _ _) _;unfold BZ.S2;refine B6 (λ _=>by omega) λ _=>?_
  unfold BZ.S3;refine CY _ (rU z Ad false) λ b _=>IA (λ _=>Bp (DT.no Af)) λ _=>Bp λ _=>⟨hk,hD,hp,λ x hx=>?_⟩
  obtain ⟨j,hj,rfl⟩:=List.getElem_of_mem hx;have R7:j<p.length:=hj;exact Mg j R7 Ad
 | succ d ih=>
  intro i n z hd hi hn hz Mg;obtain ⟨n,rfl⟩:=Aa n;have AY:i<p.length:=Ad
  show Br (BZ.S2 _ (BZ.l2 (BZ.t3 (k+1)) n) _ _ _ _ _ _ _) _;unfold BZ.S2;rw [Ba,Ba,Bk,BE AY];refine B6 (λ _=>CW Ad (B6 (λ _=>Bp (DT.no Af)) λ c1=>MG (λ _=>Bp (DT.no Af)) λ c2=>CW Ad (ih (i+1) n _ Ad Ad Ad (by rw [List.length_set];exact hz) λ j hj Oz=>?_))) λ _=>by omega
  rcases Nat.lt_or_ge j i with h | h
  ·exact Mg j hj h
  ·have:j=i:=Ad
   subst this;exact ⟨c1,c2⟩
theorem Za3 (s:ByteArray) {n:Int} (h0:0<=n) (hn:n<=65536) (hs:s.size<=65536):Br (BZ s n) (DT BN):=by
 have Kj:∀ {e:Int},e≠0->DT BN (([]:List Int),([]:List Int),e):=λ h=>DT.no h
 have main:∀ (f:Nat) (K:Int),1<=K->K<=n->70000<f->∀ (d i m:Nat) (at':Int) (o:List Int),(d:Int)=K-i->(i:Int)<=K->d<m->0<=at'->at'<=s.size->o.length=i->(∀ x∈o,BN x)->
   Br (BZ.l0 (BZ.t1 (f+1+1)) m s n K at' o K (i:Int)) (DT BN):=by
  intro f K eY qw hf d;induction d with
  | zero=>
   intro i m a o hd hi hm NM Kg ho BH;obtain ⟨m,rfl⟩:=Aa m;show Br (BZ.S0 (BZ.S1 (BZ.l2 (BZ.t3 (f+1)) (f+1))) _ _ _ _ _ _ _ _) _;unfold BZ.S0;refine B6 (λ _=>by omega) λ _=>?_
   unfold BZ.S1;obtain ⟨v,v1,v2,_⟩:=Sf [K-1] Ah;have qy:K=(o.length:Int):=by omega
   rw [Cc,CA];refine FJ Ad (Jl v1 (CY _ (P5 _ _ h0 hn) λ z hz=>EA (λ _=>Bp (Kj Af)) λ FZ=>?_));have R6:=hz.len FZ;rw [CH,AH,Ba];refine H9 Ad ?_;rw [qy];exact Zz2 _ BH Ad z.1 Ad z.1.length 0 _ _ Ad Ad Ad (by rw [AO,Int.toNat_natCast]) (λ j _ h=>by omega)
  | succ d ih=>
   intro i m a o hd hi hm NM Kg ho BH;obtain ⟨m,rfl⟩:=Aa m;show Br (BZ.S0 _ (BZ.l0 (BZ.t1 (f+1+1)) m) _ _ _ _ _ _ _) _;unfold BZ.S0;have hc:=N5 NM Kg;rw [Cc];refine B6 (λ _=>FJ Ad (CY _ (Yud _) λ r hr=>Fq (λ _=>Bp (Kj Af)) λ Hb=>?_)) λ _=>by omega
   obtain ⟨r1,r2,r3⟩:=hr;rw [Ba,CA,Bk (a:=a) Ad,Bk (a:=(i:Int)) Ad];have next:Br (BZ.l0 (BZ.t1 (f+1+1)) m s n K (a+r.2) (o++[r.1]) K ((i:Int)+1)) (DT BN):=by
    refine ih (i+1) m (a+r.2) (o++[r.1]) Ad Ad Ad Ad Ad (by rw [Ap,ho];rfl) λ x hx=>?_
    rcases List.mem_append.1 hx with hx | hx
    ·exact BH x hx
    ·rw [List.mem_singleton.1 hx];exact r1
   exact B6 (λ _=>CW Ad (MG (λ _=>Bp (Kj Af)) λ _=>H9 Ad next)) λ _=>H9 Ad next
 show Br (BZ.S (BZ.l0 (BZ.t1 (18446744073709551614+1+1)) (18446744073709551614+1+1)) s n) _;unfold BZ.S;refine B6 (λ _=>by omega) λ _=>B6 (λ _=>by omega) λ _=>Fq (λ _=>Ia (I9 (λ _=>Bp λ _=>⟨Nat.zero_le _,(λ x hx=>by cases hx),Nat.zero_le _,λ x hx=>by cases hx⟩) λ _=>Bp (Kj Af))) λ _=>?_
 refine CY _ (M9 s) λ r hr=>EA (λ _=>Bp (Kj Af)) λ Hb=>B6 (λ _=>Bp (Kj Af)) λ c1=>B6 (λ _=>Bp (Kj Af)) λ c2=>?_
 obtain ⟨_,r2,r3⟩:=hr.all;exact main 18446744073709551614 r.1 c1 c2 Ad r.1.toNat 0 _ r.2.1 [] Ad Ad Ad r2 r3 rfl (λ x hx=>by cases hx)
theorem Zb3 {D p:List Int} (hp:p.length<=65536) (hD:∀ x∈D,BN x) (Mg:∀ x∈p,0<=x/\x<(D.length:Int)):Br (FD D p) λ r=>LI (r,0):=by
 have main:∀ (d i n:Nat) (o:List Int),d=p.length-i->i<=p.length->d<n->o.length=i->(∀ x∈o,BN x)->Br (FD.l0 n D o p (p.length:Int) (i:Int)) λ r=>LI (r,0):=by
  intro d;induction d with
  | zero=>
   intro i n o hd hi hn ho BH;obtain ⟨n,rfl⟩:=Aa n;show Br (FD.S0 _ _ _ _ _ _) _;unfold FD.S0;exact B6 (λ _=>by omega) λ _=>Bp ⟨by show o.length<=_;omega,BH⟩
  | succ d ih=>
   intro i n o hd hi hn ho BH;obtain ⟨n,rfl⟩:=Aa n;have AY:i<p.length:=Ad
   obtain ⟨b1,b2⟩:=Mg p[i] (Ay AY);show Br (FD.S0 (FD.l0 n) _ _ _ _ _) _;unfold FD.S0;rw [Ba,Ba,BE AY,Bk];refine B6 (λ _=>CW Ad (CW Ad (H9 Ad (ih (i+1) n _ Ad Ad Ad (by rw [Ap,ho];rfl) λ x hx=>?_)))) λ _=>by omega
   rcases List.mem_append.1 hx with hx | hx
   ·exact BH x hx
   ·rw [List.mem_singleton.1 hx];obtain ⟨q,hq⟩:∃ q:Nat,p[i]=q:=⟨p[i].toNat,Ad⟩;rw [hq,BE Ad];exact hD _ (Ay _)
 exact main p.length 0 fu [] Ad Ad Ae rfl λ x hx=>by cases hx
theorem Ztu (s:ByteArray) {n:Int} (h0:0<=n) (hn:n<=65536) (hs:s.size<=65536):Br (QZ s n) LI:=by
 unfold QZ;refine CY _ (Za3 s h0 hn hs) λ r hr=>EA (λ _=>Bp (LI.nil _)) λ h=>?_
 obtain ⟨_,h2,h3,h4⟩:=hr h;exact CY _ (Zb3 h3 h2 h4) λ q hq=>Bp hq
theorem rS (s:ByteArray) {n:Int} (code:Int) (h0:0<=n) (hn:n<=65536) (hs:s.size<=65536):Br (PO s n code) LI:=by
 unfold PO;refine Fq (λ _=>CY _ (Zc3 s n hs) λ r hr=>Bp hr) λ _=>Fq (λ _=>CY _ (Z1 s h0 hn hs) λ r hr=>EA (λ _=>Bp (LI.nil _)) λ he=>?_) λ _=>Fq (λ _=>CY _ (Zy2 s hn) λ r hr=>Bp hr) λ _=>
  Fq (λ _=>CY _ (Ztu s h0 hn hs) λ r hr=>Bp hr) λ _=>Fq (λ _=>Ia (I9 (λ _=>Bp (LI.nil _)) λ Cg=>?_)) λ _=>Bp (LI.nil _)
 ·obtain ⟨k1,k2⟩:=hr.2 he;exact Jl (Wg r.1 k1 Ad) (Bp ⟨by show (BQ r.1).length<=_;omega,Zbz hr.1⟩)
 ·have BL:0<s.size:=by
   rcases Nat.eq_zero_or_pos s.size with h | h
   ·exact absurd (Gx.2 h) Cg
   ·exact h
  rw [Cc];exact FJ Ad (CW Ad (CY _ (P5 _ _ h0 hn) λ r hr=>Bp (hr.li hn)))
end Go.AM.Pure
end

section
/- The program's read of a block comes to something, whatever the bytes are; what it takes is put as these bytes. -/
namespace Go.AM.Pure
open Go.AM
def LT (r:List ByteArray×Int):Prop:=r.1.length<=65536
theorem LT.nil (e:Int):LT ([],e):=Nat.zero_le _
theorem Zxy (s:ByteArray) (n:Int) (hs:s.size<=65536):Br (Dm s n) LT:=by
 have fin:∀ o:List ByteArray,o.length<=65536->Br (Dm.S1 n o) LT:=λ o ho=>by
  unfold Dm.S1;exact EA (λ _=>Bp (LT.nil _)) λ _=>Bp ho
 have main:∀ (m k:Nat) (t:ByteArray) (o:List ByteArray),t.size<=m->m<k->o.length+m<=65536->Br (Dm.l0 (Dm.t1 fu) k t n o) LT:=by
  intro m;induction m with
  | zero=>
   intro k t o ht hk ho;obtain ⟨k,rfl⟩:=Aa k;show Br (Dm.S0 Dm.S1 _ _ _ _) _;unfold Dm.S0;have he:t=eB:=Gx.2 Ad;exact Ia (I9 (λ _=>fin o Ad) λ h=>absurd he h)
  | succ m ih=>
   intro k t o ht hk ho;obtain ⟨k,rfl⟩:=Aa k;show Br (Dm.S0 Dm.S1 (Dm.l0 (Dm.t1 fu) k) _ _ _) _;unfold Dm.S0;refine Ia (I9 (λ _=>fin o Ad) λ Cg=>?_);have BL:0<t.size:=by
    rcases Nat.eq_zero_or_pos t.size with h | h
    ·exact absurd (Gx.2 h) Cg
    ·exact h
   obtain ⟨b0,b1⟩:=Jm t 0;rw [Mz,Cc];refine CW Ad (B6 (λ _=>Bp (LT.nil _)) λ _=>MG (λ _=>Bp (LT.nil _)) λ c2=>?_);rw [Bk];have hc:=N5 (s:=t) (x:=1+byteAt t 0) Ad Ad;exact FJ Ad (H9 Ad (FJ Ad (ih k _ _ Ad Ad (by rw [Ap,AN];omega))))
 exact main s.size fu s [] (Au _) Ae (by show 0+s.size<=_;omega)
theorem Zv2 (s:ByteArray) (hs:s.size<=65536):Br (Ub s) λ r=>0<=r.2/\r.2<=(s.size:Int):=by
 unfold Ub;have z:(0:Int)<=0/\(0:Int)<=(s.size:Int):=⟨Int.le_refl _,Ad⟩;refine I9 (λ _=>Bp z) λ Cg=>?_
 have BL:0<s.size:=by
  rcases Nat.eq_zero_or_pos s.size with h | h
  ·exact absurd (Gx.2 h) Cg
  ·exact h
 obtain ⟨b0,b1⟩:=Jm s 0;rw [Mz,Cc];refine CW Ad (B6 (λ _=>Bp z) λ _=>MG (λ _=>Bp z) λ c2=>?_);rw [Bk];exact FJ Ad (Bp ⟨by show 0<=1+byteAt s 0;omega,by show 1+byteAt s 0<=_;omega⟩)
theorem Zyy (k:Nat) {D:List ByteArray} (hk:D.length<=65536) (p:List Int) (hp:p.length<=65536):∀ (d i n:Nat) (z:List Bool),d=p.length-i->i<=p.length->d<n->z.length=D.length->(∀ j (h:j<p.length),j<i->0<=p[j]/\p[j]<(D.length:Int))->
  Br (BX.l2 (BX.t3 (k+1)) n (D.length:Int) D p p (p.length:Int) (i:Int) z) (DT λ _=>True):=by
 intro d;induction d with
 | zero=>
  intro i n z hd hi hn hz Mg;obtain ⟨n,rfl⟩:=Aa n;show Br (BX.S2 BX.S3 _ _ _ _ _ _ _ _) _;unfold BX.S2;refine B6 (λ _=>by omega) λ _=>?_
  unfold BX.S3;refine CY _ (rU z Ad false) λ b _=>IA (λ _=>Bp (DT.no Af)) λ _=>Bp λ _=>⟨hk,λ _ _=>trivial,hp,λ x hx=>?_⟩
  obtain ⟨j,hj,rfl⟩:=List.getElem_of_mem hx;have R7:j<p.length:=hj;exact Mg j R7 Ad
 | succ d ih=>
  intro i n z hd hi hn hz Mg;obtain ⟨n,rfl⟩:=Aa n;have AY:i<p.length:=Ad
  show Br (BX.S2 _ (BX.l2 (BX.t3 (k+1)) n) _ _ _ _ _ _ _) _;unfold BX.S2;rw [Ba,Ba,Bk,BE AY];refine B6 (λ _=>CW Ad (B6 (λ _=>Bp (DT.no Af)) λ c1=>MG (λ _=>Bp (DT.no Af)) λ c2=>CW Ad (ih (i+1) n _ Ad Ad Ad (by rw [List.length_set];exact hz) λ j hj Oz=>?_))) λ _=>by omega
  rcases Nat.lt_or_ge j i with h | h
  ·exact Mg j hj h
  ·have:j=i:=Ad
   subst this;exact ⟨c1,c2⟩
theorem Zzy (s:ByteArray) {n:Int} (h0:0<=n) (hn:n<=65536) (hs:s.size<=65536):Br (BX s n) (DT λ _=>True):=by
 have Kj:∀ {e:Int},e≠0->DT (λ _=>True) (([]:List ByteArray),([]:List Int),e):=λ h=>DT.no h
 have main:∀ (f:Nat) (K:Int),1<=K->K<=n->70000<f->∀ (d i m:Nat) (at':Int) (o:List ByteArray),(d:Int)=K-i->(i:Int)<=K->d<m->0<=at'->at'<=s.size->o.length=i->
   Br (BX.l0 (BX.t1 (f+1+1)) m s n K at' o K (i:Int)) (DT λ _=>True):=by
  intro f K eY qw hf d;induction d with
  | zero=>
   intro i m a o hd hi hm NM Kg ho;obtain ⟨m,rfl⟩:=Aa m;show Br (BX.S0 (BX.S1 (BX.l2 (BX.t3 (f+1)) (f+1))) _ _ _ _ _ _ _ _) _;unfold BX.S0;refine B6 (λ _=>by omega) λ _=>?_
   unfold BX.S1;obtain ⟨v,v1,v2,_⟩:=Sf [K-1] Ah;have qy:K=(o.length:Int):=by omega
   rw [Cc,CA];refine FJ Ad (Jl v1 (CY _ (P5 _ _ h0 hn) λ z hz=>EA (λ _=>Bp (Kj Af)) λ FZ=>?_));have R6:=hz.len FZ;rw [CH,AH,Ba];refine H9 Ad ?_;rw [qy];exact Zyy _ Ad z.1 Ad z.1.length 0 _ _ Ad Ad Ad (by rw [AO,Int.toNat_natCast]) (λ j _ h=>by omega)
  | succ d ih=>
   intro i m a o hd hi hm NM Kg ho;obtain ⟨m,rfl⟩:=Aa m;show Br (BX.S0 _ (BX.l0 (BX.t1 (f+1+1)) m) _ _ _ _ _ _ _) _;unfold BX.S0;have hc:=N5 NM Kg;rw [Cc];refine B6 (λ _=>FJ Ad (CY _ (Zv2 _ Ad) λ r hr=>Fq (λ _=>Bp (Kj Af)) λ Hb=>?_)) λ _=>by omega
   obtain ⟨r2,r3⟩:=hr;rw [Ba,CA,Bk (a:=a) Ad,Bk (a:=(i:Int)) Ad];have next:Br (BX.l0 (BX.t1 (f+1+1)) m s n K (a+r.2) (o++[r.1]) K ((i:Int)+1)) (DT λ _=>True):=
    ih (i+1) m (a+r.2) (o++[r.1]) Ad Ad Ad Ad Ad (by rw [Ap,ho];rfl)
   exact B6 (λ _=>CW Ad (IA (λ _=>Bp (Kj Af)) λ _=>H9 Ad next)) λ _=>H9 Ad next
 show Br (BX.S (BX.l0 (BX.t1 (18446744073709551614+1+1)) (18446744073709551614+1+1)) s n) _;unfold BX.S;refine B6 (λ _=>by omega) λ _=>B6 (λ _=>by omega) λ _=>Fq (λ _=>Ia (I9 (λ _=>Bp λ _=>⟨Nat.zero_le _,(λ x hx=>by cases hx),Nat.zero_le _,λ x hx=>by cases hx⟩) λ _=>Bp (Kj Af))) λ _=>?_
 refine CY _ (M9 s) λ r hr=>EA (λ _=>Bp (Kj Af)) λ Hb=>B6 (λ _=>Bp (Kj Af)) λ c1=>B6 (λ _=>Bp (Kj Af)) λ c2=>?_
 obtain ⟨_,r2,r3⟩:=hr.all;exact main 18446744073709551614 r.1 c1 c2 Ad r.1.toNat 0 _ r.2.1 [] Ad Ad Ad r2 r3 rfl
theorem Zw2 {D:List ByteArray} {p:List Int} (hp:p.length<=65536) (Mg:∀ x∈p,0<=x/\x<(D.length:Int)):Br (FC D p) λ r=>LT (r,0):=by
 have main:∀ (d i n:Nat) (o:List ByteArray),d=p.length-i->i<=p.length->d<n->o.length=i->Br (FC.l0 n D o p (p.length:Int) (i:Int)) λ r=>LT (r,0):=by
  intro d;induction d with
  | zero=>
   intro i n o hd hi hn ho;obtain ⟨n,rfl⟩:=Aa n;show Br (FC.S0 _ _ _ _ _ _) _;unfold FC.S0;exact B6 (λ _=>by omega) λ _=>Bp (by show o.length<=_;omega)
  | succ d ih=>
   intro i n o hd hi hn ho;obtain ⟨n,rfl⟩:=Aa n;have AY:i<p.length:=Ad
   obtain ⟨b1,b2⟩:=Mg p[i] (Ay AY);show Br (FC.S0 (FC.l0 n) _ _ _ _ _) _;unfold FC.S0;rw [Ba,Ba,BE AY,Bk];exact B6 (λ _=>CW Ad (CW Ad (H9 Ad (ih (i+1) n _ Ad Ad Ad (by rw [Ap,ho];rfl))))) λ _=>by omega
 exact main p.length 0 fu [] Ad Ad Ae rfl
theorem Znt (s:ByteArray) {n:Int} (h0:0<=n) (hn:n<=65536) (hs:s.size<=65536):Br (Ua s n) LT:=by
 unfold Ua PI;refine CY (DT λ _=>True) (CY _ (Zzy s h0 hn hs) λ r hr=>Bp hr) λ r hr=>EA (λ _=>Bp (LT.nil _)) λ h=>?_
 obtain ⟨_,_,h3,h4⟩:=hr h;exact CY _ (Zw2 h3 h4) λ q hq=>Bp hq
theorem Zhw (s:ByteArray) {n:Int} (h0:0<=n) (hn:n<=65536) (hs:s.size<=65536):Br (Co s n) LT:=by
 have last:∀ (D:List ByteArray) (p:List Int) (K:Int),K=(D.length:Int)->p.length<=65536->∀ (d i m:Nat) (o:List ByteArray),d=p.length-i->i<=p.length->d<m->o.length=i->Br (Co.l2 m K D o p (p.length:Int) (i:Int)) LT:=by
  intro D p K hK hp d;induction d with
  | zero=>
   intro i m o hd hi hm ho;obtain ⟨m,rfl⟩:=Aa m;show Br (Co.S2 _ _ _ _ _ _ _) _;unfold Co.S2;exact B6 (λ _=>by omega) λ _=>Bp (by show o.length<=_;omega)
  | succ d ih=>
   intro i m o hd hi hm ho;obtain ⟨m,rfl⟩:=Aa m;show Br (Co.S2 (Co.l2 m) _ _ _ _ _ _) _;unfold Co.S2;rw [Ba,Ba,Bk];exact B6 (λ _=>CW Ad (B6 (λ _=>Bp (LT.nil _)) λ _=>MG (λ _=>Bp (LT.nil _)) λ _=>CW Ad (H9 Ad (ih (i+1) m _ Ad Ad Ad (by rw [Ap,ho];rfl))))) λ _=>by omega
 have main:∀ (f:Nat) (K:Int),1<=K->K<=n->70000<f->∀ (d i m:Nat) (at':Int) (o:List ByteArray),(d:Int)=K-i->(i:Int)<=K->d<m->0<=at'->at'<=s.size->o.length=i->
   Br (Co.l0 (Co.t1 (f+1)) m s n K at' o K (i:Int)) LT:=by
  intro f K eY qw hf d;induction d with
  | zero=>
   intro i m a o hd hi hm NM Kg ho;obtain ⟨m,rfl⟩:=Aa m;show Br (Co.S0 (Co.S1 (Co.l2 f)) _ _ _ _ _ _ _ _) _;unfold Co.S0;refine B6 (λ _=>by omega) λ _=>?_
   unfold Co.S1;have hc:=N5 NM Kg;rw [Cc];refine FJ Ad (CY _ (Z1 _ h0 hn Ad) λ r hr=>EA (λ _=>Bp (LT.nil _)) λ he=>?_);obtain ⟨k1,k2⟩:=hr.2 he;refine Jl (Wg r.1 k1 Ad) (EA (λ _=>Bp (LT.nil _)) λ _=>?_);rw [Ba];exact last o (BQ r.1) K Ad Ad (BQ r.1).length 0 _ [] Ad Ad Ad rfl
  | succ d ih=>
   intro i m a o hd hi hm NM Kg ho;obtain ⟨m,rfl⟩:=Aa m;obtain ⟨b0,b1⟩:=Jm s a;show Br (Co.S0 _ (Co.l0 (Co.t1 (f+1)) m) _ _ _ _ _ _ _) _;unfold Co.S0;rw [Cc,Mz,CA,Bk (a:=a) Ad,Bk (a:=a+1) Ad,Bk (a:=(i:Int)) Ad];exact B6 (λ _=>MG (λ _=>Bp (LT.nil _)) λ _=>CW Ad (MG (λ _=>Bp (LT.nil _)) λ _=>CW Ad (FJ Ad (H9 Ad (ih (i+1) m _ _ Ad Ad Ad Ad Ad (by rw [Ap,ho];rfl)))))) λ _=>by omega
 show Br (Co.S (Co.l0 (Co.t1 (18446744073709551615+1)) (18446744073709551615+1)) s n) _;unfold Co.S;refine Fq (λ _=>Ia (I9 (λ _=>Bp (LT.nil _)) λ _=>Bp (LT.nil _))) λ _=>CY _ (M9 s) λ r hr=>EA (λ _=>Bp (LT.nil _)) λ Hb=>B6 (λ _=>Bp (LT.nil _)) λ c1=>B6 (λ _=>Bp (LT.nil _)) λ c2=>?_
 obtain ⟨_,r2,r3⟩:=hr.all;exact main 18446744073709551615 r.1 c1 c2 Ad r.1.toNat 0 _ r.2.1 [] Ad Ad Ad r2 r3 rfl
theorem Zrs (s:ByteArray) {n:Int} (code:Int) (h0:0<=n) (hn:n<=65536) (hs:s.size<=65536):Br (Sm s n code) LT:=by
 unfold Sm;exact Fq (λ _=>CY _ (Zxy s n hs) λ r hr=>Bp hr) λ _=>Fq (λ _=>CY _ (Zhw s h0 hn hs) λ r hr=>Bp hr) λ _=>Fq (λ _=>CY _ (Znt s h0 hn hs) λ r hr=>Bp hr) λ _=>Bp (LT.nil _)
def BT (n:Int) (r:List Int×Int):Prop:=(r.2=0/\r.1.length=n.toNat/\∀ x∈r.1,x=0\/x=1)\/(r.2≠0/\r.1=[])
theorem uf (s:ByteArray) (k:Nat):Ga s k 1=0\/Ga s k 1=1:=by
 unfold Ga;show IntKind.wrap .i64 (numOf [sb s (k*1+0)])=0\/IntKind.wrap .i64 (numOf [sb s (k*1+0)])=1;cases sb s (k*1+0)
 ·exact .inl rfl
 ·exact .inr rfl
theorem jh (s:ByteArray) {n:Int} (h0:0<=n) (hn:n<=65536):Br (N3 s n) (BT n):=by
 unfold N3;refine B6 (λ _=>by omega) λ _=>B6 (λ _=>by omega) λ _=>I9 (λ _=>?_) λ _=>CY _ (P5 s 1 h0 hn) λ r hr=>EA (λ _=>Bp (.inr ⟨Af,rfl⟩)) λ he=>?_
 ·rw [CH h0,AH];refine H9 Ad (Bp (.inl ⟨rfl,AO,λ x hx=> .inl (List.mem_replicate.1 hx).2⟩))
 ·have hl:=hr.len he;have R4:=hr.li hn;obtain ⟨_,_,_,hw⟩:=hr.resolve_right λ h=>h.1 he
  refine Jl (gp r.1 Ad 1) (Ia (IA (λ _=>Bp (.inl ⟨rfl,hl,λ x hx=>?_⟩)) λ _=>Bp (.inr ⟨Af,rfl⟩)));have hx:x∈r.1:=hx;rw [hw] at hx;obtain ⟨k,_,rfl⟩:=List.mem_map.1 hx;exact uf s k
theorem da:∀ (b:List Int),(∀ x∈b,x=0\/x=1)->b.foldr (· + ·) 0+((b.filter λ x=>decide (x=0)).length:Int)=(b.length:Int)/\0<=b.foldr (· + ·) 0
 | [],_=>⟨rfl,Int.le_refl _⟩
 | x :: b,h=>by
  obtain ⟨i1,i2⟩:=da b λ y hy=>h y (AP _ hy)
  rw [List.foldr_cons,Aw];rcases h x (AI ..) with rfl | rfl
  ·rw [List.filter_cons_of_pos Af,Aw];omega
  ·rw [List.filter_cons_of_neg Af];omega
theorem tp (s:ByteArray) {n:Int} (h0:0<=n) (hn:n<=65536):∃ b e,N3 s n=some (b,e)/\BT n (b,e)/\Fo s n=some (b.foldr (· + ·) 0,e)/\0<=b.foldr (· + ·) 0/\b.foldr (· + ·) 0<=n:=by
 obtain ⟨⟨b,e⟩,h1,h2⟩:=jh s h0 hn;have hb:b.length<=n.toNat/\∀ x∈b,x=0\/x=1:=by
  rcases h2 with ⟨_,k1,k2⟩ | ⟨_,k⟩
  ·have k1:b.length=_:=k1;exact ⟨Ad,k2⟩
  ·have k:b=[]:=k;subst k;exact ⟨Nat.zero_le _,λ x hx=>by cases hx⟩
 obtain ⟨i1,i2⟩:=da b hb.2;refine ⟨b,e,h1,h2,?_,i2,Ad⟩;show Fo.S (Fo.l0 fu) s n=_;unfold Fo.S;rw [h1,An];dsimp only;have:=te b Ad hb.2 e b.length 0 fu 0 Ad Ad Ae Ad Ad;rw [List.drop_zero,Int.zero_add] at this;exact this
def LC (r:List Cell×Int):Prop:=r.1.length<=65536/\∀ c∈r.1,BN c.2.1
theorem LC.nil (e:Int):LC ([],e):=⟨Nat.zero_le _,λ x hx=>by cases hx⟩
theorem Ysd (s:ByteArray) {n:Int} (h0:0<=n) (hn:n<=65536) (l:List Cell) (e:Int) (hl:LC (l,e)):Br (EK s n l) LC:=by
 obtain ⟨b,e,h1,h2,h3,_,h4⟩:=tp s h0 hn;obtain ⟨eZ,KJ⟩:=hl;have eZ:l.length<=65536:=eZ;have main:b.length<=65536->(∀ x∈b,x=0\/x=1)->∀ (d i m:Nat) (r o:List Cell),d=b.length-i->i<=b.length->d<m->r.length=((b.drop i).filter λ x=>decide (x=0)).length->(∀ c∈r,BN c.2.1)->o.length=b.length->(∀ c∈o,BN c.2.1)->
   Br (EK.l0 m r b (b.length:Int) (i:Int) o) LC:=by
  intro R5 hb d;induction d with
  | zero=>
   intro i m r o hd hi hm hr eh ho Le;obtain ⟨m,rfl⟩:=Aa m;show Br (EK.S0 _ _ _ _ _ _) _;unfold EK.S0;exact B6 (λ _=>by omega) λ _=>Bp ⟨by show o.length<=_;omega,Le⟩
  | succ d ih=>
   intro i m r o hd hi hm hr eh ho Le;obtain ⟨m,rfl⟩:=Aa m;have AY:i<b.length:=Ad
   show Br (EK.S0 (EK.l0 m) _ _ _ _ _) _;unfold EK.S0;rw [List.drop_eq_getElem_cons AY] at hr;rw [Ba,Ba,Ba,BE AY,Bk];refine B6 (λ _=>CW Ad (Fq (λ hz=>?_) λ hz=>?_)) λ _=>by omega
   ·rw [List.filter_cons_of_pos (by simpa using hz),Aw] at hr;refine CW Ad (FJ Ad (CW Ad (ih (i+1) m _ _ Ad Ad Ad (by rw [List.length_drop];omega) (λ c hc=>eh c (List.mem_of_mem_drop hc)) (by rw [List.length_set];exact ho) λ c hc=>?_)));rcases List.mem_or_eq_of_mem_set hc with hc | rfl
    ·exact Le c hc
    ·rw [show (0:Int)=((0:Nat):Int) from rfl,BE Ad];exact eh _ (Ay _)
   ·rw [List.filter_cons_of_neg (by simpa using hz)] at hr;exact ih (i+1) m r o Ad Ad Ad hr eh ho Le
 show Br (EK.S (EK.l0 fu) s n l) _;unfold EK.S;refine Jl h1 (EA (λ _=>Bp (LC.nil _)) λ he=>Jl h3 (EA (λ _=>Bp (LC.nil _)) λ hc=>Jl (rR l Ad) (IA (λ _=>Bp (LC.nil _)) λ _=>?_)));obtain ⟨_,k1,k2⟩:=h2.resolve_right λ h=>h.1 he
 have k1:b.length=n.toNat:=k1;have k2:∀ x∈b,x=0\/x=1:=k2;obtain ⟨i1,i2⟩:=da b k2;have hc:AZ l=Bt .i64 n (b.foldr (· + ·) 0):=hc;rw [Ba,CA] at hc;rw [CH h0,AH];refine H9 Ad ?_;rw [Ba,AO,<- k1];exact main Ad k2 b.length 0 fu l _ Ad Ad Ae (by rw [List.drop_zero];omega) KJ AO λ c hc=>by rw [(List.mem_replicate.1 hc).2];exact Rt
theorem Zx2 (s:ByteArray) {n:Int} (h:Int×Int×Int×Int) (h0:0<=n) (hn:n<=65536) (hs:s.size<=65536):Br (CO s n h) LC:=by
 have m0:∀ (e:Int) (l:List Int),l.length<=65536->(∀ x∈l,BN x)->∀ (d i m:Nat) (o:List Cell),d=l.length-i->i<=l.length->d<m->o.length=i->(∀ c∈o,BN c.2.1)->Br (CO.l0 m o e l (l.length:Int) (i:Int) h) LC:=by
  intro e l hl BH d;induction d with
  | zero=>
   intro i m o hd hi hm ho Le;obtain ⟨m,rfl⟩:=Aa m;show Br (CO.S0 _ _ _ _ _ _ _) _;unfold CO.S0;exact B6 (λ _=>by omega) λ _=>Bp ⟨by show o.length<=_;omega,Le⟩
  | succ d ih=>
   intro i m o hd hi hm ho Le;obtain ⟨m,rfl⟩:=Aa m;have AY:i<l.length:=Ad
   show Br (CO.S0 (CO.l0 m) _ _ _ _ _ _) _;unfold CO.S0;rw [Ba,BE AY,Bk];refine B6 (λ _=>CW Ad (H9 Ad (ih (i+1) m _ Ad Ad Ad (by rw [Ap,ho];rfl) λ c hc=>?_))) λ _=>by omega
   rcases List.mem_append.1 hc with hc | hc
   ·exact Le c hc
   ·rw [List.mem_singleton.1 hc];exact BH _ (Ay AY)
 have m1:∀ (e:Int) (l:List ByteArray),l.length<=65536->∀ (d i m:Nat) (o:List Cell),d=l.length-i->i<=l.length->d<m->o.length=i->(∀ c∈o,BN c.2.1)->Br (CO.l1 m o e l (l.length:Int) (i:Int) h) LC:=by
  intro e l hl d;induction d with
  | zero=>
   intro i m o hd hi hm ho Le;obtain ⟨m,rfl⟩:=Aa m;show Br (CO.S1 _ _ _ _ _ _ _) _;unfold CO.S1;exact B6 (λ _=>by omega) λ _=>Bp ⟨by show o.length<=_;omega,Le⟩
  | succ d ih=>
   intro i m o hd hi hm ho Le;obtain ⟨m,rfl⟩:=Aa m;show Br (CO.S1 (CO.l1 m) _ _ _ _ _ _) _;unfold CO.S1;rw [Ba,Bk];refine B6 (λ _=>CW Ad (H9 Ad (ih (i+1) m _ Ad Ad Ad (by rw [Ap,ho];rfl) λ c hc=>?_))) λ _=>by omega
   rcases List.mem_append.1 hc with hc | hc
   ·exact Le c hc
   ·rw [List.mem_singleton.1 hc];exact Rt
 show Br (CO.S (CO.l0 fu) (CO.l1 fu) s n h) _;unfold CO.S;refine Fq (λ _=>CY _ (rS s h.2.1 h0 hn hs) λ r hr=>?_) λ _=>Fq (λ _=>CY _ (Zrs s h.2.1 h0 hn hs) λ r hr=>?_) λ _=>Bp (LC.nil _)
 ·have JN:r.1.length<=65536:=hr.1;rw [Ba];exact m0 _ r.1 hr.1 hr.2 r.1.length 0 fu [] Ad Ad Ae rfl λ c hc=>by cases hc
 ·have JN:r.1.length<=65536:=hr;rw [Ba];exact m1 _ r.1 hr r.1.length 0 fu [] Ad Ad Ae rfl λ c hc=>by cases hc
theorem Ytd (s:ByteArray) (hs:s.size<=65536):Br (Un s) λ r=>r.1.size<=s.size:=by
 unfold Un;rw [Cc,CA];refine B6 (λ _=>Bp (Nat.zero_le _)) λ _=>FJ Ad (Jl (ga _ (by have:=LZ s 0 ((s.size:Int)-4);omega)) (Ia (I9 (λ _=>FJ Ad (Bp (LZ _ _ _))) λ _=>Bp (Nat.zero_le _))))
theorem Yew (l:List Cell) (hl:l.length<=65536) (kind code:Int):∃ r,M6 l kind code=some r:=by
 by_cases hm:Hn l kind
 ·cases hv:GX (Bv l) kind code with
  | none=>exact ⟨_,vW hm hv⟩
  | some b=>exact ⟨_,yk hm hv⟩
 ·exact ⟨_,r7 Ad hm⟩
theorem Yoc (s:ByteArray) (hs:s.size<=65536):Br (OK s) λ r=>r.2=true->∃ l kind code,M6 l kind code=some (s,0)/\l.length<=65536/\∀ c∈l,BN c.2.1:=by
 unfold OK;refine CY _ (Ytd s hs) λ r hr=>EA (λ _=>Bp λ h=>by cases h) λ _=>B6 (λ _=>Bp λ h=>by cases h) λ h4=>?_
 have h4:4<=(r.1.size:Int):=h4;obtain ⟨b0,b1⟩:=Jm r.1 3;obtain ⟨c0,c1⟩:=Jm r.1 2;rw [Mz,Mz,Mz,Mz,Cc,CA,Bk];refine CW Ad (B6 (λ _=>Bp λ h=>by cases h) λ h5=>CW Ad (CW Ad (CW Ad (CW Ad (FJ Ad (FJ Ad ?_))))));obtain ⟨b,e,_,_,k3,k4,k5⟩:=tp (cutS r.1 4 (4+byteAt r.1 3)) (n:=byteAt r.1 2) c0 Ad;refine Jl k3 (EA (λ _=>Bp λ h=>by cases h) λ _=>?_);dsimp only;rw [CA];refine CY _ (Zx2 _ _ Ad Ad (by have:=LZ r.1 (4+byteAt r.1 3) (r.1.size:Int);omega)) λ q hq=>EA (λ _=>Bp λ h=>by cases h) λ _=>CY _ (Ysd _ c0 Ad q.1 q.2 hq) λ z hz=>EA (λ _=>Bp λ h=>by cases h) λ _=>?_
 obtain ⟨u,hu⟩:=Yew z.1 hz.1 (byteAt r.1 0) (byteAt r.1 1);refine Jl hu (Fq (λ QI=>Bp λ h=>?_) λ _=>Bp λ h=>by cases h);have h:Cz u.1 s=true:=h;rw [MI] at h;refine ⟨z.1,byteAt r.1 0,byteAt r.1 1,?_,hz⟩;rw [hu];obtain ⟨u1,u2⟩:=u;have e1:u1=s:=Az h;have e2:u2=0:=QI;rw [e1,e2]
end Go.AM.Pure
end
