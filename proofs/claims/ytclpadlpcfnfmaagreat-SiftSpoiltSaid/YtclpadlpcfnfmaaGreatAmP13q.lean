import Derived.Test.YtclpadlpcfnfmaaGreatAmP13n
section
/- The document's plain numbers and texts, runs and frames: the same bytes. -/
namespace Go.AM.Pure
open Go.AM
theorem Zff (a:Int):Cb .i64 a 255=a % 256:=by
 unfold Cb;have h:(BitVec.ofInt 64 a &&& BitVec.ofInt 64 255).toNat=(BitVec.ofInt 64 a).toNat % 2 ^ 8:=by
  rw [BitVec.toNat_and,show (BitVec.ofInt 64 255).toNat=2 ^ 8-1 from rfl,Nat.and_two_pow_sub_one_eq_mod]
 show IntKind.wrap .i64 ((BitVec.ofInt 64 a &&& BitVec.ofInt 64 255).toNat:Int)=_;have h2:=Q7 a;rw [h,Int.natCast_emod,h2,show ((2 ^ 8:Nat):Int)=256 from rfl,FH];omega
theorem tu (l:List Int) {o0:List Int->List Int->Int->Option ByteArray} {i:Nat} (hi:i<l.length) (MX:i<1000000):∀ (d k n:Nat) (b:List Int),k+d=8->d<n->b.length<100000000000->
  DV.l1 o0 n l (b++Ep k (wb l[i] 64)) (i:Int) (k:Int)=o0 l (b++Ep 8 (wb l[i] 64)) ((i:Int)+1)
 | 0,k,n,b,h,hn,hb=>by
  obtain ⟨n,rfl⟩:=Aa n;have:k=8:=Ad
  subst this;show DV.S1 _ _ _ _ _ _=_;unfold DV.S1;rw [Be,Al,Bk (a:=(i:Int)) Ad]
 | d+1,k,n,b,h,hn,hb=>by
  obtain ⟨n,rfl⟩:=Aa n;show DV.S1 o0 (DV.l1 o0 n) _ _ _ _=_;unfold DV.S1;have hm:CI .i64 8 (k:Int)=((8*k:Nat):Int):=by rw [Kv];omega
  have dc:IntKind.wrap .u8 (Cb .i64 (B7 .i64 l[i] ((8*k:Nat):Int)) 255)=l[i] / 2 ^ (8*k) % 256:=by
   rw [N4 _ _ Ad,Zff,KZ];omega
  rw [Bw,Ak,Bq,Ak,hm,CH,Ak,Cp (by rw [Ap,MC];omega),Ak,BE hi,dc,Bk,AA,<- yi l[i] k Ad];exact tu l hi MX d (k+1) n b Ad Ad hb
theorem Ziz (l:List Int) (hl:l.length<=65536):∀ (d i m:Nat),d=l.length-i->i<=l.length->20<m->
  DV.l0 (m+d) l (Ep (8*i) (Ge (l.take i) 64)) (i:Int)=some (ofBytes (CR l 64)):=by
 intro d;induction d with
 | zero=>
  intro i m hd hi hm;have:i=l.length:=Ad
  subst this;obtain ⟨m,rfl⟩:=Aa m;show DV.S0 _ _ _ _=_;unfold DV.S0;rw [Ba,Be,Al,AB];unfold CR;rw [show (l.length*64+7) / 8=8*l.length by omega]
 | succ d ih=>
  intro i m hd hi hm;have AY:i<l.length:=Ad
  show DV.S0 (DV.l1 (DV.l0 (m+d)) (m+d)) _ _ _=_;unfold DV.S0;rw [Ba,Bw,Ak];have h1:=tu (o0:=DV.l0 (m+d)) l AY Ad 8 0 (m+d) (Ep (8*i) (Ge (l.take i) 64)) rfl Ad (by rw [MC];omega);rw [show Ep 0 (wb l[i] 64)=[] from rfl,AE] at h1;rw [show (0:Int)=((0:Nat):Int) from rfl,h1];have:=ih (i+1) m Ad Ad hm;rw [take_one AY,ZX,show 8*(i+1)=8*i+8 by omega,SA _ 8 _ _ (by rw [Re,Ar];omega)] at this;exact this
theorem Zcs (l:List Int) (hl:l.length<=65536):DV l=some (ofBytes (CR l 64)):=by
 have:=Ziz l hl l.length 0 (fu-l.length) Ad Ad Ae;rw [show fu-l.length+l.length=fu by unfold fu;omega] at this;exact this
theorem Zjz (o:List ByteArray) (hl:o.length<=65536) (hs:Et o):∀ (d i n:Nat),d=o.length-i->i<=o.length->d<n->
  GN.l0 n o (Cd (o.take i)) (i:Int)=some (ofBytes (Cd o),0):=by
 intro d;induction d with
 | zero=>
  intro i n hd hi hn;have:i=o.length:=Ad
  subst this;obtain ⟨n,rfl⟩:=Aa n;show GN.S0 _ _ _ _=_;unfold GN.S0;rw [Ba,Be,Al,AB]
 | succ d ih=>
  intro i n hd hi hn;obtain ⟨n,rfl⟩:=Aa n;have AY:i<o.length:=Ad
  have h1:=Lk (o.take i) (hs.take i);rw [Ar] at h1;have h2:=hs o[i] (Ay AY);show GN.S0 (GN.l0 n) _ _ _=_;unfold GN.S0;have:=ih (i+1) n Ad Ad Ad;rw [take_one AY,Wl,show Cd (o.take i)++tB o[i]=Cd (o.take i)++[(o[i].size:Int)]++Bu o[i] by unfold tB;simp] at this;rw [Ba,Bw,Ak,Bq,Ak,BE AY,Cc,Be,Al,Ak,Cp Ad,Ak,Ak,Cp (by rw [Ap,AN];omega),Ak,Bk,KZ,show (o[i].size:Int) % 256=(o[i].size:Int) by omega];exact this
theorem fQ (o:List ByteArray) (hl:o.length<=65536) (hs:Et o):GN o=some (ofBytes (Cd o),0):=
 Zjz o hl hs o.length 0 fu Ad Ad Ae
theorem yn {x:Int}:∀ (c d:Nat) (A B:List Int),List.replicate c x++A=List.replicate d x++B->A.head?≠some x->B.head?≠some x->c=d/\A=B
 | 0,0,A,B,h,_,_=>⟨rfl,h⟩
 | 0,d+1,A,B,h,ha,_=>by
  exfalso;apply ha;rw [show A=_ from h];rfl
 | c+1,0,A,B,h,_,hb=>by
  exfalso;apply hb;rw [show B=_ from h.symm];rfl
 | c+1,d+1,A,B,h,ha,hb=>by
  rw [List.replicate_succ,List.replicate_succ,List.cons_append,List.cons_append] at h;obtain ⟨h1,h2⟩:=yn c d A B (List.cons.inj h).2 ha hb;exact ⟨Ad,h2⟩
theorem uv {o:List C2} {n:Nat} {x:Int} (h:Df n (some x) o):(BQ o).head?≠some x:=by
 cases o with
 | nil=>intro h;cases h
 | cons r o=>
  obtain ⟨_,h1,h2,_⟩:=h;rw [PU,show r.2.2.toNat=(r.2.2.toNat-1)+1 by omega,List.replicate_succ];intro h;exact h2 (by simpa using h.symm)
theorem v8:∀ {o q:List C2} {n:Nat} {p:Option Int},Df n p o->Df n p q->BQ o=BQ q->o=q
 | [],[],_,_,_,_,_=>rfl
 | [],r :: q,_,_,_,h,e=>by
  have h1:=h.2.1;rw [PU,show r.2.2.toNat=(r.2.2.toNat-1)+1 by omega,List.replicate_succ] at e;cases e
 | r :: q,[],_,_,h,_,e=>by
  have h1:=h.2.1;rw [PU,show r.2.2.toNat=(r.2.2.toNat-1)+1 by omega,List.replicate_succ] at e;cases e
 | (x,a,c) :: o,(y,b,d) :: q,n,p,h,k,e=>by
  obtain ⟨h1,h2,_,h4⟩:=h;obtain ⟨k1,k2,_,k4⟩:=k;dsimp only at h1 h2 h4 k1 k2 k4;rw [PU,PU] at e;dsimp only at e;have Pu:x=y:=by
   rw [show c.toNat=(c.toNat-1)+1 by omega,show d.toNat=(d.toNat-1)+1 by omega,List.replicate_succ,List.replicate_succ] at e;exact (List.cons.inj e).1
  subst Pu;obtain ⟨e1,e2⟩:=yn _ _ _ _ e (uv h4) (uv k4);rw [e1] at h4;rw [v8 h4 k4 e2,show c=d by omega,h1,k1]
theorem Zi3 (l:List Int) (hl:l.length<=65536):∀ (d i n:Nat) (out:List C2),d=l.length-i->i<=l.length->d<n->BQ out=l.take i->Df 0 none out->K7 none out=(l.take i).getLast?->
  ∃ o,GS.l0 n l (i:Int) out=some o/\BQ o=l/\Df 0 none o:=by
 intro d;induction d with
 | zero=>
  intro i n out hd hi hn h1 h2 _;have:i=l.length:=Ad
  subst this;obtain ⟨n,rfl⟩:=Aa n;rw [AB] at h1;refine ⟨out,?_,h1,h2⟩;show GS.S0 _ _ _ _=_;unfold GS.S0;rw [Ba,Be,Al]
 | succ d ih=>
  intro i n out hd hi hn h1 h2 h3;obtain ⟨n,rfl⟩:=Aa n;have AY:i<l.length:=Ad
  have GD:(BQ out).length=i:=by rw [h1,Ar];omega
  have Gg:=Jq out 0 none h2;have Je:(l.take (i+1)).getLast? = some l[i]:=by rw [take_one AY,List.getLast?_concat]
  have Kb:(K7 none out≠some l[i])->∃ o,GS.l0 n l ((i+1:Nat):Int) (out++[(l[i],(i:Int),1)])=some o/\BQ o=l/\Df 0 none o:=λ Cg=>
   ih (i+1) n _ Ad Ad Ad (by rw [IV,JV,h1,take_one AY];rfl)
    ((P9 _ _ _ _).2 ⟨h2,by rw [GD];exact ⟨by show (i:Int)=_;omega,by show (1:Int)<=1;omega,Cg,trivial⟩⟩) (by rw [PV,Je])
  show ∃ o,GS.S0 (GS.l0 n) _ _ _=_/\_;unfold GS.S0;rw [Ba,Bw,Ak,CH,Ak,Bq (i:=(i:Int)) Ad,Ak,Ak,BE AY,Bk,Cp Ad,Ak];by_cases JM:i=0
  ·subst JM;rw [Be,Al];exact Kb (by rw [h3,List.take_zero];simp)
  ·rw [Bw,Ak,CA (a:=(i:Int)) Ad,Bq (i:=(i:Int)-1) Ad,Ak];have JB:i-1<l.length:=Ad
   have Oe:(l.take i).getLast? = some l[i-1]:=by
    have:l.take i=l.take (i-1)++[l[i-1]]:=by
     have:=take_one JB
     rwa [show i-1+1=i by omega] at this
    rw [this,List.getLast?_concat]
   rw [Oe] at h3;rw [show (i:Int)-1=((i-1:Nat):Int) by omega,BE JB];by_cases hq:l[i]=l[i-1]
   ·rw [Ci hq,Ak];rcases List.eq_nil_or_concat out with h0 | ⟨o,r,h0⟩
    ·subst h0;cases h3
    ·rw [List.concat_eq_append] at h0;subst h0;rw [PV] at h3;have JN:r.1=l[i-1]:=Option.some.inj h3;have ef:o.length<1000000:=by rw [Ap] at Gg;omega
     obtain ⟨k1,k2⟩:=(P9 _ _ _ _).1 h2;obtain ⟨k3,k4,k5,_⟩:=k2;have Ps:r.2.2.toNat<=i:=by
      rw [IV,JV,Ap,AO] at GD;omega
     have J5:Bt .i64 (AZ (o++[r])) 1=(o.length:Int):=by rw [Ba,Ap,AN,CA];omega
     have Nw:List.getD (o++[r]) o.length (0,0,0)=r:=by rw [AK,AJ (Au _),Nat.sub_self];rfl
     have RR:∀ r',List.set (o++[r]) o.length r'=o++[r']:=λ r'=>by rw [List.set_append_right _ _ (Au _),Nat.sub_self];rfl
     rw [J5,Bq (by rw [Ba,Ap,AN];omega),Ak,Ak,show Int.toNat (o.length:Int)=o.length from rfl,Nw,RR,Bk];refine ih (i+1) n _ Ad Ad Ad ?_ ((P9 _ _ _ _).2 ⟨k1,k3,by show 1<=r.2.2+1;omega,k5,trivial⟩) (by rw [PV,Je,hq];exact h3);rw [IV,JV] at h1;rw [IV,JV,take_one AY,<- h1,AA];congr 1;show List.replicate (r.2.2+1).toNat r.1=_;rw [show (r.2.2+1).toNat=r.2.2.toNat+1 by omega,List.replicate_succ',JN,hq]
   ·rw [Ca hq,Al];exact Kb (by rw [h3];intro h;exact hq (Option.some.inj h).symm)
theorem sD (l:List Int) (hl:l.length<=65536):GS l=some (GA l):=by
 obtain ⟨o,h1,h2,h3⟩:=Zi3 l hl l.length 0 fu [] Ad Ad Ae rfl trivial rfl;obtain ⟨_,k2,k3⟩:=N7 l hl;rw [v8 h3 k3 (by rw [h2,k2])] at h1;exact h1
theorem tn (o:List C2) (ho:Df 0 none o) (hl:(BQ o).length<=65536):∀ (d i n:Nat),d=o.length-i->i<=o.length->d<n->
  EZ.l0 n o ((BQ (o.take i)).length:Int) (i:Int)=some true:=by
 have Gg:=Jq o 0 none ho;intro d;induction d with
 | zero=>
  intro i n hd hi hn;have:i=o.length:=Ad
  subst this;obtain ⟨n,rfl⟩:=Aa n;show EZ.S0 _ _ _ _=_;unfold EZ.S0;rw [Ba,Be,Al]
 | succ d ih=>
  intro i n hd hi hn;obtain ⟨n,rfl⟩:=Aa n;have AY:i<o.length:=Ad
  obtain ⟨k1,k2,k3,k4,k5⟩:=Qb ho AY;show EZ.S0 (EZ.l0 n) _ _ _=_;unfold EZ.S0;have JA:A7 .i64 ((BQ (o.take i)).length:Int) o[i].2.2=((BQ (o.take (i+1))).length:Int):=by rw [Bk,k4];omega
  have:=ih (i+1) n Ad Ad Ad;rw [Ba,Bw,Ak,Bq (i:=(i:Int)) Ad,Ak,BE AY,Cs k1,Al,Ak,Be,Al,Ak,CA (a:=65536) Ad,Be,Al,JA,Bk (a:=(i:Int)) Ad];simp only [Ak];by_cases JM:i=0
  ·rw [Be,Al];exact this
  ·have JB:i-1<o.length:=Ad
   have KJ:K7 none (o.take i)=some o[i-1].1:=by
    have:o.take i=o.take (i-1)++[o[i-1]]:=by
     have:=take_one JB
     rwa [show i-1+1=i by omega] at this
    rw [this,PV]
   rw [KJ] at k3;rw [Bw,Ak,CA,Bq,Ak,show (i:Int)-1=((i-1:Nat):Int) by omega,BE JB,Ca (λ h=>k3 (by rw [h])),Al];exact this
theorem Zkz (o:List C2) (hl:o.length<=65536) (BH:∀ r∈o,BN r.1/\BN r.2.2):∀ (d i n:Nat),d=o.length-i->i<=o.length->d<n->
  Gl.l0 n o (ofBytes (Fi (o.take i))) (i:Int)=some (ofBytes (Fi o),0):=by
 intro d;induction d with
 | zero=>
  intro i n hd hi hn;have:i=o.length:=Ad
  subst this;obtain ⟨n,rfl⟩:=Aa n;show Gl.S0 _ _ _ _=_;unfold Gl.S0;rw [Ba,Be,Al,AB]
 | succ d ih=>
  intro i n hd hi hn;obtain ⟨n,rfl⟩:=Aa n;have AY:i<o.length:=Ad
  have h1:=OQ (o.take i);rw [Ar] at h1;have h2:=Fs o[i].1;have h3:=Fs o[i].2.2;obtain ⟨q1,q2⟩:=BH o[i] (Ay AY);show Gl.S0 (Gl.l0 n) _ _ _=_;unfold Gl.S0;have r1:Dh (ofBytes (Fi (o.take i))) (ofBytes (vB o[i].1))=true:=Aq (by rw [CE,CE];omega);have r2:Dh (ofBytes (Fi (o.take i)++vB o[i].1)) (ofBytes (vB o[i].2.2))=true:=Aq (by rw [CE,CE,Ap];omega);rw [Ba,Bw,Ak,Bq,Ak,BE AY,NV q1,An,Jn,r1,Ak,Ak,NV q2,An,Jn,GV,r2,Ak,GV,Bk,AA,<- uc,<- take_one AY];exact ih (i+1) n Ad Ad Ad
theorem sc (o:List C2) (ho:Df 0 none o) (hl:(BQ o).length<=65536) (BH:∀ r∈o,BN r.1):Gl o=some (ofBytes (Fi o),0):=by
 have Gg:=Jq o 0 none ho;show Gl.S (Gl.l0 fu) o=_;unfold Gl.S;have hm:EZ o=some true:=tn o ho hl o.length 0 fu Ad Ad Ae;rw [hm,An,Bool.not_true,Al];refine Zkz o Ad (λ r hr=>⟨BH r hr,?_⟩) o.length 0 fu Ad Ad Ae;obtain ⟨i,hi,rfl⟩:=List.mem_iff_getElem.1 hr;obtain ⟨_,k2,_,k4,k5⟩:=Qb ho hi;unfold BN;omega
theorem Zjw (l:List Int) (hl:l.length<=65536) (h0:0<l.length):∀ (d i n:Nat),d=l.length-1-i->i<=l.length-1->d<n->
  Hz.l0 n l ((Da l).take i) ((i+1:Nat):Int)=some (Da l):=by
 have Ej:=Sy l;intro d;induction d with
 | zero=>
  intro i n hd hi hn;have:i=l.length-1:=Ad
  subst this;obtain ⟨n,rfl⟩:=Aa n;show Hz.S0 _ _ _ _=_;unfold Hz.S0;rw [Ba,Be,Al,AL Ad]
 | succ d ih=>
  intro i n hd hi hn;obtain ⟨n,rfl⟩:=Aa n;have AY:i+1<l.length:=Ad
  have Yu:i<l.length:=Ad
  have QN:i<(Da l).length:=Ad
  have qo:=iu AY QN;have Ed:=ih (i+1) n Ad Ad Ad;rw [take_one QN,qo] at Ed;show Hz.S0 (Hz.l0 n) _ _ _=_;unfold Hz.S0;rw [Ba,Bw,Ak,Bq,Ak,CA (b:=1) Ad,show ((i+1:Nat):Int)-1=(i:Int) by omega,Bq,Ak,Cp (by rw [Ar];omega),Ak,BE AY,BE Yu,Bk];exact Ed
theorem Zkw (x:List Int) (hx:x.length<=65536):∀ (d i n:Nat) (m:Int),d=x.length-i->i<=x.length->d<n->Gv.l0 n x m (i:Int)=some ((x.drop i).foldl Eo m):=by
 intro d;induction d with
 | zero=>
  intro i n m hd hi hn;have:i=x.length:=Ad
  subst this;obtain ⟨n,rfl⟩:=Aa n;show Gv.S0 _ _ _ _=_;unfold Gv.S0;rw [Ba,Be,Al,List.drop_length];rfl
 | succ d ih=>
  intro i n m hd hi hn;obtain ⟨n,rfl⟩:=Aa n;have AY:i<x.length:=Ad
  show Gv.S0 (Gv.l0 n) _ _ _=_;unfold Gv.S0;rw [Ba,Bw,Ak,Bq,Ak,BE AY,Bk,List.drop_eq_getElem_cons AY,List.foldl_cons];exact ih (i+1) n _ Ad Ad Ad
theorem Zlw (m:Int) (D:List Int) (hD:D.length<=65536) (s:ByteArray):∀ (d i n:Nat),d=D.length-i->i<=D.length->d<n->
  DU.l0 (DU.t1 fu) n s D m ((D.take i).map λ x=>Ik (x-m)) (i:Int)=DU.S1 s m (D.map λ x=>Ik (x-m)):=by
 intro d;induction d with
 | zero=>
  intro i n hd hi hn;have:i=D.length:=Ad
  subst this;obtain ⟨n,rfl⟩:=Aa n;show DU.S0 DU.S1 _ _ _ _ _ _=_;unfold DU.S0;rw [Ba,Be,Al,AB]
 | succ d ih=>
  intro i n hd hi hn;obtain ⟨n,rfl⟩:=Aa n;have AY:i<D.length:=Ad
  have Ed:=ih (i+1) n Ad Ad Ad;rw [take_one AY,AG] at Ed;show DU.S0 _ (DU.l0 (DU.t1 fu) n) _ _ _ _ _=_;unfold DU.S0;rw [Ba,Bw,Ak,Bq,Ak,Cp (by rw [Av,Ar];omega),Ak,BE AY,Bk];exact Ed
theorem r8 (l:List Int) (hl:l.length<=65536) (BH:∀ x∈l,BN x):DU l=some (ofBytes (Ob l (CF (D6 l))),0):=by
 show DU.S (DU.l0 (DU.t1 fu) fu) l=_;unfold DU.S Ob;rw [Ba,Be,Al];by_cases h0:l.length=0
 ·rw [Ci,Ak,if_pos h0];rfl
 ·rw [Ca,Al,if_neg h0];have Li:0<l.length:=Ad
  have KO:l.getD 0 0=l[0]:=getD_at Li;have Du:nth l 0 0=l.getD 0 0:=rfl;have hq:BN (l.getD 0 0):=by rw [KO];exact BH _ (Ay Li)
  rw [Bq,Ak,Du,NV hq,An,Jn];by_cases h1:l.length=1
  ·rw [Ci,Ak,if_pos h1]
  ·have Ej:=Sy l;have Fy:Hz l=some (Da l):=Zjw l hl Li (l.length-1) 0 fu Ad Ad Ae;have QR:Gv (Da l)=some (Fk (Da l)):=by
    show Gv.S (Gv.l0 fu) (Da l)=_;unfold Gv.S;rw [Bq,Ak];exact Zkw (Da l) Ad ((Da l).length-1) 1 fu (nth (Da l) 0 0) Ad Ad Ae
   have hw:=Zlw (Fk (Da l)) (Da l) Ad (ofBytes (vB (l.getD 0 0))) (Da l).length 0 fu Ad Ad Ae;have GD:=PS l;obtain ⟨_,w2,_⟩:=GU (D6 l) Ad;have hb:(D6 l).length*CF (D6 l)<=65536*64:=Nat.mul_le_mul Ad w2;have CT:=I8 (D6 l) (CF (D6 l));have k1:=Fs (l.getD 0 0);have k2:=Fs (Fk (Da l));rw [Ca,Al,if_neg h1,Fy,An,QR,An];refine Eq.trans hw ?_;show DU.S1 _ _ (D6 l)=_;unfold DU.S1;rw [Wa _ Ad,An,Wh _ w2 Ad (Au _),An,NV (ub Ad (ta l)),An,Jn,GV,aS w2,GV];have r1:Dh (ofBytes (vB (l.getD 0 0))) (ofBytes (vB (Fk (Da l))))=true:=Aq (by rw [CE,CE];omega);have r2:Dh (ofBytes (vB (l.getD 0 0)++vB (Fk (Da l)))) (ofBytes [(CF (D6 l):Int)])=true:=Aq (by rw [CE,CE,Ap,AN];omega);have r3:Dh (ofBytes (vB (l.getD 0 0)++vB (Fk (Da l))++[(CF (D6 l):Int)])) (ofBytes (CR (D6 l) (CF (D6 l))))=true:=Aq (by rw [CE,CE,Ap,Ap,AN];omega);dsimp only;rw [r1,r2,r3,GV,Ak,Ak,Ak];simp
end Go.AM.Pure
end

section
/- The document's dictionaries: distinct values, by insertion, and the places. Printed for numbers and texts alike by mk13r.py. -/
namespace Go.AM.Pure
open Go.AM
section
variable {α : Type} {c : α -> α -> Int}
theorem jl (c:α->α->Int) (x:α):∀ d:List α,∃ p q,d=p++q/\(∀ y∈p,c y x = -1)/\∀ z r,q=z :: r->¬ c z x = -1
 | []=>⟨[],[],rfl,λ _ h=>(by cases h),λ _ _ h=>(by cases h)⟩
 | a :: d=>by
  by_cases h:c a x = -1
  ·obtain ⟨p,q,h1,h2,h3⟩:=jl c x d;refine ⟨a :: p,q,by rw [h1];rfl,λ y hy=>?_,h3⟩;rcases List.mem_cons.1 hy with rfl | hy
   ·exact h
   ·exact h2 y hy
  ·exact ⟨[],a :: d,rfl,λ _ h=>(by cases h),λ z r e=>by cases e;exact h⟩
theorem uu {p q:List α} {x:α} {l:List α} (h:Ie c (p++q) l) (hx:x∈p++q):Ie c (p++q) (l++[x]):=
 ⟨h.1,λ y=>by
  rw [List.mem_append (t:=[x]),AW,<- h.2 y]
  exact ⟨.inl,λ h=>h.elim id λ e=>e ▸ hx⟩⟩
theorem v7 (o:Ord3 c) {p q:List α} {x:α} {l:List α} (h:Ie c (p++q) l) (hp:∀ y∈p,c y x = -1) (hq:∀ z r,q=z :: r->¬ c z x = -1/\z≠x):Ie c (p++[x]++q) (l++[x]):=by
 obtain ⟨h1,h2⟩:=h;obtain ⟨k1,k2,k3⟩:=List.pairwise_append.1 h1;have hxq:∀ y∈q,c x y = -1:=λ y hy=>by
  cases q with
  | nil=>cases hy
  | cons z r=>
   obtain ⟨m1,m2⟩:=hq z r rfl;have hz:c x z = -1:=by
    rw [o.neg z x];rcases o.rng z x with h | h | h
    ·exact absurd h m1
    ·exact absurd ((o.eq0 _ _).1 h) m2
    ·rw [h]
   rcases List.mem_cons.1 hy with rfl | hy
   ·exact hz
   ·exact o.tr _ _ _ hz ((List.pairwise_cons.1 k2).1 y hy)
 constructor
 ·unfold NN;rw [AA,List.pairwise_append];refine ⟨k1,?_,λ a ha b hb=>?_⟩
  ·rw [List.singleton_append,List.pairwise_cons];exact ⟨hxq,k2⟩
  ·rcases List.mem_append.1 hb with hb | hb
   ·rw [List.mem_singleton.1 hb];exact hp a ha
   ·exact k3 a ha b hb
 ·intro y;rw [List.mem_append (t:=[x]),AW,<- h2 y];simp only [List.mem_append,AW];constructor
  ·rintro ((h | h) | h)
   ·exact .inl (.inl h)
   ·exact .inr h
   ·exact .inl (.inr h)
  ·rintro ((h | h) | h)
   ·exact .inl (.inl h)
   ·exact .inr h
   ·exact .inl (.inr h)
end
theorem Zgf (a b:Int):A8 a b=decide (GJ a b = -1):=by
 show decide (a<b)=_;unfold GJ;by_cases h:a<b
 ·rw [if_pos h,Aq h];rfl
 ·rw [if_neg h,Ax h];split <;> rfl
theorem Yvd (l:List Int):Ie GJ (B4 l) l:=⟨(LU l).1.imp λ {a b} h=>by unfold GJ;rw [if_pos h],(LU l).2⟩
theorem Xdg (l:List Int):IZ (B4 l) l=Cm l:=rfl
theorem Ywd {l d:List Int} {places:List Int} {i:Nat} (hi:i<l.length) (MX:i<1000000) (hd:d.length<1000000) {p q:List Int} (FV:d=p++q) (hp:∀ y∈p,GJ y l[i] = -1) (hq:∀ z r,q=z :: r->¬ GJ z l[i] = -1) {o2:List Int->List Int->List Int->Int->Int->Option (List Int×List Int)}:
  ∀ (g j n:Nat),g=p.length-j->j<=p.length->g<n->BD.l1 o2 n l d places (i:Int) (j:Int)=o2 l d places (i:Int) (p.length:Int):=by
 have CT:d.length=p.length+q.length:=by rw [FV,Ap]
 intro g;induction g with
 | zero=>
  intro j n hg hj hn;have:j=p.length:=Ad
  subst this;obtain ⟨n,rfl⟩:=Aa n;show BD.S1 _ _ _ _ _ _ _=_;unfold BD.S1;cases q with
  | nil=>
   rw [List.length_nil] at CT;rw [Ba,Be,Al]
  | cons z r=>
   rw [Aw] at CT;have hz:d[p.length]'Ad=z:=by simp only [FV,List.getElem_append_right (Au _),Nat.sub_self,List.getElem_cons_zero]
   rw [Ba,Bw,Ak,Bq,Ak,Bq,Ak,BE (show p.length<d.length by omega),hz,BE hi,Zgf,Ax (hq z r rfl),Al]
 | succ g ih=>
  intro j n hg hj hn;obtain ⟨n,rfl⟩:=Aa n;have Y2:j<p.length:=Ad
  have hz:d[j]'Ad=p[j]:=by simp only [FV,List.getElem_append_left Y2]
  show BD.S1 o2 (BD.l1 o2 n) _ _ _ _ _=_;unfold BD.S1;rw [Ba,Bw,Ak,Bq,Ak,Bq,Ak,BE (show j<d.length by omega),hz,BE hi,Zgf,Aq (hp _ (Ay Y2)),Ak,Bk];exact ih (j+1) n Ad Ad Ad
theorem Ygw (l:List Int) (hl:l.length<=65536) {o4:List Int->List Int->List Int->Option (List Int×List Int)}:∀ (g i m:Nat) (d:List Int),g=l.length-i->i<=l.length->200000<m->Ie GJ d (l.take i)->d.length<=i->
  ∃ D,BD.l0 o4 (m+g) l d [] (i:Int)=o4 l D []/\Ie GJ D l/\D.length<=l.length:=by
 intro g;induction g with
 | zero=>
  intro i m d hg hi hm hd Ej;have:i=l.length:=Ad
  subst this;obtain ⟨m,rfl⟩:=Aa m;rw [AB] at hd;refine ⟨d,?_,hd,Ej⟩;show BD.S0 _ _ _ _ _ _=_;unfold BD.S0;rw [Ba,Be,Al]
 | succ g ih=>
  intro i m d hg hi hm hd Ej;have AY:i<l.length:=Ad
  obtain ⟨p,q,FV,hp,hq⟩:=jl GJ l[i] d;have CT:d.length=p.length+q.length:=by rw [FV,Ap]
  have oh:=Ywd (places:=[]) AY Ad Ad FV hp hq (o2:=BD.t2 (BD.l0 o4 (m+g)) (m+g)) p.length 0 (m+g) Ad Ad Ad;have TN:((i:Int)+1)=((i+1:Nat):Int):=rfl;obtain ⟨e,he⟩:∃ e,m+g=e+2:=⟨m+g-2,Ad⟩;show ∃ D,BD.S0 o4 (BD.l1 (BD.t2 (BD.l0 o4 (m+g)) (m+g)) (m+g)) l d [] (i:Int)=_/\_;unfold BD.S0;rw [Ba,Bw,Ak,show (0:Int)=((0:Nat):Int) from rfl,oh];have h2:BD.t2 (BD.l0 o4 (m+g)) (m+g)=BD.S2 (BD.l0 o4 (m+g)) (BD.S3 (BD.l0 o4 (m+g))):=by
   generalize BD.l0 o4 (m+g)=z;rw [he];rfl
  rw [h2];unfold BD.S2;have YD:(∀ z r,q=z :: r->¬ GJ z l[i] = -1/\z≠l[i])->∃ D,BD.S3 (BD.l0 o4 (m+g)) l d [] (i:Int) (p.length:Int)=o4 l D []/\Ie GJ D l/\D.length<=l.length:=λ Cg=>by
   unfold BD.S3;have Fw:List.take (Int.toNat (p.length:Int)) d=p:=by rw [FV];exact List.take_left
   have KN:List.drop (Int.toNat (p.length:Int)) d=q:=by rw [FV];exact List.drop_left
   rw [Ba,Dg Ad,Ak,Fw,KN,Cp Ad,Ak,Bq,Ak,Cp Ad,Ak,Dg Ad,Ak,BE AY,Cp (by rw [Ap,AN];omega),Ak,Bk,TN];exact ih (i+1) m _ Ad Ad hm (by rw [take_one AY];exact v7 WW (FV ▸ hd) hp Cg) (by rw [Ap,Ap,AN];omega)
  cases Kk:q with
  | nil=>
   rw [Kk,List.length_nil] at CT;rw [Ba,Be,Al];exact YD λ z r e=>by rw [Kk] at e;cases e
  | cons z r=>
   rw [Kk,Aw] at CT;have hz:d[p.length]'Ad=z:=by simp only [FV,Kk,List.getElem_append_right (Au _),Nat.sub_self,List.getElem_cons_zero]
   rw [Ba,Bw,Ak,Bq,Ak,Bq,Ak,BE (show p.length<d.length by omega),hz,BE AY];by_cases QP:z=l[i]
   ·rw [Ci QP,Ak,Bk,TN];exact ih (i+1) m d Ad Ad hm (by rw [take_one AY,FV];exact uu (FV ▸ hd) (by rw [Kk,QP];simp)) Ad
   ·rw [Ca QP,Al];exact YD λ z' r' e=>by
     rw [Kk] at e;cases e;exact ⟨hq z r Kk,QP⟩
theorem Zg3 {l d:List Int} (hl:l.length<=65536) (Ej:d.length<=l.length) (hd:Ie GJ d l) {i:Nat} (hi:i<l.length) {places:List Int} (CT:places.length<=65536) {o5:List Int->List Int->List Int->Int->Option (List Int×List Int)}:
  ∀ (g j n:Nat),g=idx d l[i]-j->j<=idx d l[i]->g<n->BD.l6 o5 n l d places (i:Int) (j:Int)=o5 l d (places++[(idx d l[i]:Int)]) ((i:Int)+1):=by
 have hk:=Rv ((hd.2 _).2 (Ay hi));have hg:=WZ hk;intro g;induction g with
 | zero=>
  intro j n QQ hj hn;have:j=idx d l[i]:=Ad
  subst this;obtain ⟨n,rfl⟩:=Aa n;show BD.S6 _ _ _ _ _ _ _=_;unfold BD.S6;rw [Ba,Bq,Ak,Ba,Bq,Ak,BE hk,hg,BE hi,Cs rfl,Al,Cp Ad,Ak,Bk]
 | succ g ih=>
  intro j n QQ hj hn;obtain ⟨n,rfl⟩:=Aa n;have Y3:j<d.length:=Ad
  have Cg:¬ d[j]=l[i]:=λ e=>by
   have:=hd.1.inj WW Y3 hk (e.trans hg.symm);omega
  show BD.S6 o5 (BD.l6 o5 n) _ _ _ _ _=_;unfold BD.S6;rw [Ba,Bq,Ak,Ba,Bq,Ak,BE Y3,BE hi,Fh Cg,Ak,Bk];exact ih (j+1) n Ad Ad Ad
theorem Zgz {l d:List Int} (hl:l.length<=65536) (Ej:d.length<=l.length) (hd:Ie GJ d l):∀ (g i m:Nat),g=l.length-i->i<=l.length->200000<m->
  BD.l5 (m+g) l d ((IZ d l).take i) (i:Int)=some (d,IZ d l):=by
 have CT:=JZ d l;intro g;induction g with
 | zero=>
  intro i m hg hi hm;have:i=l.length:=Ad
  subst this;obtain ⟨m,rfl⟩:=Aa m;show BD.S5 _ _ _ _ _=_;unfold BD.S5;rw [Ba,Be,Al,AL Ad]
 | succ g ih=>
  intro i m hg hi hm;have AY:i<l.length:=Ad
  have hk:=Rv ((hd.2 _).2 (Ay AY));show BD.S5 (BD.l6 (BD.l5 (m+g)) (m+g)) _ _ _ _=_;unfold BD.S5;have:=Zg3 hl Ej hd AY (places:=(IZ d l).take i) (by rw [Ar];omega) (o5:=BD.l5 (m+g)) (idx d l[i]) 0 (m+g) Ad Ad Ad;rw [Ba,Bw,Ak,show (0:Int)=((0:Nat):Int) from rfl,this];have h2:=ih (i+1) m Ad Ad hm;rw [take_one Ad,jH AY] at h2;exact h2
theorem Zot (l:List Int) (hl:l.length<=65536):BD l=some (B4 l,IZ (B4 l) l):=by
 show BD.S (BD.l0 (BD.t4 fu) fu) l=_;unfold BD.S;obtain ⟨D,h1,h2,h3⟩:=Ygw l hl (o4:=BD.t4 fu) l.length 0 (fu-l.length) [] Ad Ad Ae ⟨List.Pairwise.nil,λ x=>by simp⟩ Ah;rw [show fu-l.length+l.length=fu by unfold fu;omega] at h1;have hD:D=B4 l:=h2.uniq WW (Yvd l);subst hD;refine Eq.trans h1 ?_;show BD.S4 (BD.l5 18446744073709551615) _ _ _=_;unfold BD.S4;have:=Zgz hl h3 h2 l.length 0 (18446744073709551615-l.length) Ad Ad Ad;rw [show 18446744073709551615-l.length+l.length=18446744073709551615 by omega] at this;exact this
theorem Xra {a b:ByteArray} (h:a=b):(!(Cz a b))=false:=by rw [Gp h];rfl
theorem Xsa {a b:ByteArray} (h:¬ a=b):(!(Cz a b))=true:=by rw [K6 h];rfl
theorem Yxd {l d:List ByteArray} {places:List Int} {i:Nat} (hi:i<l.length) (MX:i<1000000) (hd:d.length<1000000) {p q:List ByteArray} (FV:d=p++q) (hp:∀ y∈p,Ir y l[i] = -1) (hq:∀ z r,q=z :: r->¬ Ir z l[i] = -1) {o2:List ByteArray->List ByteArray->List Int->Int->Int->Option (List ByteArray×List Int)}:
  ∀ (g j n:Nat),g=p.length-j->j<=p.length->g<n->BB.l1 o2 n l d places (i:Int) (j:Int)=o2 l d places (i:Int) (p.length:Int):=by
 have CT:d.length=p.length+q.length:=by rw [FV,Ap]
 intro g;induction g with
 | zero=>
  intro j n hg hj hn;have:j=p.length:=Ad
  subst this;obtain ⟨n,rfl⟩:=Aa n;show BB.S1 _ _ _ _ _ _ _=_;unfold BB.S1;cases q with
  | nil=>
   rw [List.length_nil] at CT;rw [Ba,Be,Al]
  | cons z r=>
   rw [Aw] at CT;have hz:d[p.length]'Ad=z:=by simp only [FV,List.getElem_append_right (Au _),Nat.sub_self,List.getElem_cons_zero]
   rw [Ba,Bw,Ak,Bq,Ak,Bq,Ak,BE (show p.length<d.length by omega),hz,BE hi,c9,Ax (hq z r rfl),Al]
 | succ g ih=>
  intro j n hg hj hn;obtain ⟨n,rfl⟩:=Aa n;have Y2:j<p.length:=Ad
  have hz:d[j]'Ad=p[j]:=by simp only [FV,List.getElem_append_left Y2]
  show BB.S1 o2 (BB.l1 o2 n) _ _ _ _ _=_;unfold BB.S1;rw [Ba,Bw,Ak,Bq,Ak,Bq,Ak,BE (show j<d.length by omega),hz,BE hi,c9,Aq (hp _ (Ay Y2)),Ak,Bk];exact ih (j+1) n Ad Ad Ad
theorem Yhw (l:List ByteArray) (hl:l.length<=65536) {o4:List ByteArray->List ByteArray->List Int->Option (List ByteArray×List Int)}:∀ (g i m:Nat) (d:List ByteArray),g=l.length-i->i<=l.length->200000<m->Ie Ir d (l.take i)->d.length<=i->
  ∃ D,BB.l0 o4 (m+g) l d [] (i:Int)=o4 l D []/\Ie Ir D l/\D.length<=l.length:=by
 intro g;induction g with
 | zero=>
  intro i m d hg hi hm hd Ej;have:i=l.length:=Ad
  subst this;obtain ⟨m,rfl⟩:=Aa m;rw [AB] at hd;refine ⟨d,?_,hd,Ej⟩;show BB.S0 _ _ _ _ _ _=_;unfold BB.S0;rw [Ba,Be,Al]
 | succ g ih=>
  intro i m d hg hi hm hd Ej;have AY:i<l.length:=Ad
  obtain ⟨p,q,FV,hp,hq⟩:=jl Ir l[i] d;have CT:d.length=p.length+q.length:=by rw [FV,Ap]
  have oh:=Yxd (places:=[]) AY Ad Ad FV hp hq (o2:=BB.t2 (BB.l0 o4 (m+g)) (m+g)) p.length 0 (m+g) Ad Ad Ad;have TN:((i:Int)+1)=((i+1:Nat):Int):=rfl;obtain ⟨e,he⟩:∃ e,m+g=e+2:=⟨m+g-2,Ad⟩;show ∃ D,BB.S0 o4 (BB.l1 (BB.t2 (BB.l0 o4 (m+g)) (m+g)) (m+g)) l d [] (i:Int)=_/\_;unfold BB.S0;rw [Ba,Bw,Ak,show (0:Int)=((0:Nat):Int) from rfl,oh];have h2:BB.t2 (BB.l0 o4 (m+g)) (m+g)=BB.S2 (BB.l0 o4 (m+g)) (BB.S3 (BB.l0 o4 (m+g))):=by
   generalize BB.l0 o4 (m+g)=z;rw [he];rfl
  rw [h2];unfold BB.S2;have YD:(∀ z r,q=z :: r->¬ Ir z l[i] = -1/\z≠l[i])->∃ D,BB.S3 (BB.l0 o4 (m+g)) l d [] (i:Int) (p.length:Int)=o4 l D []/\Ie Ir D l/\D.length<=l.length:=λ Cg=>by
   unfold BB.S3;have Fw:List.take (Int.toNat (p.length:Int)) d=p:=by rw [FV];exact List.take_left
   have KN:List.drop (Int.toNat (p.length:Int)) d=q:=by rw [FV];exact List.drop_left
   rw [Ba,Dg Ad,Ak,Fw,KN,Cp Ad,Ak,Bq,Ak,Cp Ad,Ak,Dg Ad,Ak,BE AY,Cp (by rw [Ap,AN];omega),Ak,Bk,TN];exact ih (i+1) m _ Ad Ad hm (by rw [take_one AY];exact v7 MB (FV ▸ hd) hp Cg) (by rw [Ap,Ap,AN];omega)
  cases Kk:q with
  | nil=>
   rw [Kk,List.length_nil] at CT;rw [Ba,Be,Al];exact YD λ z r e=>by rw [Kk] at e;cases e
  | cons z r=>
   rw [Kk,Aw] at CT;have hz:d[p.length]'Ad=z:=by simp only [FV,Kk,List.getElem_append_right (Au _),Nat.sub_self,List.getElem_cons_zero]
   rw [Ba,Bw,Ak,Bq,Ak,Bq,Ak,BE (show p.length<d.length by omega),hz,BE AY];by_cases QP:z=l[i]
   ·rw [Gp QP,Ak,Bk,TN];exact ih (i+1) m d Ad Ad hm (by rw [take_one AY,FV];exact uu (FV ▸ hd) (by rw [Kk,QP];simp)) Ad
   ·rw [K6 QP,Al];exact YD λ z' r' e=>by
     rw [Kk] at e;cases e;exact ⟨hq z r Kk,QP⟩
theorem Zh3 {l d:List ByteArray} (hl:l.length<=65536) (Ej:d.length<=l.length) (hd:Ie Ir d l) {i:Nat} (hi:i<l.length) {places:List Int} (CT:places.length<=65536) {o5:List ByteArray->List ByteArray->List Int->Int->Option (List ByteArray×List Int)}:
  ∀ (g j n:Nat),g=idx d l[i]-j->j<=idx d l[i]->g<n->BB.l6 o5 n l d places (i:Int) (j:Int)=o5 l d (places++[(idx d l[i]:Int)]) ((i:Int)+1):=by
 have hk:=Rv ((hd.2 _).2 (Ay hi));have hg:=WZ hk;intro g;induction g with
 | zero=>
  intro j n QQ hj hn;have:j=idx d l[i]:=Ad
  subst this;obtain ⟨n,rfl⟩:=Aa n;show BB.S6 _ _ _ _ _ _ _=_;unfold BB.S6;rw [Ba,Bq,Ak,Ba,Bq,Ak,BE hk,hg,BE hi,Xra rfl,Al,Cp Ad,Ak,Bk]
 | succ g ih=>
  intro j n QQ hj hn;obtain ⟨n,rfl⟩:=Aa n;have Y3:j<d.length:=Ad
  have Cg:¬ d[j]=l[i]:=λ e=>by
   have:=hd.1.inj MB Y3 hk (e.trans hg.symm);omega
  show BB.S6 o5 (BB.l6 o5 n) _ _ _ _ _=_;unfold BB.S6;rw [Ba,Bq,Ak,Ba,Bq,Ak,BE Y3,BE hi,Xsa Cg,Ak,Bk];exact ih (j+1) n Ad Ad Ad
theorem Zhz {l d:List ByteArray} (hl:l.length<=65536) (Ej:d.length<=l.length) (hd:Ie Ir d l):∀ (g i m:Nat),g=l.length-i->i<=l.length->200000<m->
  BB.l5 (m+g) l d ((IZ d l).take i) (i:Int)=some (d,IZ d l):=by
 have CT:=JZ d l;intro g;induction g with
 | zero=>
  intro i m hg hi hm;have:i=l.length:=Ad
  subst this;obtain ⟨m,rfl⟩:=Aa m;show BB.S5 _ _ _ _ _=_;unfold BB.S5;rw [Ba,Be,Al,AL Ad]
 | succ g ih=>
  intro i m hg hi hm;have AY:i<l.length:=Ad
  have hk:=Rv ((hd.2 _).2 (Ay AY));show BB.S5 (BB.l6 (BB.l5 (m+g)) (m+g)) _ _ _ _=_;unfold BB.S5;have:=Zh3 hl Ej hd AY (places:=(IZ d l).take i) (by rw [Ar];omega) (o5:=BB.l5 (m+g)) (idx d l[i]) 0 (m+g) Ad Ad Ad;rw [Ba,Bw,Ak,show (0:Int)=((0:Nat):Int) from rfl,this];have h2:=ih (i+1) m Ad Ad hm;rw [take_one Ad,jH AY] at h2;exact h2
theorem rK (l:List ByteArray) (hl:l.length<=65536):BB l=some (BO l,IZ (BO l) l):=by
 show BB.S (BB.l0 (BB.t4 fu) fu) l=_;unfold BB.S;obtain ⟨D,h1,h2,h3⟩:=Yhw l hl (o4:=BB.t4 fu) l.length 0 (fu-l.length) [] Ad Ad Ae ⟨List.Pairwise.nil,λ x=>by simp⟩ Ah;rw [show fu-l.length+l.length=fu by unfold fu;omega] at h1;have hD:D=BO l:=h2.uniq MB (N1 l);subst hD;refine Eq.trans h1 ?_;show BB.S4 (BB.l5 18446744073709551615) _ _ _=_;unfold BB.S4;have:=Zhz hl h3 h2 l.length 0 (18446744073709551615-l.length) Ad Ad Ad;rw [show 18446744073709551615-l.length+l.length=18446744073709551615 by omega] at this;exact this
end Go.AM.Pure
end

section
/- The document's sum of bytes, its codes, and its blocks: the same bytes as the program's. -/
namespace Go.AM.Pure
open Go.AM
theorem Zqm {a b:Nat} (ha:a<4294967296) (hb:b<4294967296):Gd .i64 (a:Int) (b:Int)=((a ^^^ b:Nat):Int):=by
 have h:=Nat.xor_lt_two_pow (n:=32) ha hb;unfold Gd;have e:(BitVec.ofInt 64 (a:Int) ^^^ BitVec.ofInt 64 (b:Int)).toNat=a ^^^ b:=by
  rw [BitVec.toNat_xor,BitVec.ofInt_natCast,BitVec.ofInt_natCast,BitVec.toNat_ofNat,BitVec.toNat_ofNat,Nat.mod_eq_of_lt Ad,Nat.mod_eq_of_lt Ad]
 show IntKind.wrap .i64 ((BitVec.ofInt 64 (a:Int) ^^^ BitVec.ofInt 64 (b:Int)).toNat:Int)=_;rw [e];exact FH Ad
theorem aU (n:Int):IntKind.wrap .u32 n=n % 4294967296:=by
 unfold IntKind.wrap;rfl
theorem og {a b:Nat} (ha:a<4294967296) (hb:b<4294967296):Gd .u32 (a:Int) (b:Int)=((a ^^^ b:Nat):Int):=by
 have h:=Nat.xor_lt_two_pow (n:=32) ha hb;unfold Gd;have e:(BitVec.ofInt 32 (a:Int) ^^^ BitVec.ofInt 32 (b:Int)).toNat=a ^^^ b:=by
  rw [BitVec.toNat_xor,BitVec.ofInt_natCast,BitVec.ofInt_natCast,BitVec.toNat_ofNat,BitVec.toNat_ofNat,Nat.mod_eq_of_lt Ad,Nat.mod_eq_of_lt Ad]
 show IntKind.wrap .u32 ((BitVec.ofInt 32 (a:Int) ^^^ BitVec.ofInt 32 (b:Int)).toNat:Int)=_;rw [e,aU];omega
def dd (n:Nat):Nat:=(n / 2) ^^^ (if n % 2=1 then 2197175160 else 0)
theorem Yfw (n:Nat) (_:n<4294967296):Cb .u32 (n:Int) 1=((n % 2:Nat):Int):=by
 unfold Cb;have e:(BitVec.ofInt 32 (n:Int) &&& BitVec.ofInt 32 1).toNat=n % 4294967296 % 2:=by
  rw [BitVec.toNat_and,BitVec.ofInt_natCast,BitVec.toNat_ofNat,show (BitVec.ofInt 32 1).toNat=2 ^ 1-1 from rfl,Nat.and_two_pow_sub_one_eq_mod]
 show IntKind.wrap .u32 ((BitVec.ofInt 32 (n:Int) &&& BitVec.ofInt 32 1).toNat:Int)=_;rw [e,aU];omega
theorem Znp (k:IntKind) (hk:1<=k.bits) (n:Nat):B7 k (n:Int) 1=((n / 2:Nat):Int):=by
 unfold B7;rw [show min (Int.toNat 1) k.bits=1 from Nat.min_eq_left hk,show (2:Int) ^ 1=2 from rfl,show ((n / 2:Nat):Int)=(n:Int) / 2 from Ad,Int.fdiv_eq_ediv_of_nonneg _ Ad]
theorem Zcz {n:Nat} (h:n<4294967296):WX (n:Int)=(dd n:Int):=by
 have hm:Cb .u32 2197175160 (Bt .u32 0 (Cb .u32 (n:Int) 1))=((if n % 2=1 then 2197175160 else 0:Nat):Int):=by
  rw [Yfw n h];rcases Nat.mod_two_eq_zero_or_one n with h2 | h2
  ·rw [h2];decide +kernel
  ·rw [h2];decide +kernel
 unfold WX dd;rw [hm,Znp _ Af];exact og Ad (by split <;> omega)
def Pf (n b:Nat):Nat:=if n % 2≠b % 2 then (n / 2) ^^^ 2197175160 else n / 2
theorem jk {n b:Nat} (h:n<4294967296):Pf n b<4294967296:=by
 unfold Pf;split
 ·exact Nat.xor_lt_two_pow (n:=32) Ad Ad
 ·omega
theorem Zd3 (n b:Nat):dd (n ^^^ b)=Pf n b ^^^ (b / 2):=by
 unfold dd Pf;have h1:(n ^^^ b) / 2=(n / 2) ^^^ (b / 2):=Nat.xor_div_two;have h2:(n ^^^ b) % 2=1↔n % 2≠b % 2:=by
  rw [Nat.xor_mod_two_eq_one];omega
 rw [h1];by_cases h:n % 2≠b % 2
 ·rw [if_pos (h2.2 h),if_pos h,Nat.xor_assoc,Nat.xor_assoc,Nat.xor_comm (b / 2)]
 ·rw [if_neg (λ e=>h (h2.1 e)),if_neg h,Nat.xor_zero]
def Ru:Nat->Nat->Nat->Nat
 | 0,n,_=>n
 | k+1,n,b=>Ru k (Pf n b) (b / 2)
theorem uq:∀ (k:Nat) {n b:Nat},n<4294967296->Ru k n b<4294967296
 | 0,_,_,h=>h
 | k+1,_,_,h=>uq k (jk h)
theorem ur:∀ (k n b:Nat),n<4294967296->b<2 ^ k->k<=8->Yz k ((n ^^^ b:Nat):Int)=(Ru k n b:Int)
 | 0,n,b,_,hb,_=>by
  have:b=0:=by simpa using hb
  subst this;rw [Nat.xor_zero];rfl
 | k+1,n,b,hn,hb,hk=>by
  have hb8:b<2 ^ 8:=Nat.lt_of_lt_of_le hb (Nat.pow_le_pow_right Ad hk);show Yz k (WX _)=(Ru k (Pf n b) (b / 2):Int);rw [Zcz (Nat.xor_lt_two_pow (n:=32) hn Ad),Zd3];exact ur k _ _ (jk hn) (by rw [Nat.pow_succ] at hb;omega) Ad
theorem sC {o0:ByteArray->Int->Int->Option Int} {s:ByteArray} {i:Nat} (hi:i<s.size) (MX:i<100000000000) {b:Nat} (hb:byteAt s (i:Int)=(b:Int)) (hb8:b<256):∀ (d k m:Nat) (n:Nat),k+d=8->d<m->n<4294967296->
  DB.l1 o0 m s (n:Int) (i:Int) (k:Int)=o0 s (Ru d n (b / 2 ^ k):Int) ((i:Int)+1)
 | 0,k,m,n,h,hm,_=>by
  obtain ⟨m,rfl⟩:=Aa m;show DB.S1 _ _ _ _ _ _=_;unfold DB.S1;rw [Be,Al,Bk];rfl
 | d+1,k,m,n,h,hm,hn=>by
  obtain ⟨m,rfl⟩:=Aa m;show DB.S1 o0 (DB.l1 o0 m) _ _ _ _=_;unfold DB.S1;have CL:B7 .i64 (b:Int) (k:Int)=((b / 2 ^ k:Nat):Int):=by
   rw [N4 _ _ Ad,Int.natCast_ediv,Int.natCast_pow];rfl
  have ih:=sC (o0:=o0) hi MX hb hb8 d (k+1) m (Pf n (b / 2 ^ k)) Ad Ad (jk hn);rw [show b / 2 ^ (k+1)=b / 2 ^ k / 2 by rw [Nat.pow_succ,Nat.div_div_eq_div_mul]] at ih;rw [Bw,Ak,Cc,Bq,Ak,CH,Ak,hb,FH,CL,pz,pz,Bk,Znp _ Af];show _=o0 s (Ru d (Pf n (b / 2 ^ k)) (b / 2 ^ k / 2):Int) ((i:Int)+1);by_cases Cg:n % 2≠b / 2 ^ k % 2
  ·rw [Fh,Ak,show (2197175160:Int)=((2197175160:Nat):Int) from rfl,Zqm Ad Ad];unfold Pf at ih ⊢;rw [if_pos Cg] at ih ⊢;exact ih
  ·rw [Cs,Al];unfold Pf at ih ⊢;rw [if_neg Cg] at ih ⊢;exact ih
theorem Ze3 (n b:Nat) (hn:n<4294967296) (hb:b<256):WY (n:Int) (b:Int)=(Ru 8 n b:Int):=by
 unfold WY;rw [aU,show (b:Int) % 4294967296=(b:Int) by omega,og hn Ad];exact ur 8 n b hn hb Ad
theorem Zf3 (s:ByteArray) (i:Int):∃ c:Fin 256,byteAt s i=(c.val:Int):=
 ⟨⟨(s.data.toList.getD i.toNat 0).toNat,UInt8.toNat_lt _⟩,rfl⟩
theorem Zdz {s:ByteArray} {i:Nat} (h:i<s.size):(Bu s).drop i=byteAt s (i:Int) :: (Bu s).drop (i+1):=by
 have hb:=KS s i h;have hl:i<(Bu s).length:=by rw [C6];exact h
 rw [List.drop_eq_getElem_cons hl];rw [AD hl] at hb;injection hb with hb
 rw [hb]
theorem Ziw (s:ByteArray) (hs:s.size<10000000000):∀ (d i m:Nat) (n:Nat),d=s.size-i->i<=s.size->20<m->n<4294967296->
  ∃ r:Nat,r<4294967296/\((Bu s).drop i).foldl WY (n:Int)=(r:Int)/\DB.l0 (m+d) s (n:Int) (i:Int)=some (Gd .i64 (r:Int) 4294967295):=by
 intro d;induction d with
 | zero=>
  intro i m n hd hi hm hn;have:i=s.size:=Ad
  subst this;obtain ⟨m,rfl⟩:=Aa m;refine ⟨n,hn,by rw [List.drop_eq_nil_of_le (by rw [C6];exact Au _)];rfl,?_⟩;show DB.S0 _ _ _ _=_;unfold DB.S0;rw [Cc,Be,Al]
 | succ d ih=>
  intro i m n hd hi hm hn;have AY:i<s.size:=Ad
  obtain ⟨c,hc⟩:=Zf3 s (i:Int);have Dc:=sC (o0:=DB.l0 (m+d)) AY Ad (b:=c.val) hc c.isLt 8 0 (m+d) n rfl Ad hn;obtain ⟨r,h1,h2,h3⟩:=ih (i+1) m (Ru 8 n c.val) Ad Ad hm (uq 8 hn);refine ⟨r,h1,?_,?_⟩
  ·rw [Zdz AY,List.foldl_cons,hc,Ze3 n c.val hn c.isLt];exact h2
  ·show DB.S0 (DB.l1 (DB.l0 (m+d)) (m+d)) _ _ _=_;unfold DB.S0;rw [Nat.pow_zero,Nat.div_one] at Dc;rw [Cc,Bw,Ak,show (0:Int)=((0:Nat):Int) from rfl,Dc];exact h3
theorem Zuu (s:ByteArray) (hs:s.size<10000000000):ZV s=some (J3 0 (Bu s))/\0<=J3 0 (Bu s)/\J3 0 (Bu s)<4294967296:=by
 obtain ⟨r,h1,h2,h3⟩:=Ziw s hs s.size 0 (fu-s.size) 4294967295 Ad Ad Ae Ad;rw [show fu-s.size+s.size=fu by unfold fu;omega] at h3;rw [List.drop_zero] at h2;have hx:=Nat.xor_lt_two_pow (n:=32) h1 (show 4294967295<2 ^ 32 by omega);have hc:J3 0 (Bu s)=((r ^^^ 4294967295:Nat):Int):=by
  unfold J3;rw [show Gd .u32 4294967295 (IntKind.wrap .u32 0)=((4294967295:Nat):Int) by decide +kernel,h2,show (4294967295:Int)=((4294967295:Nat):Int) from rfl,og Ad h1,Nat.xor_comm];exact FH Ad
 refine ⟨?_,by rw [hc];omega,by rw [hc];omega⟩;unfold ZV;have hm:DB 0 s=some (Gd .i64 (r:Int) 4294967295):=by
  show DB.S (DB.l0 fu) 0 s=_;unfold DB.S;rw [show Gd .i64 (Cb .i64 0 4294967295) 4294967295=((4294967295:Nat):Int) by decide +kernel];exact h3
 rw [hm,show (4294967295:Int)=((4294967295:Nat):Int) from rfl,Zqm h1 Ad,hc];rfl
theorem gd (s:ByteArray) (hs:s.size<10000000000):Um s=some (ofBytes (Gy (Bu s))):=by
 obtain ⟨h1,h2,h3⟩:=Zuu s hs;unfold Um;rw [h1,An];have hb:∀ k:Nat,k<=32->IntKind.wrap .u8 (Cb .i64 (B7 .i64 (J3 0 (Bu s)) (k:Int)) 255)=IntKind.wrap .u8 (B7 .u32 (IntKind.wrap .u32 (J3 0 (Bu s))) (k:Int)):=λ k hk=>by
  have e2:B7 .u32 (J3 0 (Bu s)) (k:Int)=J3 0 (Bu s) / 2 ^ k:=by
   unfold B7;rw [show min (Int.toNat (k:Int)) IntKind.u32.bits=k from Nat.min_eq_left hk,Int.fdiv_eq_ediv_of_nonneg _ (Int.le_of_lt (Fe k))]
  rw [aU,Int.emod_eq_of_lt h2 h3,N4 _ _ Ad,Zff,e2,KZ,KZ];omega
 have h0:=hb 0 Ad;rw [show B7 .i64 (J3 0 (Bu s)) ((0:Nat):Int)=J3 0 (Bu s) by rw [N4 _ _ Ad,Int.pow_zero,Int.ediv_one]] at h0;have h8:=hb 8 Ad;have TM:=hb 16 Ad;have h24:=hb 24 Ad;simp only [show ((8:Nat):Int)=8 from rfl,show ((16:Nat):Int)=16 from rfl,show ((24:Nat):Int)=24 from rfl,show ((0:Nat):Int)=0 from rfl] at h0 h8 TM h24;rw [h0,h8,TM,h24];show (bif Dh s (ofBytes (Tp (Bu s))) then some (D8 s (ofBytes (Tp (Bu s)))) else none)=_;have r1:Dh s (ofBytes (Tp (Bu s)))=true:=Aq (by rw [CE];show s.size+4<=_;omega);rw [r1,Ak];congr 1
 conv=>lhs;rw [<- LQ s,GV]
 rw [LQ];rfl
theorem Zez (p:List Int) (hp:p.length<=65536) (d:List Int) (hd:d.length<=65536) (BH:∀ x∈d,BN x) (a:List Int) (ha:a.length<=10):∀ (g i n:Nat),g=d.length-i->i<=d.length->g<n->
  D3.l0 (D3.t1 fu) n d p (ofBytes (a++CP (d.take i))) (i:Int)=some (ofBytes (a++(CP d++CR p (CF p))),0):=by
 intro g;induction g with
 | zero=>
  intro i n hg hi hn;have:i=d.length:=Ad
  subst this;obtain ⟨n,rfl⟩:=Aa n;show D3.S0 D3.S1 _ _ _ _ _=_;unfold D3.S0;rw [Ba,Be,Al,AB];unfold D3.S1;have k1:=Rb d;obtain ⟨_,w2,_⟩:=GU p hp;have hb:p.length*CF p<=65536*64:=Nat.mul_le_mul hp w2;have CT:=I8 p (CF p);have r1:Dh (ofBytes (a++CP d)) (ofBytes (CR p (CF p)))=true:=Aq (by rw [CE,CE,Ap];omega);rw [rC p hp,An,r1,Ak,GV,AA]
 | succ g ih=>
  intro i n hg hi hn;obtain ⟨n,rfl⟩:=Aa n;have AY:i<d.length:=Ad
  have k1:=Rb (d.take i);rw [Ar] at k1;have k2:=Fs d[i];have r1:Dh (ofBytes (a++CP (d.take i))) (ofBytes (vB d[i]))=true:=Aq (by rw [CE,CE,Ap];omega);have Ed:=ih (i+1) n Ad Ad Ad;rw [take_one AY,ZP,<- AA] at Ed;show D3.S0 _ (D3.l0 (D3.t1 fu) n) _ _ _ _=_;unfold D3.S0;rw [Ba,Bw,Ak,Bq,Ak,BE AY,NV (BH _ (Ay AY)),An,Jn,r1,Ak,GV,Bk];exact Ed
theorem fT (l:List Int) (hl:l.length<=65536) (BH:∀ x∈l,BN x):D3 l=some (ofBytes (K3 l (CF (Cm l))),0):=by
 show D3.S (D3.l0 (D3.t1 fu) fu) l=_;unfold D3.S K3;rw [Ba,Be,Al];by_cases h0:l.length=0
 ·rw [Ci,Ak,if_pos h0];rfl
 ·have Ej:=ON l;have CT:=OI l;rw [Ca,Al,if_neg h0,Zot l hl,Xdg,An];dsimp only;rw [Ba,NV (by unfold BN;omega),An,Jn];have:=Zez (Cm l) Ad (B4 l) Ad (λ x hx=>BH x (((LU l).2 x).1 hx)) (vB ((B4 l).length:Int)) (Fs _).2 (B4 l).length 0 fu Ad Ad Ae;rw [List.take_zero,show CP []=[] from rfl,AE] at this;exact this
theorem fP (l:List ByteArray) (hl:l.length<=65536) (CL:Et l):V9 l=some (ofBytes (Lo l (CF (BW l))),0):=by
 unfold V9 Lo;rw [Ba,Be,Al];by_cases h0:l.length=0
 ·rw [Ci,Ak,if_pos h0];rfl
 ·have Ej:=Mx l;have CT:(BW l).length=l.length:=JZ _ _;obtain ⟨_,w2,_⟩:=GU (BW l) Ad;have hb:(BW l).length*CF (BW l)<=65536*64:=Nat.mul_le_mul Ad w2;have NJ:=I8 (BW l) (CF (BW l));have k1:=Fs ((BO l).length:Int);have k2:=Lk _ CL.JC;rw [Ca,Al,if_neg h0,rK l hl,An];dsimp only;rw [fQ _ Ad CL.JC,An];dsimp only;have r1:Dh (ofBytes (vB ((BO l).length:Int))) (ofBytes (Cd (BO l)))=true:=Aq (by rw [CE,CE];omega);have r2:Dh (ofBytes (vB ((BO l).length:Int)++Cd (BO l))) (ofBytes (CR (BW l) (CF (BW l))))=true:=Aq (by rw [CE,CE,Ap];omega);rw [Cs rfl,Al,Ba,NV (by unfold BN;omega),An,Jn,r1,Ak,rC (BW l) Ad,An,GV,r2,Ak,GV,AA]
theorem Zbs (l:List Int) (hl:l.length<=65536) (BH:∀ x∈l,BN x) (code:Int):Zs l code=some (match Lu l code with | some b=>(ofBytes b,true) | none=>(eB,false)):=by
 unfold Zs Lu;by_cases h1:code=1
 ·rw [Ci h1,Ak,if_pos h1,Zcs l hl];rfl
 ·rw [Ca h1,Al,if_neg h1];by_cases h2:code=2
  ·obtain ⟨_,k2,k3⟩:=N7 l hl;rw [Ci h2,Ak,if_pos h2,sD l hl,An,sc _ k3 (by rw [k2];exact hl) (λ r hr=>BH _ (by rw [<- k2];exact UA k3 r hr))];rfl
  ·rw [Ca h2,Al,if_neg h2];by_cases h3:code=3
   ·rw [Ci h3,Ak,if_pos h3,r8 l hl BH];rfl
   ·rw [Ca h3,Al,if_neg h3];by_cases h4:code=4
    ·rw [Ci h4,Ak,if_pos h4,fT l hl BH];rfl
    ·rw [Ca h4,Al,if_neg h4];by_cases h5:code=5
     ·obtain ⟨_,k2,_⟩:=GU l hl;have hb:l.length*CF l<=65536*64:=Nat.mul_le_mul hl k2;have CT:=I8 l (CF l);have r1:Dh (ofBytes [(CF l:Int)]) (ofBytes (CR l (CF l)))=true:=Aq (by rw [CE,CE];simp;omega);rw [Ci h5,Ak,if_pos h5,Wa l hl,An,Wh l k2 hl (Au _),An,aS k2];dsimp only;rw [r1,Ak,GV];rfl
     ·rw [Ca h5,Al,if_neg h5]
theorem Zss (l:List ByteArray) (hl:l.length<=65536) (CL:Et l) (code:Int):ZG l code=some (match MH l code with | some b=>(ofBytes b,true) | none=>(eB,false)):=by
 have CT:(BW l).length=l.length:=JZ _ _;unfold ZG MH;by_cases h1:code=1
 ·rw [Ci h1,Ak,if_pos h1,fQ l hl CL];rfl
 ·rw [Ca h1,Al,if_neg h1];by_cases h2:code=2
  ·rw [Ci h2,Ak,if_neg (show ¬ code=4 by omega),if_pos h2,Ba];unfold RF;by_cases h0:l.length=0
   ·rw [Be,Al,if_pos h0];rfl
   ·obtain ⟨r1,r2,r3⟩:=N7 (BW l) Ad;have Ej:=Mx l;have Fl:=N1 l;have k1:=Fs ((BO l).length:Int);have k2:=Lk _ CL.JC;have k3:=OQ (GA (BW l));have k4:=Jq _ _ _ r3;rw [r2] at k4
    have hrp:=sc (GA (BW l)) r3 (by rw [r2];omega) (λ r hr=>by
     have hm:r.1∈BW l:=r2 ▸ UA r3 r hr;have:=Nb Fl r.1 hm
     unfold BN;omega)
    have q1:Dh (ofBytes (vB ((BO l).length:Int))) (ofBytes (Cd (BO l)))=true:=Aq (by rw [CE,CE];omega);have q2:Dh (ofBytes (vB ((BO l).length:Int)++Cd (BO l))) (ofBytes (Fi (GA (BW l))))=true:=Aq (by rw [CE,CE,Ap];omega);rw [Bw,Ak,if_neg h0,rK l hl,An];dsimp only;rw [fQ _ Ad CL.JC,An,sD (BW l) Ad,An,hrp,An,Ba,NV (by unfold BN;omega),An,Jn];dsimp only;rw [q1,Ak,GV,q2,Ak,GV,AA]
  ·rw [Ca h2,Al];by_cases h4:code=4
   ·rw [Ci h4,Ak,if_pos h4,fP l hl CL];rfl
   ·rw [Ca h4,Al,if_neg h4,if_neg h2]
theorem rD {l:List Cell} {kind:Int} (h:Hn l kind) (BH:∀ c∈l,BN c.2.1) (code:Int):Zz (Bv l) kind code=some (match GX (Bv l) kind code with | some b=>(ofBytes b,true) | none=>(eB,false)):=by
 have hle:=Jp l;have h2:=h.2.1;unfold Zz GX;by_cases hk:kind=1
 ·rw [Ci hk,Ak,if_pos hk,Zpt _ Ad,An,Zbs _ (by rw [Av];omega) (λ x hx=>by
   obtain ⟨c,hc,rfl⟩:=List.mem_map.1 hx;unfold Bv at hc
   exact BH c (List.mem_filter.1 hc).1)]
  rfl
 ·rw [Ca hk,Al,if_neg hk,Zts _ Ad,An,Zss _ (by rw [Av];omega) (Us h)];rfl
theorem Zfz (l:List Cell) (hl:l.length<=64) (kind:Int):∀ (d i n:Nat),d=l.length-i->i<=l.length->d<n->
  ∃ b,Es.l1 n l kind (i:Int)=some b/\(b=true↔∀ j (h:j<l.length),i<=j->HQ l[j]=true/\(l[j].1=0\/l[j].1=kind)):=by
 intro d;induction d with
 | zero=>
  intro i n hd hi hn;obtain ⟨n,rfl⟩:=Aa n;refine ⟨true,?_,⟨λ _ j h hj=>absurd h Ad,λ _=>rfl⟩⟩;show Es.S1 _ _ _ _=_;unfold Es.S1;rw [Ba,Be,Al]
 | succ d ih=>
  intro i n hd hi hn;obtain ⟨n,rfl⟩:=Aa n;have AY:i<l.length:=Ad
  obtain ⟨b,h1,h2⟩:=ih (i+1) n Ad Ad Ad;show ∃ b,Es.S1 (Es.l1 n) _ _ _=_/\_;unfold Es.S1;rw [Ba,Bw,Ak,Bq,Ak,BE AY,Ak,Ak,Bk];have de:(HQ l[i]=true/\(l[i].1=0\/l[i].1=kind))->∃ b,Es.l1 n l kind ((i:Int)+1)=some b/\(b=true↔∀ j (h:j<l.length),i<=j->HQ l[j]=true/\(l[j].1=0\/l[j].1=kind)):=λ hg=>
   ⟨b,h1,h2.trans ⟨λ h j hj Mh=>by
    by_cases e:i=j
    ·subst e;exact hg
    ·exact h j hj Ad,λ h j hj Mh=>h j hj Ad⟩⟩
  have Zop:¬ (HQ l[i]=true/\(l[i].1=0\/l[i].1=kind))->∃ b,some false=some b/\(b=true↔∀ j (h:j<l.length),i<=j->HQ l[j]=true/\(l[j].1=0\/l[j].1=kind)):=λ hg=>
   ⟨false,rfl,⟨λ h=>(by cases h),λ h=>absurd (h i AY (Au _)) hg⟩⟩
  by_cases hm:HQ l[i]=true
  ·rw [hm,Bool.not_true,Al];by_cases h0:l[i].1=0
   ·rw [Cs h0,Al];exact de ⟨hm, .inl h0⟩
   ·rw [Fh h0,Ak];by_cases hk:l[i].1=kind
    ·rw [Cs hk,Al];exact de ⟨hm, .inr hk⟩
    ·rw [Fh hk,Ak];exact Zop λ h=>h.2.elim h0 hk
  ·rw [Bool.not_eq_true] at hm;rw [hm,Bool.not_false,Ak];exact Zop λ h=>by rw [hm] at h;exact absurd h.1 Af
theorem gr (l:List Cell) (kind:Int):∃ b,Es l kind=some b/\(b=true↔Hn l kind):=by
 show ∃ b,Es.S (Es.t0 fu) l kind=some b/\_;unfold Es.S;rw [Ba];by_cases h1:1<=l.length
 ·by_cases h2:l.length<=64
  ·rw [Be,Al,Be,Al];obtain ⟨b,k1,k2⟩:=Zfz l h2 kind l.length 0 18446744073709551615 Ad Ad Ad;have ht:Es.t0 fu l kind=some b:=k1;have hb:(kind=1\/kind=2)->(b=true↔Hn l kind):=λ hk=>k2.trans
    ⟨λ h=>⟨h1,h2,hk,λ c hc=>by
     obtain ⟨j,hj,rfl⟩:=List.mem_iff_getElem.1 hc
     exact h j hj (Nat.zero_le _)⟩,λ h j hj _=>h.2.2.2 _ (Ay hj)⟩
   by_cases k1:kind=1
   ·rw [Cs k1,Al];exact ⟨b,ht,hb (.inl k1)⟩
   ·rw [Fh k1,Ak];by_cases k2:kind=2
    ·rw [Cs k2,Al];exact ⟨b,ht,hb (.inr k2)⟩
    ·rw [Fh k2,Ak];exact ⟨false,rfl,⟨λ h=>(by cases h),λ h=>absurd h.2.2.1 Ad⟩⟩
  ·rw [Be,Al,Bw,Ak];exact ⟨false,rfl,⟨λ h=>(by cases h),λ h=>absurd h.2.1 h2⟩⟩
 ·rw [Bw,Ak];exact ⟨false,rfl,⟨λ h=>(by cases h),λ h=>absurd h.1 h1⟩⟩
theorem au {l:List Cell} {kind code:Int} (h:Hn l kind) (BH:∀ c∈l,BN c.2.1) {b:List Int} (hb:GX (Bv l) kind code=some b):LV l kind code=some (ofBytes (Gy (Fv l kind code b)),0):=by
 obtain ⟨v1,v2⟩:=WG h hb;have hc:=Z0 hb;obtain ⟨m,m1,m2⟩:=gr l kind;rw [m2.2 h] at m1;obtain ⟨h1,h2,h3,_⟩:=id h;have NL:0<=kind/\kind<256:=by rcases h3 with rfl | rfl <;> omega
 have Lg:=Uv l;unfold LV;rw [m1,An,Bool.not_true,Al,rL l Ad,An];dsimp only;rw [rD h BH,hb,An];dsimp only;have w8:∀ x:Int,0<=x/\x<256->IntKind.wrap .u8 x=x:=λ x hx=>by rw [KZ];omega
 rw [Bool.not_true,Al,Ba,Cc,CE,w8 kind NL,w8 code Ad,w8 _ Ad,w8 _ Ad];have r1:Dh (ofBytes [kind,code,(l.length:Int),((C1 l).length:Int)]) (ofBytes (C1 l))=true:=Aq (by rw [CE,CE];simp;omega);rw [r1,Ak,GV];have r2:Dh (ofBytes ([kind,code,(l.length:Int),((C1 l).length:Int)]++C1 l)) (ofBytes b)=true:=Aq (by rw [CE,CE];simp;omega);rw [r2,Ak,GV,AA];show (Um (ofBytes (Fv l kind code b))).bind _=_;rw [gd _ (by rw [CE];unfold Fv;simp;omega),An,Ko (aC h2 NL Ad v1)]
theorem ug {l:List Cell} {kind code:Int} (h:Hn l kind) (BH:∀ c∈l,BN c.2.1) (hb:GX (Bv l) kind code=none):LV l kind code=some (eB,1):=by
 obtain ⟨m,m1,m2⟩:=gr l kind;rw [m2.2 h] at m1;have h2:=h.2.1;unfold LV;rw [m1,An,Bool.not_true,Al,rL l Ad,An];dsimp only;rw [rD h BH,hb,An];rfl
theorem yj {l:List Cell} {kind code:Int} (h:¬ Hn l kind):LV l kind code=some (eB,1):=by
 obtain ⟨m,m1,m2⟩:=gr l kind;have:m=false:=by
  cases m with
  | false=>rfl
  | true=>exact absurd (m2.1 rfl) h
 unfold LV;rw [m1,this];rfl
end Go.AM.Pure
end

section
/- BlockPuts and BlockBest. -/
namespace Go.AM.Pure
open Go.AM
end Go.AM.Pure
end
