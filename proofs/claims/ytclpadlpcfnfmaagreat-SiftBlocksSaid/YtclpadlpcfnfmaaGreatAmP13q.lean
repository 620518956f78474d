import Derived.Test.YtclpadlpcfnfmaaGreatAmP13n
section
/- The document's plain numbers and texts, runs and frames: the same bytes. -/
namespace Go.AM.Pure
open Go.AM
theorem yE (a:Int):BL .i64 a 255=a % 256:=by
 unfold BL
 have h:(BitVec.ofInt 64 a &&& BitVec.ofInt 64 255).toNat=(BitVec.ofInt 64 a).toNat % 2 ^ 8:=by
  rw [BitVec.toNat_and,show (BitVec.ofInt 64 255).toNat=2 ^ 8-1 from rfl,Nat.and_two_pow_sub_one_eq_mod]
 show IntKind.wrap .i64 ((BitVec.ofInt 64 a &&& BitVec.ofInt 64 255).toNat:Int)=_
 have h2:=Rl a
 rw [h,Int.natCast_emod,h2,show ((2 ^ 8:Nat):Int)=256 from rfl,Hf (by omega)]
 omega
theorem pE (l:List Int) {o0:List Int→List Int→Int→Option ByteArray} {i:Nat} (hi:i<l.length) (PC:i<1000000):∀ (d k n:Nat) (b:List Int),k+d=8→d<n→b.length<100000000000→
  Dg.l1 o0 n l (b++DQ k (wb l[i] 64)) (i:Int) (k:Int)=o0 l (b++DQ 8 (wb l[i] 64)) ((i:Int)+1)
 | 0,k,n,b,h,hn,hb=>by
  obtain ⟨n,rfl⟩:∃ j,n=j+1:=⟨n-1,by omega⟩
  have:k=8:=by omega
  subst this
  show Dg.S1 _ _ _ _ _ _=_
  unfold Dg.S1
  rw [AZ (by omega),Ac,Bj (a:=(i:Int)) (by omega)]
 | d+1,k,n,b,h,hn,hb=>by
  obtain ⟨n,rfl⟩:∃ j,n=j+1:=⟨n-1,by omega⟩
  show Dg.S1 o0 (Dg.l1 o0 n) _ _ _ _=_
  unfold Dg.S1
  have hm:Cj .i64 8 (k:Int)=((8*k:Nat):Int):=by rw [Jg (by omega)];omega
  have Yrx:IntKind.wrap .u8 (BL .i64 (BH .i64 l[i] ((8*k:Nat):Int)) 255)=l[i] / 2 ^ (8*k) % 256:=by
   rw [NC _ _ (by omega),yE,J4];omega
  rw [Bl (by omega),Aa,Bf (by rw [AW];omega),Aa,hm,Cq (by omega),Aa,B7 (by rw [Ae,LA];omega),Aa,Bz hi,Yrx,Bj (by omega),Al,← tZ l[i] k (by omega)]
  exact pE l hi PC d (k+1) n b (by omega) (by omega) hb
theorem Znp (l:List Int) (hl:l.length≤65536):∀ (d i m:Nat),d=l.length-i→i≤l.length→20<m→
  Dg.l0 (m+d) l (DQ (8*i) (FF (l.take i) 64)) (i:Int)=some (ofBytes (CK l 64)):=by
 intro d
 induction d with
 | zero=>
  intro i m hd hi hm
  have:i=l.length:=by omega
  subst this
  obtain ⟨m,rfl⟩:∃ j,m=j+1:=⟨m-1,by omega⟩
  show Dg.S0 _ _ _ _=_
  unfold Dg.S0
  rw [AW,AZ (by omega),Ac,Ar]
  unfold CK
  rw [show (l.length*64+7) / 8=8*l.length by omega]
 | succ d ih=>
  intro i m hd hi hm
  have AO:i<l.length:=by omega
  show Dg.S0 (Dg.l1 (Dg.l0 (m+d)) (m+d)) _ _ _=_
  unfold Dg.S0
  rw [AW,Bl (by omega),Aa]
  have h1:=pE (o0:=Dg.l0 (m+d)) l AO (by omega) 8 0 (m+d) (DQ (8*i) (FF (l.take i) 64)) rfl (by omega) (by rw [LA];omega)
  rw [show DQ 0 (wb l[i] 64)=[] from rfl,Ay] at h1
  rw [show (0:Int)=((0:Nat):Int) from rfl,h1]
  have:=ih (i+1) m (by omega) (by omega) hm
  rw [take_one AO,Yy,show 8*(i+1)=8*i+8 by omega,Rt _ 8 _ _ (by rw [Rs,Ag];omega)] at this
  exact this
theorem Zfj (l:List Int) (hl:l.length≤65536):Dg l=some (ofBytes (CK l 64)):=by
 have:=Znp l hl l.length 0 (fu-l.length) (by omega) (by omega) (by unfold fu;omega)
 rw [show fu-l.length+l.length=fu by unfold fu;omega] at this
 exact this
theorem Zop (o:List ByteArray) (hl:o.length≤65536) (hs:Ga o):∀ (d i n:Nat),d=o.length-i→i≤o.length→d<n→
  FV.l0 n o (B8 (o.take i)) (i:Int)=some (ofBytes (B8 o),0):=by
 intro d
 induction d with
 | zero=>
  intro i n hd hi hn
  have:i=o.length:=by omega
  subst this
  obtain ⟨n,rfl⟩:∃ k,n=k+1:=⟨n-1,by omega⟩
  show FV.S0 _ _ _ _=_
  unfold FV.S0
  rw [AW,AZ (by omega),Ac,Ar]
 | succ d ih=>
  intro i n hd hi hn
  obtain ⟨n,rfl⟩:∃ k,n=k+1:=⟨n-1,by omega⟩
  have AO:i<o.length:=by omega
  have h1:=L7 (o.take i) (hs.take i)
  rw [Ag] at h1
  have h2:=hs o[i] (Aq AO)
  show FV.S0 (FV.l0 n) _ _ _=_
  unfold FV.S0
  have:=ih (i+1) n (by omega) (by omega) (by omega)
  rw [take_one AO,Yj,show B8 (o.take i)++tB o[i]=B8 (o.take i)++[(o[i].size:Int)]++Bi o[i] by unfold tB;simp] at this
  rw [AW,Bl (by omega),Aa,Bf (by omega),Aa,Bz AO,C6,AZ (by omega),Ac,Aa,B7 (by omega),Aa,Aa,B7 (by rw [Ae,AG];omega),Aa,Bj (by omega),J4,show (o[i].size:Int) % 256=(o[i].size:Int) by omega]
  exact this
theorem dk (o:List ByteArray) (hl:o.length≤65536) (hs:Ga o):FV o=some (ofBytes (B8 o),0):=
 Zop o hl hs o.length 0 fu (by omega) (by omega) (by unfold fu;omega)
theorem ua {x:Int}:∀ (c d:Nat) (A B:List Int),List.replicate c x++A=List.replicate d x++B→A.head?≠some x→B.head?≠some x→c=d∧A=B
 | 0,0,A,B,h,_,_=>⟨rfl,h⟩
 | 0,d+1,A,B,h,ha,_=>by
  exfalso;apply ha
  rw [show A=_ from h];rfl
 | c+1,0,A,B,h,_,hb=>by
  exfalso;apply hb
  rw [show B=_ from h.symm];rfl
 | c+1,d+1,A,B,h,ha,hb=>by
  rw [List.replicate_succ,List.replicate_succ,List.cons_append,List.cons_append] at h
  obtain ⟨h1,h2⟩:=ua c d A B (List.cons.inj h).2 ha hb
  exact ⟨by omega,h2⟩
theorem qn {o:List Dj} {n:Nat} {x:Int} (h:DE n (some x) o):(Cc o).head?≠some x:=by
 cases o with
 | nil=>intro h;cases h
 | cons r o=>
  obtain ⟨_,h1,h2,_⟩:=h
  rw [OJ,show r.2.2.toNat=(r.2.2.toNat-1)+1 by omega,List.replicate_succ]
  intro h
  exact h2 (by simpa using h.symm)
theorem rW:∀ {o q:List Dj} {n:Nat} {p:Option Int},DE n p o→DE n p q→Cc o=Cc q→o=q
 | [],[],_,_,_,_,_=>rfl
 | [],r :: q,_,_,_,h,e=>by
  have h1:=h.2.1
  rw [OJ,show r.2.2.toNat=(r.2.2.toNat-1)+1 by omega,List.replicate_succ] at e
  cases e
 | r :: q,[],_,_,h,_,e=>by
  have h1:=h.2.1
  rw [OJ,show r.2.2.toNat=(r.2.2.toNat-1)+1 by omega,List.replicate_succ] at e
  cases e
 | (x,a,c) :: o,(y,b,d) :: q,n,p,h,k,e=>by
  obtain ⟨h1,h2,_,h4⟩:=h
  obtain ⟨k1,k2,_,k4⟩:=k
  dsimp only at h1 h2 h4 k1 k2 k4
  rw [OJ,OJ] at e
  dsimp only at e
  have Oh:x=y:=by
   rw [show c.toNat=(c.toNat-1)+1 by omega,show d.toNat=(d.toNat-1)+1 by omega,List.replicate_succ,List.replicate_succ] at e
   exact (List.cons.inj e).1
  subst Oh
  obtain ⟨e1,e2⟩:=ua _ _ _ _ e (qn h4) (qn k4)
  rw [e1] at h4
  rw [rW h4 k4 e2,show c=d by omega,h1,k1]
theorem Zdt (l:List Int) (hl:l.length≤65536):∀ (d i n:Nat) (out:List Dj),d=l.length-i→i≤l.length→d<n→Cc out=l.take i→DE 0 none out→Kr none out=(l.take i).getLast?→
  ∃ o,F6.l0 n l (i:Int) out=some o∧Cc o=l∧DE 0 none o:=by
 intro d
 induction d with
 | zero=>
  intro i n out hd hi hn h1 h2 _
  have:i=l.length:=by omega
  subst this
  obtain ⟨n,rfl⟩:∃ k,n=k+1:=⟨n-1,by omega⟩
  rw [Ar] at h1
  refine ⟨out,?_,h1,h2⟩
  show F6.S0 _ _ _ _=_
  unfold F6.S0
  rw [AW,AZ (by omega),Ac]
 | succ d ih=>
  intro i n out hd hi hn h1 h2 h3
  obtain ⟨n,rfl⟩:∃ k,n=k+1:=⟨n-1,by omega⟩
  have AO:i<l.length:=by omega
  have HQ:(Cc out).length=i:=by rw [h1,Ag];omega
  have HU:=JB out 0 none h2
  have Iv:(l.take (i+1)).getLast? = some l[i]:=by rw [take_one AO,List.getLast?_concat]
  have Jn:(Kr none out≠some l[i])→∃ o,F6.l0 n l ((i+1:Nat):Int) (out++[(l[i],(i:Int),1)])=some o∧Cc o=l∧DE 0 none o:=fun Cb=>
   ih (i+1) n _ (by omega) (by omega) (by omega) (by rw [KM,L8,h1,take_one AO];rfl)
    ((Qe _ _ _ _).2 ⟨h2,by rw [HQ];exact ⟨by show (i:Int)=_;omega,by show (1:Int)≤1;omega,Cb,trivial⟩⟩) (by rw [P2,Iv])
  show ∃ o,F6.S0 (F6.l0 n) _ _ _=_∧_
  unfold F6.S0
  rw [AW,Bl (by omega),Aa,Cq (by omega),Aa,Bf (i:=(i:Int)) (by omega),Aa,Aa,Bz AO,Bj (by omega),B7 (by omega),Aa]
  by_cases I0:i=0
  ·subst I0
   rw [AZ (by omega),Ac]
   exact Jn (by rw [h3,List.take_zero];simp)
  ·rw [Bl (by omega),Aa,Dn (a:=(i:Int)) (by omega),Bf (i:=(i:Int)-1) (by omega),Aa]
   have Kw:i-1<l.length:=by omega
   have M3:(l.take i).getLast? = some l[i-1]:=by
    have:l.take i=l.take (i-1)++[l[i-1]]:=by
     have:=take_one Kw
     rwa [show i-1+1=i by omega] at this
    rw [this,List.getLast?_concat]
   rw [M3] at h3
   rw [show (i:Int)-1=((i-1:Nat):Int) by omega,Bz Kw]
   by_cases hq:l[i]=l[i-1]
   ·rw [B0 hq,Aa]
    rcases List.eq_nil_or_concat out with h0 | ⟨o,r,h0⟩
    ·subst h0;cases h3
    ·rw [List.concat_eq_append] at h0
     subst h0
     rw [P2] at h3
     have Lk:r.1=l[i-1]:=Option.some.inj h3
     have bW:o.length<1000000:=by rw [Ae] at HU;omega
     obtain ⟨k1,k2⟩:=(Qe _ _ _ _).1 h2
     obtain ⟨k3,k4,k5,_⟩:=k2
     have Sk:r.2.2.toNat≤i:=by
      rw [KM,L8,Ae,AK] at HQ
      omega
     have Ka:Be .i64 (AP (o++[r])) 1=(o.length:Int):=by rw [AW,Ae,AG,Dn (by omega)];omega
     have LO:List.getD (o++[r]) o.length (0,0,0)=r:=by rw [Ax,Aw (Ah _),Nat.sub_self];rfl
     have QO:∀ r',List.set (o++[r]) o.length r'=o++[r']:=fun r'=>by rw [List.set_append_right _ _ (Ah _),Nat.sub_self];rfl
     rw [Ka,Bf (by rw [AW,Ae,AG];omega),Aa,Aa,show Int.toNat (o.length:Int)=o.length from rfl,LO,QO,Bj (by omega)]
     refine ih (i+1) n _ (by omega) (by omega) (by omega) ?_ ((Qe _ _ _ _).2 ⟨k1,k3,by show 1≤r.2.2+1;omega,k5,trivial⟩) (by rw [P2,Iv,hq];exact h3)
     rw [KM,L8] at h1
     rw [KM,L8,take_one AO,← h1,Al]
     congr 1
     show List.replicate (r.2.2+1).toNat r.1=_
     rw [show (r.2.2+1).toNat=r.2.2.toNat+1 by omega,List.replicate_succ',Lk,hq]
   ·rw [BU hq,Ac]
    exact Jn (by rw [h3];intro h;exact hq (Option.some.inj h).symm)
theorem oS (l:List Int) (hl:l.length≤65536):F6 l=some (Hh l):=by
 obtain ⟨o,h1,h2,h3⟩:=Zdt l hl l.length 0 fu [] (by omega) (by omega) (by unfold fu;omega) rfl trivial rfl
 obtain ⟨_,k2,k3⟩:=NF l hl
 rw [rW h3 k3 (by rw [h2,k2])] at h1
 exact h1
theorem Zpp (o:List Dj) (ho:DE 0 none o) (hl:(Cc o).length≤65536):∀ (d i n:Nat),d=o.length-i→i≤o.length→d<n→
  GF.l0 n o ((Cc (o.take i)).length:Int) (i:Int)=some true:=by
 have HU:=JB o 0 none ho
 intro d
 induction d with
 | zero=>
  intro i n hd hi hn
  have:i=o.length:=by omega
  subst this
  obtain ⟨n,rfl⟩:∃ k,n=k+1:=⟨n-1,by omega⟩
  show GF.S0 _ _ _ _=_
  unfold GF.S0
  rw [AW,AZ (by omega),Ac]
 | succ d ih=>
  intro i n hd hi hn
  obtain ⟨n,rfl⟩:∃ k,n=k+1:=⟨n-1,by omega⟩
  have AO:i<o.length:=by omega
  obtain ⟨k1,k2,k3,k4,k5⟩:=TA ho AO
  show GF.S0 (GF.l0 n) _ _ _=_
  unfold GF.S0
  have Ig:AQ .i64 ((Cc (o.take i)).length:Int) o[i].2.2=((Cc (o.take (i+1))).length:Int):=by rw [Bj (by omega),k4];omega
  have:=ih (i+1) n (by omega) (by omega) (by omega)
  rw [AW,Bl (by omega),Aa,Bf (i:=(i:Int)) (by omega),Aa,Bz AO,Cu k1,Ac,Aa,AZ (by omega),Ac,Aa,Dn (a:=65536) (by omega),AZ (by omega),Ac,Ig,Bj (a:=(i:Int)) (by omega)]
  simp only [Aa]
  by_cases I0:i=0
  ·rw [AZ (by omega),Ac]
   exact this
  ·have Kw:i-1<o.length:=by omega
   have Kh:Kr none (o.take i)=some o[i-1].1:=by
    have:o.take i=o.take (i-1)++[o[i-1]]:=by
     have:=take_one Kw
     rwa [show i-1+1=i by omega] at this
    rw [this,P2]
   rw [Kh] at k3
   rw [Bl (by omega),Aa,Dn (by omega),Bf (by omega),Aa,show (i:Int)-1=((i-1:Nat):Int) by omega,Bz Kw,BU (fun h=>k3 (by rw [h])),Ac]
   exact this
theorem Zqp (o:List Dj) (hl:o.length≤65536) (B1:∀ r∈o,BY r.1∧BY r.2.2):∀ (d i n:Nat),d=o.length-i→i≤o.length→d<n→
  Fy.l0 n o (ofBytes (E8 (o.take i))) (i:Int)=some (ofBytes (E8 o),0):=by
 intro d
 induction d with
 | zero=>
  intro i n hd hi hn
  have:i=o.length:=by omega
  subst this
  obtain ⟨n,rfl⟩:∃ k,n=k+1:=⟨n-1,by omega⟩
  show Fy.S0 _ _ _ _=_
  unfold Fy.S0
  rw [AW,AZ (by omega),Ac,Ar]
 | succ d ih=>
  intro i n hd hi hn
  obtain ⟨n,rfl⟩:∃ k,n=k+1:=⟨n-1,by omega⟩
  have AO:i<o.length:=by omega
  have h1:=OT (o.take i)
  rw [Ag] at h1
  have h2:=FC o[i].1
  have h3:=FC o[i].2.2
  obtain ⟨q1,q2⟩:=B1 o[i] (Aq AO)
  show Fy.S0 (Fy.l0 n) _ _ _=_
  unfold Fy.S0
  have r1:CH (ofBytes (E8 (o.take i))) (ofBytes (vB o[i].1))=true:=Af (by rw [Cg,Cg];omega)
  have r2:CH (ofBytes (E8 (o.take i)++vB o[i].1)) (ofBytes (vB o[i].2.2))=true:=Af (by rw [Cg,Cg,Ae];omega)
  rw [AW,Bl (by omega),Aa,Bf (by omega),Aa,Bz AO,Nu q1,Ad,IC,r1,Aa,Aa,Nu q2,Ad,IC,F7,r2,Aa,F7,Bj (by omega),Al,← qj,← take_one AO]
  exact ih (i+1) n (by omega) (by omega) (by omega)
theorem oE (o:List Dj) (ho:DE 0 none o) (hl:(Cc o).length≤65536) (B1:∀ r∈o,BY r.1):Fy o=some (ofBytes (E8 o),0):=by
 have HU:=JB o 0 none ho
 show Fy.S (Fy.l0 fu) o=_
 unfold Fy.S
 have hm:GF o=some true:=Zpp o ho hl o.length 0 fu (by omega) (by omega) (by unfold fu;omega)
 rw [hm,Ad,Bool.not_true,Ac]
 refine Zqp o (by omega) (fun r hr=>⟨B1 r hr,?_⟩) o.length 0 fu (by omega) (by omega) (by unfold fu;omega)
 obtain ⟨i,hi,rfl⟩:=List.mem_iff_getElem.1 hr
 obtain ⟨_,k2,_,k4,k5⟩:=TA ho hi
 unfold BY
 omega
theorem Zfn (l:List Int) (hl:l.length≤65536) (h0:0<l.length):∀ (d i n:Nat),d=l.length-1-i→i≤l.length-1→d<n→
  GA.l0 n l ((CC l).take i) ((i+1:Nat):Int)=some (CC l):=by
 have D3:=Rp l
 intro d
 induction d with
 | zero=>
  intro i n hd hi hn
  have:i=l.length-1:=by omega
  subst this
  obtain ⟨n,rfl⟩:∃ k,n=k+1:=⟨n-1,by omega⟩
  show GA.S0 _ _ _ _=_
  unfold GA.S0
  rw [AW,AZ (by omega),Ac,AF (by omega)]
 | succ d ih=>
  intro i n hd hi hn
  obtain ⟨n,rfl⟩:∃ k,n=k+1:=⟨n-1,by omega⟩
  have AO:i+1<l.length:=by omega
  have WQ:i<l.length:=by omega
  have PF:i<(CC l).length:=by omega
  have mW:=eD AO PF
  have Gs:=ih (i+1) n (by omega) (by omega) (by omega)
  rw [take_one PF,mW] at Gs
  show GA.S0 (GA.l0 n) _ _ _=_
  unfold GA.S0
  rw [AW,Bl (by omega),Aa,Bf (by omega),Aa,Dn (b:=1) (by omega),show ((i+1:Nat):Int)-1=(i:Int) by omega,Bf (by omega),Aa,B7 (by rw [Ag];omega),Aa,Bz AO,Bz WQ,Bj (by omega)]
  exact Gs
theorem Zgn (x:List Int) (hx:x.length≤65536):∀ (d i n:Nat) (m:Int),d=x.length-i→i≤x.length→d<n→FL.l0 n x m (i:Int)=some ((x.drop i).foldl DP m):=by
 intro d
 induction d with
 | zero=>
  intro i n m hd hi hn
  have:i=x.length:=by omega
  subst this
  obtain ⟨n,rfl⟩:∃ k,n=k+1:=⟨n-1,by omega⟩
  show FL.S0 _ _ _ _=_
  unfold FL.S0
  rw [AW,AZ (by omega),Ac,List.drop_length]
  rfl
 | succ d ih=>
  intro i n m hd hi hn
  obtain ⟨n,rfl⟩:∃ k,n=k+1:=⟨n-1,by omega⟩
  have AO:i<x.length:=by omega
  show FL.S0 (FL.l0 n) _ _ _=_
  unfold FL.S0
  rw [AW,Bl (by omega),Aa,Bf (by omega),Aa,Bz AO,Bj (by omega),List.drop_eq_getElem_cons AO,List.foldl_cons]
  exact ih (i+1) n _ (by omega) (by omega) (by omega)
theorem Zhn (m:Int) (D:List Int) (hD:D.length≤65536) (s:ByteArray):∀ (d i n:Nat),d=D.length-i→i≤D.length→d<n→
  Dl.l0 (Dl.t1 fu) n s D m ((D.take i).map fun x=>GR (x-m)) (i:Int)=Dl.S1 s m (D.map fun x=>GR (x-m)):=by
 intro d
 induction d with
 | zero=>
  intro i n hd hi hn
  have:i=D.length:=by omega
  subst this
  obtain ⟨n,rfl⟩:∃ k,n=k+1:=⟨n-1,by omega⟩
  show Dl.S0 Dl.S1 _ _ _ _ _ _=_
  unfold Dl.S0
  rw [AW,AZ (by omega),Ac,Ar]
 | succ d ih=>
  intro i n hd hi hn
  obtain ⟨n,rfl⟩:∃ k,n=k+1:=⟨n-1,by omega⟩
  have AO:i<D.length:=by omega
  have Gs:=ih (i+1) n (by omega) (by omega) (by omega)
  rw [take_one AO,AE] at Gs
  show Dl.S0 _ (Dl.l0 (Dl.t1 fu) n) _ _ _ _ _=_
  unfold Dl.S0
  rw [AW,Bl (by omega),Aa,Bf (by omega),Aa,B7 (by rw [Ai,Ag];omega),Aa,Bz AO,Bj (by omega)]
  exact Gs
theorem Zbm (l:List Int) (hl:l.length≤65536) (B1:∀ x∈l,BY x):Dl l=some (ofBytes (M0 l (C2 (DH l))),0):=by
 show Dl.S (Dl.l0 (Dl.t1 fu) fu) l=_
 unfold Dl.S M0
 rw [AW,AZ (by omega),Ac]
 by_cases h0:l.length=0
 ·rw [B0 (by omega),Aa,if_pos h0]
  rfl
 ·rw [BU (by omega),Ac,if_neg h0]
  have Iw:0<l.length:=by omega
  have JR:l.getD 0 0=l[0]:=getD_at Iw
  have Df:nth l 0 0=l.getD 0 0:=rfl
  have hq:BY (l.getD 0 0):=by rw [JR];exact B1 _ (Aq Iw)
  rw [Bf (by omega),Aa,Df,Nu hq,Ad,IC]
  by_cases h1:l.length=1
  ·rw [B0 (by omega),Aa,if_pos h1]
  ·have D3:=Rp l
   have EP:GA l=some (CC l):=Zfn l hl Iw (l.length-1) 0 fu (by omega) (by omega) (by unfold fu;omega)
   have PL:FL (CC l)=some (EH (CC l)):=by
    show FL.S (FL.l0 fu) (CC l)=_
    unfold FL.S
    rw [Bf (by rw [AW];omega),Aa]
    exact Zgn (CC l) (by omega) ((CC l).length-1) 1 fu (nth (CC l) 0 0) (by omega) (by omega) (by unfold fu;omega)
   have hw:=Zhn (EH (CC l)) (CC l) (by omega) (ofBytes (vB (l.getD 0 0))) (CC l).length 0 fu (by omega) (by omega) (by unfold fu;omega)
   have HQ:=Rj l
   obtain ⟨_,w2,_⟩:=Ic (DH l) (by omega)
   have hb:(DH l).length*C2 (DH l)≤65536*64:=Nat.mul_le_mul (by omega) w2
   have CE:=Jy (DH l) (C2 (DH l))
   have k1:=FC (l.getD 0 0)
   have k2:=FC (EH (CC l))
   rw [BU (by omega),Ac,if_neg h1,EP,Ad,PL,Ad]
   refine Eq.trans hw ?_
   show Dl.S1 _ _ (DH l)=_
   unfold Dl.S1
   rw [XY _ (by omega),Ad,Yc _ w2 (by omega) (Ah _),Ad,Nu (qi (by omega) (pB l)),Ad,IC,F7,Zc w2,F7]
   have r1:CH (ofBytes (vB (l.getD 0 0))) (ofBytes (vB (EH (CC l))))=true:=Af (by rw [Cg,Cg];omega)
   have r2:CH (ofBytes (vB (l.getD 0 0)++vB (EH (CC l)))) (ofBytes [(C2 (DH l):Int)])=true:=Af (by rw [Cg,Cg,Ae,AG];omega)
   have r3:CH (ofBytes (vB (l.getD 0 0)++vB (EH (CC l))++[(C2 (DH l):Int)])) (ofBytes (CK (DH l) (C2 (DH l))))=true:=Af (by rw [Cg,Cg,Ae,Ae,AG];omega)
   dsimp only
   rw [r1,r2,r3,F7,Aa,Aa,Aa]
   simp
end Go.AM.Pure
end

section
/- The document's dictionaries: distinct values, by insertion, and the places. Printed for numbers and texts alike by mk13r.py. -/
namespace Go.AM.Pure
open Go.AM
section
variable {α : Type} {c : α → α → Int}
theorem fx (c:α→α→Int) (x:α):∀ d:List α,∃ p q,d=p++q∧(∀ y∈p,c y x = -1)∧∀ z r,q=z :: r→¬ c z x = -1
 | []=>⟨[],[],rfl,fun _ h=>(by cases h),fun _ _ h=>(by cases h)⟩
 | a :: d=>by
  by_cases h:c a x = -1
  ·obtain ⟨p,q,h1,h2,h3⟩:=fx c x d
   refine ⟨a :: p,q,by rw [h1];rfl,fun y hy=>?_,h3⟩
   rcases List.mem_cons.1 hy with rfl | hy
   ·exact h
   ·exact h2 y hy
  ·exact ⟨[],a :: d,rfl,fun _ h=>(by cases h),fun z r e=>by cases e;exact h⟩
theorem qm {p q:List α} {x:α} {l:List α} (h:GL c (p++q) l) (hx:x∈p++q):GL c (p++q) (l++[x]):=
 ⟨h.1,fun y=>by
  rw [List.mem_append (t:=[x]),AL,← h.2 y]
  exact ⟨.inl,fun h=>h.elim id fun e=>e ▸ hx⟩⟩
theorem rV (o:Ord3 c) {p q:List α} {x:α} {l:List α} (h:GL c (p++q) l) (hp:∀ y∈p,c y x = -1) (hq:∀ z r,q=z :: r→¬ c z x = -1∧z≠x):GL c (p++[x]++q) (l++[x]):=by
 obtain ⟨h1,h2⟩:=h
 obtain ⟨k1,k2,k3⟩:=List.pairwise_append.1 h1
 have hxq:∀ y∈q,c x y = -1:=fun y hy=>by
  cases q with
  | nil=>cases hy
  | cons z r=>
   obtain ⟨m1,m2⟩:=hq z r rfl
   have hz:c x z = -1:=by
    rw [o.neg z x]
    rcases o.rng z x with h | h | h
    ·exact absurd h m1
    ·exact absurd ((o.eq0 _ _).1 h) m2
    ·rw [h]
   rcases List.mem_cons.1 hy with rfl | hy
   ·exact hz
   ·exact o.tr _ _ _ hz ((List.pairwise_cons.1 k2).1 y hy)
 constructor
 ·unfold MG
  rw [Al,List.pairwise_append]
  refine ⟨k1,?_,fun a ha b hb=>?_⟩
  ·rw [List.singleton_append,List.pairwise_cons]
   exact ⟨hxq,k2⟩
  ·rcases List.mem_append.1 hb with hb | hb
   ·rw [List.mem_singleton.1 hb];exact hp a ha
   ·exact k3 a ha b hb
 ·intro y
  rw [List.mem_append (t:=[x]),AL,← h2 y]
  simp only [List.mem_append,AL]
  constructor
  ·rintro ((h | h) | h)
   ·exact .inl (.inl h)
   ·exact .inr h
   ·exact .inl (.inr h)
  ·rintro ((h | h) | h)
   ·exact .inl (.inl h)
   ·exact .inr h
   ·exact .inl (.inr h)
end
theorem yF (a b:Int):AS a b=decide (FH a b = -1):=by
 show decide (a<b)=_
 unfold FH
 by_cases h:a<b
 ·rw [if_pos h,Af h];rfl
 ·rw [if_neg h,An h]
  split <;> rfl
theorem Zv2 (l:List Int):GL FH (BP l) l:=⟨(Lv l).1.imp fun {a b} h=>by unfold FH;rw [if_pos h],(Lv l).2⟩
theorem Yb3 (l:List Int):Ik (BP l) l=Cf l:=rfl
theorem Zw2 {l d:List Int} {places:List Int} {i:Nat} (hi:i<l.length) (PC:i<1000000) (hd:d.length<1000000) {p q:List Int} (Fe:d=p++q) (hp:∀ y∈p,FH y l[i] = -1) (hq:∀ z r,q=z :: r→¬ FH z l[i] = -1) {o2:List Int→List Int→List Int→Int→Int→Option (List Int×List Int)}:
  ∀ (g j n:Nat),g=p.length-j→j≤p.length→g<n→Bn.l1 o2 n l d places (i:Int) (j:Int)=o2 l d places (i:Int) (p.length:Int):=by
 have CE:d.length=p.length+q.length:=by rw [Fe,Ae]
 intro g
 induction g with
 | zero=>
  intro j n hg hj hn
  have:j=p.length:=by omega
  subst this
  obtain ⟨n,rfl⟩:∃ k,n=k+1:=⟨n-1,by omega⟩
  show Bn.S1 _ _ _ _ _ _ _=_
  unfold Bn.S1
  cases q with
  | nil=>
   rw [List.length_nil] at CE
   rw [AW,AZ (by omega),Ac]
  | cons z r=>
   rw [Aj] at CE
   have hz:d[p.length]'(by omega)=z:=by simp only [Fe,List.getElem_append_right (Ah _),Nat.sub_self,List.getElem_cons_zero]
   rw [AW,Bl (by omega),Aa,Bf (by omega),Aa,Bf (by rw [AW];omega),Aa,Bz (show p.length<d.length by omega),hz,Bz hi,yF,An (hq z r rfl),Ac]
 | succ g ih=>
  intro j n hg hj hn
  obtain ⟨n,rfl⟩:∃ k,n=k+1:=⟨n-1,by omega⟩
  have Xs:j<p.length:=by omega
  have hz:d[j]'(by omega)=p[j]:=by simp only [Fe,List.getElem_append_left Xs]
  show Bn.S1 o2 (Bn.l1 o2 n) _ _ _ _ _=_
  unfold Bn.S1
  rw [AW,Bl (by omega),Aa,Bf (by omega),Aa,Bf (by rw [AW];omega),Aa,Bz (show j<d.length by omega),hz,Bz hi,yF,Af (hp _ (Aq Xs)),Aa,Bj (by omega)]
  exact ih (j+1) n (by omega) (by omega) (by omega)
theorem Ymj (l:List Int) (hl:l.length≤65536) {o4:List Int→List Int→List Int→Option (List Int×List Int)}:∀ (g i m:Nat) (d:List Int),g=l.length-i→i≤l.length→200000<m→GL FH d (l.take i)→d.length≤i→
  ∃ D,Bn.l0 o4 (m+g) l d [] (i:Int)=o4 l D []∧GL FH D l∧D.length≤l.length:=by
 intro g
 induction g with
 | zero=>
  intro i m d hg hi hm hd D3
  have:i=l.length:=by omega
  subst this
  obtain ⟨m,rfl⟩:∃ k,m=k+1:=⟨m-1,by omega⟩
  rw [Ar] at hd
  refine ⟨d,?_,hd,D3⟩
  show Bn.S0 _ _ _ _ _ _=_
  unfold Bn.S0
  rw [AW,AZ (by omega),Ac]
 | succ g ih=>
  intro i m d hg hi hm hd D3
  have AO:i<l.length:=by omega
  obtain ⟨p,q,Fe,hp,hq⟩:=fx FH l[i] d
  have CE:d.length=p.length+q.length:=by rw [Fe,Ae]
  have kB:=Zw2 (places:=[]) AO (by omega) (by omega) Fe hp hq (o2:=Bn.t2 (Bn.l0 o4 (m+g)) (m+g)) p.length 0 (m+g) (by omega) (by omega) (by omega)
  have Sq:((i:Int)+1)=((i+1:Nat):Int):=rfl
  obtain ⟨e,he⟩:∃ e,m+g=e+2:=⟨m+g-2,by omega⟩
  show ∃ D,Bn.S0 o4 (Bn.l1 (Bn.t2 (Bn.l0 o4 (m+g)) (m+g)) (m+g)) l d [] (i:Int)=_∧_
  unfold Bn.S0
  rw [AW,Bl (by omega),Aa,show (0:Int)=((0:Nat):Int) from rfl,kB]
  have h2:Bn.t2 (Bn.l0 o4 (m+g)) (m+g)=Bn.S2 (Bn.l0 o4 (m+g)) (Bn.S3 (Bn.l0 o4 (m+g))):=by
   generalize Bn.l0 o4 (m+g)=z
   rw [he]
   rfl
  rw [h2]
  unfold Bn.S2
  have WX:(∀ z r,q=z :: r→¬ FH z l[i] = -1∧z≠l[i])→∃ D,Bn.S3 (Bn.l0 o4 (m+g)) l d [] (i:Int) (p.length:Int)=o4 l D []∧GL FH D l∧D.length≤l.length:=fun Cb=>by
   unfold Bn.S3
   have Fc:List.take (Int.toNat (p.length:Int)) d=p:=by rw [Fe];exact List.take_left
   have Ll:List.drop (Int.toNat (p.length:Int)) d=q:=by rw [Fe];exact List.drop_left
   rw [AW,Ey (by omega),Aa,Fc,Ll,B7 (by omega),Aa,Bf (by rw [AW];omega),Aa,B7 (by omega),Aa,Ey (by omega),Aa,Bz AO,B7 (by rw [Ae,AG];omega),Aa,Bj (by omega),Sq]
   exact ih (i+1) m _ (by omega) (by omega) hm (by rw [take_one AO];exact rV Vp (Fe ▸ hd) hp Cb) (by rw [Ae,Ae,AG];omega)
  cases Ju:q with
  | nil=>
   rw [Ju,List.length_nil] at CE
   rw [AW,AZ (by omega),Ac]
   exact WX fun z r e=>by rw [Ju] at e;cases e
  | cons z r=>
   rw [Ju,Aj] at CE
   have hz:d[p.length]'(by omega)=z:=by simp only [Fe,Ju,List.getElem_append_right (Ah _),Nat.sub_self,List.getElem_cons_zero]
   rw [AW,Bl (by omega),Aa,Bf (by omega),Aa,Bf (by rw [AW];omega),Aa,Bz (show p.length<d.length by omega),hz,Bz AO]
   by_cases PI:z=l[i]
   ·rw [B0 PI,Aa,Bj (by omega),Sq]
    exact ih (i+1) m d (by omega) (by omega) hm (by rw [take_one AO,Fe];exact qm (Fe ▸ hd) (by rw [Ju,PI];simp)) (by omega)
   ·rw [BU PI,Ac]
    exact WX fun z' r' e=>by
     rw [Ju] at e
     cases e
     exact ⟨hq z r Ju,PI⟩
theorem Zbt {l d:List Int} (hl:l.length≤65536) (D3:d.length≤l.length) (hd:GL FH d l) {i:Nat} (hi:i<l.length) {places:List Int} (CE:places.length≤65536) {o5:List Int→List Int→List Int→Int→Option (List Int×List Int)}:
  ∀ (g j n:Nat),g=idx d l[i]-j→j≤idx d l[i]→g<n→Bn.l6 o5 n l d places (i:Int) (j:Int)=o5 l d (places++[(idx d l[i]:Int)]) ((i:Int)+1):=by
 have hk:=Qp ((hd.2 _).2 (Aq hi))
 have hg:=Vs hk
 intro g
 induction g with
 | zero=>
  intro j n PJ hj hn
  have:j=idx d l[i]:=by omega
  subst this
  obtain ⟨n,rfl⟩:∃ k,n=k+1:=⟨n-1,by omega⟩
  show Bn.S6 _ _ _ _ _ _ _=_
  unfold Bn.S6
  rw [AW,Bf (by omega),Aa,AW,Bf (by omega),Aa,Bz hk,hg,Bz hi,Cu rfl,Ac,B7 (by omega),Aa,Bj (by omega)]
 | succ g ih=>
  intro j n PJ hj hn
  obtain ⟨n,rfl⟩:∃ k,n=k+1:=⟨n-1,by omega⟩
  have Xt:j<d.length:=by omega
  have Cb:¬ d[j]=l[i]:=fun e=>by
   have:=hd.1.inj Vp Xt hk (e.trans hg.symm)
   omega
  show Bn.S6 o5 (Bn.l6 o5 n) _ _ _ _ _=_
  unfold Bn.S6
  rw [AW,Bf (by omega),Aa,AW,Bf (by omega),Aa,Bz Xt,Bz hi,Jl Cb,Aa,Bj (by omega)]
  exact ih (j+1) n (by omega) (by omega) (by omega)
theorem Zlp {l d:List Int} (hl:l.length≤65536) (D3:d.length≤l.length) (hd:GL FH d l):∀ (g i m:Nat),g=l.length-i→i≤l.length→200000<m→
  Bn.l5 (m+g) l d ((Ik d l).take i) (i:Int)=some (d,Ik d l):=by
 have CE:=J1 d l
 intro g
 induction g with
 | zero=>
  intro i m hg hi hm
  have:i=l.length:=by omega
  subst this
  obtain ⟨m,rfl⟩:∃ k,m=k+1:=⟨m-1,by omega⟩
  show Bn.S5 _ _ _ _ _=_
  unfold Bn.S5
  rw [AW,AZ (by omega),Ac,AF (by omega)]
 | succ g ih=>
  intro i m hg hi hm
  have AO:i<l.length:=by omega
  have hk:=Qp ((hd.2 _).2 (Aq AO))
  show Bn.S5 (Bn.l6 (Bn.l5 (m+g)) (m+g)) _ _ _ _=_
  unfold Bn.S5
  have:=Zbt hl D3 hd AO (places:=(Ik d l).take i) (by rw [Ag];omega) (o5:=Bn.l5 (m+g)) (idx d l[i]) 0 (m+g) (by omega) (by omega) (by omega)
  rw [AW,Bl (by omega),Aa,show (0:Int)=((0:Nat):Int) from rfl,this]
  have h2:=ih (i+1) m (by omega) (by omega) hm
  rw [take_one (by omega),fW AO] at h2
  exact h2
theorem Zuk (l:List Int) (hl:l.length≤65536):Bn l=some (BP l,Ik (BP l) l):=by
 show Bn.S (Bn.l0 (Bn.t4 fu) fu) l=_
 unfold Bn.S
 obtain ⟨D,h1,h2,h3⟩:=Ymj l hl (o4:=Bn.t4 fu) l.length 0 (fu-l.length) [] (by omega) (by omega) (by unfold fu;omega) ⟨List.Pairwise.nil,fun x=>by simp⟩ (by simp)
 rw [show fu-l.length+l.length=fu by unfold fu;omega] at h1
 have hD:D=BP l:=h2.uniq Vp (Zv2 l)
 subst hD
 refine Eq.trans h1 ?_
 show Bn.S4 (Bn.l5 18446744073709551615) _ _ _=_
 unfold Bn.S4
 have:=Zlp hl h3 h2 l.length 0 (18446744073709551615-l.length) (by omega) (by omega) (by omega)
 rw [show 18446744073709551615-l.length+l.length=18446744073709551615 by omega] at this
 exact this
theorem Ypx {a b:ByteArray} (h:a=b):(!(Cn a b))=false:=by rw [KY h];rfl
theorem Yqx {a b:ByteArray} (h:¬ a=b):(!(Cn a b))=true:=by rw [Pe h];rfl
theorem Zx2 {l d:List ByteArray} {places:List Int} {i:Nat} (hi:i<l.length) (PC:i<1000000) (hd:d.length<1000000) {p q:List ByteArray} (Fe:d=p++q) (hp:∀ y∈p,GZ y l[i] = -1) (hq:∀ z r,q=z :: r→¬ GZ z l[i] = -1) {o2:List ByteArray→List ByteArray→List Int→Int→Int→Option (List ByteArray×List Int)}:
  ∀ (g j n:Nat),g=p.length-j→j≤p.length→g<n→Bm.l1 o2 n l d places (i:Int) (j:Int)=o2 l d places (i:Int) (p.length:Int):=by
 have CE:d.length=p.length+q.length:=by rw [Fe,Ae]
 intro g
 induction g with
 | zero=>
  intro j n hg hj hn
  have:j=p.length:=by omega
  subst this
  obtain ⟨n,rfl⟩:∃ k,n=k+1:=⟨n-1,by omega⟩
  show Bm.S1 _ _ _ _ _ _ _=_
  unfold Bm.S1
  cases q with
  | nil=>
   rw [List.length_nil] at CE
   rw [AW,AZ (by omega),Ac]
  | cons z r=>
   rw [Aj] at CE
   have hz:d[p.length]'(by omega)=z:=by simp only [Fe,List.getElem_append_right (Ah _),Nat.sub_self,List.getElem_cons_zero]
   rw [AW,Bl (by omega),Aa,Bf (by omega),Aa,Bf (by rw [AW];omega),Aa,Bz (show p.length<d.length by omega),hz,Bz hi,Wq,An (hq z r rfl),Ac]
 | succ g ih=>
  intro j n hg hj hn
  obtain ⟨n,rfl⟩:∃ k,n=k+1:=⟨n-1,by omega⟩
  have Xs:j<p.length:=by omega
  have hz:d[j]'(by omega)=p[j]:=by simp only [Fe,List.getElem_append_left Xs]
  show Bm.S1 o2 (Bm.l1 o2 n) _ _ _ _ _=_
  unfold Bm.S1
  rw [AW,Bl (by omega),Aa,Bf (by omega),Aa,Bf (by rw [AW];omega),Aa,Bz (show j<d.length by omega),hz,Bz hi,Wq,Af (hp _ (Aq Xs)),Aa,Bj (by omega)]
  exact ih (j+1) n (by omega) (by omega) (by omega)
theorem Ynj (l:List ByteArray) (hl:l.length≤65536) {o4:List ByteArray→List ByteArray→List Int→Option (List ByteArray×List Int)}:∀ (g i m:Nat) (d:List ByteArray),g=l.length-i→i≤l.length→200000<m→GL GZ d (l.take i)→d.length≤i→
  ∃ D,Bm.l0 o4 (m+g) l d [] (i:Int)=o4 l D []∧GL GZ D l∧D.length≤l.length:=by
 intro g
 induction g with
 | zero=>
  intro i m d hg hi hm hd D3
  have:i=l.length:=by omega
  subst this
  obtain ⟨m,rfl⟩:∃ k,m=k+1:=⟨m-1,by omega⟩
  rw [Ar] at hd
  refine ⟨d,?_,hd,D3⟩
  show Bm.S0 _ _ _ _ _ _=_
  unfold Bm.S0
  rw [AW,AZ (by omega),Ac]
 | succ g ih=>
  intro i m d hg hi hm hd D3
  have AO:i<l.length:=by omega
  obtain ⟨p,q,Fe,hp,hq⟩:=fx GZ l[i] d
  have CE:d.length=p.length+q.length:=by rw [Fe,Ae]
  have kB:=Zx2 (places:=[]) AO (by omega) (by omega) Fe hp hq (o2:=Bm.t2 (Bm.l0 o4 (m+g)) (m+g)) p.length 0 (m+g) (by omega) (by omega) (by omega)
  have Sq:((i:Int)+1)=((i+1:Nat):Int):=rfl
  obtain ⟨e,he⟩:∃ e,m+g=e+2:=⟨m+g-2,by omega⟩
  show ∃ D,Bm.S0 o4 (Bm.l1 (Bm.t2 (Bm.l0 o4 (m+g)) (m+g)) (m+g)) l d [] (i:Int)=_∧_
  unfold Bm.S0
  rw [AW,Bl (by omega),Aa,show (0:Int)=((0:Nat):Int) from rfl,kB]
  have h2:Bm.t2 (Bm.l0 o4 (m+g)) (m+g)=Bm.S2 (Bm.l0 o4 (m+g)) (Bm.S3 (Bm.l0 o4 (m+g))):=by
   generalize Bm.l0 o4 (m+g)=z
   rw [he]
   rfl
  rw [h2]
  unfold Bm.S2
  have WX:(∀ z r,q=z :: r→¬ GZ z l[i] = -1∧z≠l[i])→∃ D,Bm.S3 (Bm.l0 o4 (m+g)) l d [] (i:Int) (p.length:Int)=o4 l D []∧GL GZ D l∧D.length≤l.length:=fun Cb=>by
   unfold Bm.S3
   have Fc:List.take (Int.toNat (p.length:Int)) d=p:=by rw [Fe];exact List.take_left
   have Ll:List.drop (Int.toNat (p.length:Int)) d=q:=by rw [Fe];exact List.drop_left
   rw [AW,Ey (by omega),Aa,Fc,Ll,B7 (by omega),Aa,Bf (by rw [AW];omega),Aa,B7 (by omega),Aa,Ey (by omega),Aa,Bz AO,B7 (by rw [Ae,AG];omega),Aa,Bj (by omega),Sq]
   exact ih (i+1) m _ (by omega) (by omega) hm (by rw [take_one AO];exact rV Lz (Fe ▸ hd) hp Cb) (by rw [Ae,Ae,AG];omega)
  cases Ju:q with
  | nil=>
   rw [Ju,List.length_nil] at CE
   rw [AW,AZ (by omega),Ac]
   exact WX fun z r e=>by rw [Ju] at e;cases e
  | cons z r=>
   rw [Ju,Aj] at CE
   have hz:d[p.length]'(by omega)=z:=by simp only [Fe,Ju,List.getElem_append_right (Ah _),Nat.sub_self,List.getElem_cons_zero]
   rw [AW,Bl (by omega),Aa,Bf (by omega),Aa,Bf (by rw [AW];omega),Aa,Bz (show p.length<d.length by omega),hz,Bz AO]
   by_cases PI:z=l[i]
   ·rw [KY PI,Aa,Bj (by omega),Sq]
    exact ih (i+1) m d (by omega) (by omega) hm (by rw [take_one AO,Fe];exact qm (Fe ▸ hd) (by rw [Ju,PI];simp)) (by omega)
   ·rw [Pe PI,Ac]
    exact WX fun z' r' e=>by
     rw [Ju] at e
     cases e
     exact ⟨hq z r Ju,PI⟩
theorem Zct {l d:List ByteArray} (hl:l.length≤65536) (D3:d.length≤l.length) (hd:GL GZ d l) {i:Nat} (hi:i<l.length) {places:List Int} (CE:places.length≤65536) {o5:List ByteArray→List ByteArray→List Int→Int→Option (List ByteArray×List Int)}:
  ∀ (g j n:Nat),g=idx d l[i]-j→j≤idx d l[i]→g<n→Bm.l6 o5 n l d places (i:Int) (j:Int)=o5 l d (places++[(idx d l[i]:Int)]) ((i:Int)+1):=by
 have hk:=Qp ((hd.2 _).2 (Aq hi))
 have hg:=Vs hk
 intro g
 induction g with
 | zero=>
  intro j n PJ hj hn
  have:j=idx d l[i]:=by omega
  subst this
  obtain ⟨n,rfl⟩:∃ k,n=k+1:=⟨n-1,by omega⟩
  show Bm.S6 _ _ _ _ _ _ _=_
  unfold Bm.S6
  rw [AW,Bf (by omega),Aa,AW,Bf (by omega),Aa,Bz hk,hg,Bz hi,Ypx rfl,Ac,B7 (by omega),Aa,Bj (by omega)]
 | succ g ih=>
  intro j n PJ hj hn
  obtain ⟨n,rfl⟩:∃ k,n=k+1:=⟨n-1,by omega⟩
  have Xt:j<d.length:=by omega
  have Cb:¬ d[j]=l[i]:=fun e=>by
   have:=hd.1.inj Lz Xt hk (e.trans hg.symm)
   omega
  show Bm.S6 o5 (Bm.l6 o5 n) _ _ _ _ _=_
  unfold Bm.S6
  rw [AW,Bf (by omega),Aa,AW,Bf (by omega),Aa,Bz Xt,Bz hi,Yqx Cb,Aa,Bj (by omega)]
  exact ih (j+1) n (by omega) (by omega) (by omega)
theorem Zmp {l d:List ByteArray} (hl:l.length≤65536) (D3:d.length≤l.length) (hd:GL GZ d l):∀ (g i m:Nat),g=l.length-i→i≤l.length→200000<m→
  Bm.l5 (m+g) l d ((Ik d l).take i) (i:Int)=some (d,Ik d l):=by
 have CE:=J1 d l
 intro g
 induction g with
 | zero=>
  intro i m hg hi hm
  have:i=l.length:=by omega
  subst this
  obtain ⟨m,rfl⟩:∃ k,m=k+1:=⟨m-1,by omega⟩
  show Bm.S5 _ _ _ _ _=_
  unfold Bm.S5
  rw [AW,AZ (by omega),Ac,AF (by omega)]
 | succ g ih=>
  intro i m hg hi hm
  have AO:i<l.length:=by omega
  have hk:=Qp ((hd.2 _).2 (Aq AO))
  show Bm.S5 (Bm.l6 (Bm.l5 (m+g)) (m+g)) _ _ _ _=_
  unfold Bm.S5
  have:=Zct hl D3 hd AO (places:=(Ik d l).take i) (by rw [Ag];omega) (o5:=Bm.l5 (m+g)) (idx d l[i]) 0 (m+g) (by omega) (by omega) (by omega)
  rw [AW,Bl (by omega),Aa,show (0:Int)=((0:Nat):Int) from rfl,this]
  have h2:=ih (i+1) m (by omega) (by omega) hm
  rw [take_one (by omega),fW AO] at h2
  exact h2
theorem oc (l:List ByteArray) (hl:l.length≤65536):Bm l=some (BN l,Ik (BN l) l):=by
 show Bm.S (Bm.l0 (Bm.t4 fu) fu) l=_
 unfold Bm.S
 obtain ⟨D,h1,h2,h3⟩:=Ynj l hl (o4:=Bm.t4 fu) l.length 0 (fu-l.length) [] (by omega) (by omega) (by unfold fu;omega) ⟨List.Pairwise.nil,fun x=>by simp⟩ (by simp)
 rw [show fu-l.length+l.length=fu by unfold fu;omega] at h1
 have hD:D=BN l:=h2.uniq Lz (OD l)
 subst hD
 refine Eq.trans h1 ?_
 show Bm.S4 (Bm.l5 18446744073709551615) _ _ _=_
 unfold Bm.S4
 have:=Zmp hl h3 h2 l.length 0 (18446744073709551615-l.length) (by omega) (by omega) (by omega)
 rw [show 18446744073709551615-l.length+l.length=18446744073709551615 by omega] at this
 exact this
end Go.AM.Pure
end

section
/- The document's sum of bytes, its codes, and its blocks: the same bytes as the program's. -/
namespace Go.AM.Pure
open Go.AM
theorem Zqd {a b:Nat} (ha:a<4294967296) (hb:b<4294967296):Fq .i64 (a:Int) (b:Int)=((a ^^^ b:Nat):Int):=by
 have h:=Nat.xor_lt_two_pow (n:=32) ha hb
 unfold Fq
 have e:(BitVec.ofInt 64 (a:Int) ^^^ BitVec.ofInt 64 (b:Int)).toNat=a ^^^ b:=by
  rw [BitVec.toNat_xor,BitVec.ofInt_natCast,BitVec.ofInt_natCast,BitVec.toNat_ofNat,BitVec.toNat_ofNat,Nat.mod_eq_of_lt (by omega),Nat.mod_eq_of_lt (by omega)]
 show IntKind.wrap .i64 ((BitVec.ofInt 64 (a:Int) ^^^ BitVec.ofInt 64 (b:Int)).toNat:Int)=_
 rw [e]
 exact Hf (by omega)
theorem Zd (n:Int):IntKind.wrap .u32 n=n % 4294967296:=by
 unfold IntKind.wrap
 rfl
theorem kA {a b:Nat} (ha:a<4294967296) (hb:b<4294967296):Fq .u32 (a:Int) (b:Int)=((a ^^^ b:Nat):Int):=by
 have h:=Nat.xor_lt_two_pow (n:=32) ha hb
 unfold Fq
 have e:(BitVec.ofInt 32 (a:Int) ^^^ BitVec.ofInt 32 (b:Int)).toNat=a ^^^ b:=by
  rw [BitVec.toNat_xor,BitVec.ofInt_natCast,BitVec.ofInt_natCast,BitVec.toNat_ofNat,BitVec.toNat_ofNat,Nat.mod_eq_of_lt (by omega),Nat.mod_eq_of_lt (by omega)]
 show IntKind.wrap .u32 ((BitVec.ofInt 32 (a:Int) ^^^ BitVec.ofInt 32 (b:Int)).toNat:Int)=_
 rw [e,Zd]
 omega
def aS (n:Nat):Nat:=(n / 2) ^^^ (if n % 2=1 then 2197175160 else 0)
theorem Ylj (n:Nat) (_:n<4294967296):BL .u32 (n:Int) 1=((n % 2:Nat):Int):=by
 unfold BL
 have e:(BitVec.ofInt 32 (n:Int) &&& BitVec.ofInt 32 1).toNat=n % 4294967296 % 2:=by
  rw [BitVec.toNat_and,BitVec.ofInt_natCast,BitVec.toNat_ofNat,show (BitVec.ofInt 32 1).toNat=2 ^ 1-1 from rfl,Nat.and_two_pow_sub_one_eq_mod]
 show IntKind.wrap .u32 ((BitVec.ofInt 32 (n:Int) &&& BitVec.ofInt 32 1).toNat:Int)=_
 rw [e,Zd]
 omega
theorem Zmg (k:IntKind) (hk:1≤k.bits) (n:Nat):BH k (n:Int) 1=((n / 2:Nat):Int):=by
 unfold BH
 rw [show min (Int.toNat 1) k.bits=1 from Nat.min_eq_left hk,show (2:Int) ^ 1=2 from rfl,show ((n / 2:Nat):Int)=(n:Int) / 2 from by omega,Int.fdiv_eq_ediv_of_nonneg _ (by omega)]
theorem Zgp {n:Nat} (h:n<4294967296):Vq (n:Int)=(aS n:Int):=by
 have hm:BL .u32 2197175160 (Be .u32 0 (BL .u32 (n:Int) 1))=((if n % 2=1 then 2197175160 else 0:Nat):Int):=by
  rw [Ylj n h]
  rcases Nat.mod_two_eq_zero_or_one n with h2 | h2
  ·rw [h2];decide +kernel
  ·rw [h2];decide +kernel
 unfold Vq aS
 rw [hm,Zmg _ (by decide)]
 exact kA (by omega) (by split <;> omega)
def N3 (n b:Nat):Nat:=if n % 2≠b % 2 then (n / 2) ^^^ 2197175160 else n / 2
theorem fv {n b:Nat} (h:n<4294967296):N3 n b<4294967296:=by
 unfold N3
 split
 ·exact Nat.xor_lt_two_pow (n:=32) (by omega) (by omega)
 ·omega
theorem Zys (n b:Nat):aS (n ^^^ b)=N3 n b ^^^ (b / 2):=by
 unfold aS N3
 have h1:(n ^^^ b) / 2=(n / 2) ^^^ (b / 2):=Nat.xor_div_two
 have h2:(n ^^^ b) % 2=1↔n % 2≠b % 2:=by
  rw [Nat.xor_mod_two_eq_one]
  omega
 rw [h1]
 by_cases h:n % 2≠b % 2
 ·rw [if_pos (h2.2 h),if_pos h,Nat.xor_assoc,Nat.xor_assoc,Nat.xor_comm (b / 2)]
 ·rw [if_neg (fun e=>h (h2.1 e)),if_neg h,Nat.xor_zero]
def Qo:Nat→Nat→Nat→Nat
 | 0,n,_=>n
 | k+1,n,b=>Qo k (N3 n b) (b / 2)
theorem qk:∀ (k:Nat) {n b:Nat},n<4294967296→Qo k n b<4294967296
 | 0,_,_,h=>h
 | k+1,_,_,h=>qk k (fv h)
theorem ql:∀ (k n b:Nat),n<4294967296→b<2 ^ k→k≤8→WW k ((n ^^^ b:Nat):Int)=(Qo k n b:Int)
 | 0,n,b,_,hb,_=>by
  have:b=0:=by simpa using hb
  subst this
  rw [Nat.xor_zero];rfl
 | k+1,n,b,hn,hb,hk=>by
  have hb8:b<2 ^ 8:=Nat.lt_of_lt_of_le hb (Nat.pow_le_pow_right (by omega) hk)
  show WW k (Vq _)=(Qo k (N3 n b) (b / 2):Int)
  rw [Zgp (Nat.xor_lt_two_pow (n:=32) hn (by omega)),Zys]
  exact ql k _ _ (fv hn) (by rw [Nat.pow_succ] at hb;omega) (by omega)
theorem oR {o0:ByteArray→Int→Int→Option Int} {s:ByteArray} {i:Nat} (hi:i<s.size) (PC:i<100000000000) {b:Nat} (hb:byteAt s (i:Int)=(b:Int)) (hb8:b<256):∀ (d k m:Nat) (n:Nat),k+d=8→d<m→n<4294967296→
  C0.l1 o0 m s (n:Int) (i:Int) (k:Int)=o0 s (Qo d n (b / 2 ^ k):Int) ((i:Int)+1)
 | 0,k,m,n,h,hm,_=>by
  obtain ⟨m,rfl⟩:∃ j,m=j+1:=⟨m-1,by omega⟩
  show C0.S1 _ _ _ _ _ _=_
  unfold C0.S1
  rw [AZ (by omega),Ac,Bj (by omega)]
  rfl
 | d+1,k,m,n,h,hm,hn=>by
  obtain ⟨m,rfl⟩:∃ j,m=j+1:=⟨m-1,by omega⟩
  show C0.S1 o0 (C0.l1 o0 m) _ _ _ _=_
  unfold C0.S1
  have Ds:BH .i64 (b:Int) (k:Int)=((b / 2 ^ k:Nat):Int):=by
   rw [NC _ _ (by omega),Int.natCast_ediv,Int.natCast_pow];rfl
  have ih:=oR (o0:=o0) hi PC hb hb8 d (k+1) m (N3 n (b / 2 ^ k)) (by omega) (by omega) (fv hn)
  rw [show b / 2 ^ (k+1)=b / 2 ^ k / 2 by rw [Nat.pow_succ,Nat.div_div_eq_div_mul]] at ih
  rw [Bl (by omega),Aa,C6,Bf (by omega),Aa,Cq (by omega),Aa,hb,Hf (by omega),Ds,lT,lT,Bj (by omega),Zmg _ (by decide)]
  show _=o0 s (Qo d (N3 n (b / 2 ^ k)) (b / 2 ^ k / 2):Int) ((i:Int)+1)
  by_cases Cb:n % 2≠b / 2 ^ k % 2
  ·rw [Jl (by omega),Aa,show (2197175160:Int)=((2197175160:Nat):Int) from rfl,Zqd (by omega) (by omega)]
   unfold N3 at ih ⊢
   rw [if_pos Cb] at ih ⊢
   exact ih
  ·rw [Cu (by omega),Ac]
   unfold N3 at ih ⊢
   rw [if_neg Cb] at ih ⊢
   exact ih
theorem Zzs (n b:Nat) (hn:n<4294967296) (hb:b<256):Vr (n:Int) (b:Int)=(Qo 8 n b:Int):=by
 unfold Vr
 rw [Zd,show (b:Int) % 4294967296=(b:Int) by omega,kA hn (by omega)]
 exact ql 8 n b hn hb (by omega)
theorem Zat (s:ByteArray) (i:Int):∃ c:Fin 256,byteAt s i=(c.val:Int):=
 ⟨⟨(s.data.toList.getD i.toNat 0).toNat,UInt8.toNat_lt _⟩,rfl⟩
theorem Zhp {s:ByteArray} {i:Nat} (h:i<s.size):(Bi s).drop i=byteAt s (i:Int) :: (Bi s).drop (i+1):=by
 have hb:=Lw s i h
 have hl:i<(Bi s).length:=by rw [DN];exact h
 rw [List.drop_eq_getElem_cons hl]
 rw [Ap hl] at hb
 injection hb with hb
 rw [hb]
theorem Zen (s:ByteArray) (hs:s.size<10000000000):∀ (d i m:Nat) (n:Nat),d=s.size-i→i≤s.size→20<m→n<4294967296→
  ∃ r:Nat,r<4294967296∧((Bi s).drop i).foldl Vr (n:Int)=(r:Int)∧C0.l0 (m+d) s (n:Int) (i:Int)=some (Fq .i64 (r:Int) 4294967295):=by
 intro d
 induction d with
 | zero=>
  intro i m n hd hi hm hn
  have:i=s.size:=by omega
  subst this
  obtain ⟨m,rfl⟩:∃ j,m=j+1:=⟨m-1,by omega⟩
  refine ⟨n,hn,by rw [List.drop_eq_nil_of_le (by rw [DN];exact Ah _)];rfl,?_⟩
  show C0.S0 _ _ _ _=_
  unfold C0.S0
  rw [C6,AZ (by omega),Ac]
 | succ d ih=>
  intro i m n hd hi hm hn
  have AO:i<s.size:=by omega
  obtain ⟨c,hc⟩:=Zat s (i:Int)
  have CB:=oR (o0:=C0.l0 (m+d)) AO (by omega) (b:=c.val) hc c.isLt 8 0 (m+d) n rfl (by omega) hn
  obtain ⟨r,h1,h2,h3⟩:=ih (i+1) m (Qo 8 n c.val) (by omega) (by omega) hm (qk 8 hn)
  refine ⟨r,h1,?_,?_⟩
  ·rw [Zhp AO,List.foldl_cons,hc,Zzs n c.val hn c.isLt]
   exact h2
  ·show C0.S0 (C0.l1 (C0.l0 (m+d)) (m+d)) _ _ _=_
   unfold C0.S0
   rw [Nat.pow_zero,Nat.div_one] at CB
   rw [C6,Bl (by omega),Aa,show (0:Int)=((0:Nat):Int) from rfl,CB]
   exact h3
theorem Zam (s:ByteArray) (hs:s.size<10000000000):Yw s=some (Jj 0 (Bi s))∧0≤Jj 0 (Bi s)∧Jj 0 (Bi s)<4294967296:=by
 obtain ⟨r,h1,h2,h3⟩:=Zen s hs s.size 0 (fu-s.size) 4294967295 (by omega) (by omega) (by unfold fu;omega) (by omega)
 rw [show fu-s.size+s.size=fu by unfold fu;omega] at h3
 rw [List.drop_zero] at h2
 have hx:=Nat.xor_lt_two_pow (n:=32) h1 (show 4294967295<2 ^ 32 by omega)
 have hc:Jj 0 (Bi s)=((r ^^^ 4294967295:Nat):Int):=by
  unfold Jj
  rw [show Fq .u32 4294967295 (IntKind.wrap .u32 0)=((4294967295:Nat):Int) by decide +kernel,h2,show (4294967295:Int)=((4294967295:Nat):Int) from rfl,kA (by omega) h1,Nat.xor_comm]
  exact Hf (by omega)
 refine ⟨?_,by rw [hc];omega,by rw [hc];omega⟩
 unfold Yw
 have hm:C0 0 s=some (Fq .i64 (r:Int) 4294967295):=by
  show C0.S (C0.l0 fu) 0 s=_
  unfold C0.S
  rw [show Fq .i64 (BL .i64 0 4294967295) 4294967295=((4294967295:Nat):Int) by decide +kernel]
  exact h3
 rw [hm,show (4294967295:Int)=((4294967295:Nat):Int) from rfl,Zqd h1 (by omega),hc]
 rfl
theorem Ztk (s:ByteArray) (hs:s.size<10000000000):UR s=some (ofBytes (II (Bi s))):=by
 obtain ⟨h1,h2,h3⟩:=Zam s hs
 unfold UR
 rw [h1,Ad]
 have hb:∀ k:Nat,k≤32→IntKind.wrap .u8 (BL .i64 (BH .i64 (Jj 0 (Bi s)) (k:Int)) 255)=IntKind.wrap .u8 (BH .u32 (IntKind.wrap .u32 (Jj 0 (Bi s))) (k:Int)):=fun k hk=>by
  have e2:BH .u32 (Jj 0 (Bi s)) (k:Int)=Jj 0 (Bi s) / 2 ^ k:=by
   unfold BH
   rw [show min (Int.toNat (k:Int)) IntKind.u32.bits=k from Nat.min_eq_left hk,Int.fdiv_eq_ediv_of_nonneg _ (Int.le_of_lt (EX k))]
  rw [Zd,Int.emod_eq_of_lt h2 h3,NC _ _ (by omega),yE,e2,J4,J4]
  omega
 have h0:=hb 0 (by omega)
 rw [show BH .i64 (Jj 0 (Bi s)) ((0:Nat):Int)=Jj 0 (Bi s) by rw [NC _ _ (by omega),Int.pow_zero,Int.ediv_one]] at h0
 have h8:=hb 8 (by omega)
 have Sp:=hb 16 (by omega)
 have h24:=hb 24 (by omega)
 simp only [show ((8:Nat):Int)=8 from rfl,show ((16:Nat):Int)=16 from rfl,show ((24:Nat):Int)=24 from rfl,show ((0:Nat):Int)=0 from rfl] at h0 h8 Sp h24
 rw [h0,h8,Sp,h24]
 show (bif CH s (ofBytes (R4 (Bi s))) then some (Dr s (ofBytes (R4 (Bi s)))) else none)=_
 have r1:CH s (ofBytes (R4 (Bi s)))=true:=Af (by rw [Cg];show s.size+4≤_;omega)
 rw [r1,Aa]
 congr 1
 conv=>lhs;rw [← Q9 s,F7]
 rw [Q9]
 rfl
theorem Zjp (p:List Int) (hp:p.length≤65536) (d:List Int) (hd:d.length≤65536) (B1:∀ x∈d,BY x) (a:List Int) (ha:a.length≤10):∀ (g i n:Nat),g=d.length-i→i≤d.length→g<n→
  DA.l0 (DA.t1 fu) n d p (ofBytes (a++Dh (d.take i))) (i:Int)=some (ofBytes (a++(Dh d++CK p (C2 p))),0):=by
 intro g
 induction g with
 | zero=>
  intro i n hg hi hn
  have:i=d.length:=by omega
  subst this
  obtain ⟨n,rfl⟩:∃ k,n=k+1:=⟨n-1,by omega⟩
  show DA.S0 DA.S1 _ _ _ _ _=_
  unfold DA.S0
  rw [AW,AZ (by omega),Ac,Ar]
  unfold DA.S1
  have k1:=Ro d
  obtain ⟨_,w2,_⟩:=Ic p hp
  have hb:p.length*C2 p≤65536*64:=Nat.mul_le_mul hp w2
  have CE:=Jy p (C2 p)
  have r1:CH (ofBytes (a++Dh d)) (ofBytes (CK p (C2 p)))=true:=Af (by rw [Cg,Cg,Ae];omega)
  rw [nX p hp,Ad,r1,Aa,F7,Al]
 | succ g ih=>
  intro i n hg hi hn
  obtain ⟨n,rfl⟩:∃ k,n=k+1:=⟨n-1,by omega⟩
  have AO:i<d.length:=by omega
  have k1:=Ro (d.take i)
  rw [Ag] at k1
  have k2:=FC d[i]
  have r1:CH (ofBytes (a++Dh (d.take i))) (ofBytes (vB d[i]))=true:=Af (by rw [Cg,Cg,Ae];omega)
  have Gs:=ih (i+1) n (by omega) (by omega) (by omega)
  rw [take_one AO,dT,← Al] at Gs
  show DA.S0 _ (DA.l0 (DA.t1 fu) n) _ _ _ _=_
  unfold DA.S0
  rw [AW,Bl (by omega),Aa,Bf (by omega),Aa,Bz AO,Nu (B1 _ (Aq AO)),Ad,IC,r1,Aa,F7,Bj (by omega)]
  exact Gs
theorem Zdj (l:List Int) (hl:l.length≤65536) (B1:∀ x∈l,BY x):DA l=some (ofBytes (Mj l (C2 (Cf l))),0):=by
 show DA.S (DA.l0 (DA.t1 fu) fu) l=_
 unfold DA.S Mj
 rw [AW,AZ (by omega),Ac]
 by_cases h0:l.length=0
 ·rw [B0 (by omega),Aa,if_pos h0]
  rfl
 ·have D3:=OM l
  have CE:=Oz l
  rw [BU (by omega),Ac,if_neg h0,Zuk l hl,Yb3,Ad]
  dsimp only
  rw [AW,Nu (by unfold BY;omega),Ad,IC]
  have:=Zjp (Cf l) (by omega) (BP l) (by omega) (fun x hx=>B1 x (((Lv l).2 x).1 hx)) (vB ((BP l).length:Int)) (FC _).2 (BP l).length 0 fu (by omega) (by omega) (by unfold fu;omega)
  rw [List.take_zero,show Dh []=[] from rfl,Ay] at this
  exact this
theorem Zxi (l:List ByteArray) (hl:l.length≤65536) (Ds:Ga l):XW l=some (ofBytes (Md l (C2 (BT l))),0):=by
 unfold XW Md
 rw [AW,AZ (by omega),Ac]
 by_cases h0:l.length=0
 ·rw [B0 (by omega),Aa,if_pos h0]
  rfl
 ·have D3:=MU l
  have CE:(BT l).length=l.length:=J1 _ _
  obtain ⟨_,w2,_⟩:=Ic (BT l) (by omega)
  have hb:(BT l).length*C2 (BT l)≤65536*64:=Nat.mul_le_mul (by omega) w2
  have QZ:=Jy (BT l) (C2 (BT l))
  have k1:=FC ((BN l).length:Int)
  have k2:=L7 _ Ds.Kx
  rw [BU (by omega),Ac,if_neg h0,oc l hl,Ad]
  dsimp only
  rw [dk _ (by omega) Ds.Kx,Ad]
  dsimp only
  have r1:CH (ofBytes (vB ((BN l).length:Int))) (ofBytes (B8 (BN l)))=true:=Af (by rw [Cg,Cg];omega)
  have r2:CH (ofBytes (vB ((BN l).length:Int)++B8 (BN l))) (ofBytes (CK (BT l) (C2 (BT l))))=true:=Af (by rw [Cg,Cg,Ae];omega)
  rw [Cu rfl,Ac,AW,Nu (by unfold BY;omega),Ad,IC,r1,Aa,nX (BT l) (by omega),Ad,F7,r2,Aa,F7,Al]
theorem Zej (l:List Int) (hl:l.length≤65536) (B1:∀ x∈l,BY x) (code:Int):X2 l code=some (match LL l code with | some b=>(ofBytes b,true) | none=>(eB,false)):=by
 unfold X2 LL
 by_cases h1:code=1
 ·rw [B0 h1,Aa,if_pos h1,Zfj l hl]
  rfl
 ·rw [BU h1,Ac,if_neg h1]
  by_cases h2:code=2
  ·obtain ⟨_,k2,k3⟩:=NF l hl
   rw [B0 h2,Aa,if_pos h2,oS l hl,Ad,oE _ k3 (by rw [k2];exact hl) (fun r hr=>B1 _ (by rw [← k2];exact Ve k3 r hr))]
   rfl
  ·rw [BU h2,Ac,if_neg h2]
   by_cases h3:code=3
   ·rw [B0 h3,Aa,if_pos h3,Zbm l hl B1]
    rfl
   ·rw [BU h3,Ac,if_neg h3]
    by_cases h4:code=4
    ·rw [B0 h4,Aa,if_pos h4,Zdj l hl B1]
     rfl
    ·rw [BU h4,Ac,if_neg h4]
     by_cases h5:code=5
     ·obtain ⟨_,k2,_⟩:=Ic l hl
      have hb:l.length*C2 l≤65536*64:=Nat.mul_le_mul hl k2
      have CE:=Jy l (C2 l)
      have r1:CH (ofBytes [(C2 l:Int)]) (ofBytes (CK l (C2 l)))=true:=Af (by rw [Cg,Cg];simp;omega)
      rw [B0 h5,Aa,if_pos h5,XY l hl,Ad,Yc l k2 hl (Ah _),Ad,Zc k2]
      dsimp only
      rw [r1,Aa,F7]
      rfl
     ·rw [BU h5,Ac,if_neg h5]
theorem Zxj (l:List ByteArray) (hl:l.length≤65536) (Ds:Ga l) (code:Int):Yg l code=some (match M1 l code with | some b=>(ofBytes b,true) | none=>(eB,false)):=by
 have CE:(BT l).length=l.length:=J1 _ _
 unfold Yg M1
 by_cases h1:code=1
 ·rw [B0 h1,Aa,if_pos h1,dk l hl Ds]
  rfl
 ·rw [BU h1,Ac,if_neg h1]
  by_cases h2:code=2
  ·rw [B0 h2,Aa,if_neg (show ¬ code=4 by omega),if_pos h2,AW]
   unfold TQ
   by_cases h0:l.length=0
   ·rw [AZ (by omega),Ac,if_pos h0]
    rfl
   ·obtain ⟨r1,r2,r3⟩:=NF (BT l) (by omega)
    have D3:=MU l
    have Hl:=OD l
    have k1:=FC ((BN l).length:Int)
    have k2:=L7 _ Ds.Kx
    have k3:=OT (Hh (BT l))
    have k4:=JB _ _ _ r3
    rw [r2] at k4
    have hrp:=oE (Hh (BT l)) r3 (by rw [r2];omega) (fun r hr=>by
     have hm:r.1∈BT l:=r2 ▸ Ve r3 r hr
     have:=Qa Hl r.1 hm
     unfold BY;omega)
    have q1:CH (ofBytes (vB ((BN l).length:Int))) (ofBytes (B8 (BN l)))=true:=Af (by rw [Cg,Cg];omega)
    have q2:CH (ofBytes (vB ((BN l).length:Int)++B8 (BN l))) (ofBytes (E8 (Hh (BT l))))=true:=Af (by rw [Cg,Cg,Ae];omega)
    rw [Bl (by omega),Aa,if_neg h0,oc l hl,Ad]
    dsimp only
    rw [dk _ (by omega) Ds.Kx,Ad,oS (BT l) (by omega),Ad,hrp,Ad,AW,Nu (by unfold BY;omega),Ad,IC]
    dsimp only
    rw [q1,Aa,F7,q2,Aa,F7,Al]
  ·rw [BU h2,Ac]
   by_cases h4:code=4
   ·rw [B0 h4,Aa,if_pos h4,Zxi l hl Ds]
    rfl
   ·rw [BU h4,Ac,if_neg h4,if_neg h2]
theorem nY {l:List Cell} {kind:Int} (h:Hz l kind) (B1:∀ c∈l,BY c.2.1) (code:Int):X9 (Br l) kind code=some (match HD (Br l) kind code with | some b=>(ofBytes b,true) | none=>(eB,false)):=by
 have hle:=J0 l
 have h2:=h.2.1
 unfold X9 HD
 by_cases hk:kind=1
 ·rw [B0 hk,Aa,if_pos hk,Zvk _ (by omega),Ad,Zej _ (by rw [Ai];omega) (fun x hx=>by
   obtain ⟨c,hc,rfl⟩:=List.mem_map.1 hx
   unfold Br at hc
   exact B1 c (List.mem_filter.1 hc).1)]
  rfl
 ·rw [BU hk,Ac,if_neg hk,Zyj _ (by omega),Ad,Zxj _ (by rw [Ai];omega) (U0 h)]
  rfl
theorem Zkp (l:List Cell) (hl:l.length≤64) (kind:Int):∀ (d i n:Nat),d=l.length-i→i≤l.length→d<n→
  ∃ b,DV.l1 n l kind (i:Int)=some b∧(b=true↔∀ j (h:j<l.length),i≤j→GD l[j]=true∧(l[j].1=0∨l[j].1=kind)):=by
 intro d
 induction d with
 | zero=>
  intro i n hd hi hn
  obtain ⟨n,rfl⟩:∃ k,n=k+1:=⟨n-1,by omega⟩
  refine ⟨true,?_,⟨fun _ j h hj=>absurd h (by omega),fun _=>rfl⟩⟩
  show DV.S1 _ _ _ _=_
  unfold DV.S1
  rw [AW,AZ (by omega),Ac]
 | succ d ih=>
  intro i n hd hi hn
  obtain ⟨n,rfl⟩:∃ k,n=k+1:=⟨n-1,by omega⟩
  have AO:i<l.length:=by omega
  obtain ⟨b,h1,h2⟩:=ih (i+1) n (by omega) (by omega) (by omega)
  show ∃ b,DV.S1 (DV.l1 n) _ _ _=_∧_
  unfold DV.S1
  rw [AW,Bl (by omega),Aa,Bf (by omega),Aa,Bz AO,Aa,Aa,Bj (by omega)]
  have aT:(GD l[i]=true∧(l[i].1=0∨l[i].1=kind))→∃ b,DV.l1 n l kind ((i:Int)+1)=some b∧(b=true↔∀ j (h:j<l.length),i≤j→GD l[j]=true∧(l[j].1=0∨l[j].1=kind)):=fun hg=>
   ⟨b,h1,h2.trans ⟨fun h j hj Lg=>by
    by_cases e:i=j
    ·subst e;exact hg
    ·exact h j hj (by omega),fun h j hj Lg=>h j hj (by omega)⟩⟩
  have Zng:¬ (GD l[i]=true∧(l[i].1=0∨l[i].1=kind))→∃ b,some false=some b∧(b=true↔∀ j (h:j<l.length),i≤j→GD l[j]=true∧(l[j].1=0∨l[j].1=kind)):=fun hg=>
   ⟨false,rfl,⟨fun h=>(by cases h),fun h=>absurd (h i AO (Ah _)) hg⟩⟩
  by_cases hm:GD l[i]=true
  ·rw [hm,Bool.not_true,Ac]
   by_cases h0:l[i].1=0
   ·rw [Cu h0,Ac]
    exact aT ⟨hm, .inl h0⟩
   ·rw [Jl h0,Aa]
    by_cases hk:l[i].1=kind
    ·rw [Cu hk,Ac]
     exact aT ⟨hm, .inr hk⟩
    ·rw [Jl hk,Aa]
     exact Zng fun h=>h.2.elim h0 hk
  ·rw [Bool.not_eq_true] at hm
   rw [hm,Bool.not_false,Aa]
   exact Zng fun h=>by rw [hm] at h;exact absurd h.1 (by decide)
theorem dD (l:List Cell) (kind:Int):∃ b,DV l kind=some b∧(b=true↔Hz l kind):=by
 show ∃ b,DV.S (DV.t0 fu) l kind=some b∧_
 unfold DV.S
 rw [AW]
 by_cases h1:1≤l.length
 ·by_cases h2:l.length≤64
  ·rw [AZ (by omega),Ac,AZ (by omega),Ac]
   obtain ⟨b,k1,k2⟩:=Zkp l h2 kind l.length 0 18446744073709551615 (by omega) (by omega) (by omega)
   have ht:DV.t0 fu l kind=some b:=k1
   have hb:(kind=1∨kind=2)→(b=true↔Hz l kind):=fun hk=>k2.trans
    ⟨fun h=>⟨h1,h2,hk,fun c hc=>by
     obtain ⟨j,hj,rfl⟩:=List.mem_iff_getElem.1 hc
     exact h j hj (Nat.zero_le _)⟩,fun h j hj _=>h.2.2.2 _ (Aq hj)⟩
   by_cases k1:kind=1
   ·rw [Cu k1,Ac]
    exact ⟨b,ht,hb (.inl k1)⟩
   ·rw [Jl k1,Aa]
    by_cases k2:kind=2
    ·rw [Cu k2,Ac]
     exact ⟨b,ht,hb (.inr k2)⟩
    ·rw [Jl k2,Aa]
     exact ⟨false,rfl,⟨fun h=>(by cases h),fun h=>absurd h.2.2.1 (by omega)⟩⟩
  ·rw [AZ (by omega),Ac,Bl (by omega),Aa]
   exact ⟨false,rfl,⟨fun h=>(by cases h),fun h=>absurd h.2.1 h2⟩⟩
 ·rw [Bl (by omega),Aa]
  exact ⟨false,rfl,⟨fun h=>(by cases h),fun h=>absurd h.1 h1⟩⟩
theorem rH {l:List Cell} {kind code:Int} (h:Hz l kind) (B1:∀ c∈l,BY c.2.1) {b:List Int} (hb:HD (Br l) kind code=some b):L9 l kind code=some (ofBytes (II (Ih l kind code b)),0):=by
 obtain ⟨v1,v2⟩:=YR h hb
 have hc:=eF hb
 obtain ⟨m,m1,m2⟩:=dD l kind
 rw [m2.2 h] at m1
 obtain ⟨h1,h2,h3,_⟩:=id h
 have Og:0≤kind∧kind<256:=by rcases h3 with rfl | rfl <;> omega
 have Jq:=YA l
 unfold L9
 rw [m1,Ad,Bool.not_true,Ac,od l (by omega),Ad]
 dsimp only
 rw [nY h B1,hb,Ad]
 dsimp only
 have w8:∀ x:Int,0≤x∧x<256→IntKind.wrap .u8 x=x:=fun x hx=>by rw [J4];omega
 rw [Bool.not_true,Ac,AW,C6,Cg,w8 kind Og,w8 code (by omega),w8 _ (by omega),w8 _ (by omega)]
 have r1:CH (ofBytes [kind,code,(l.length:Int),((D6 l).length:Int)]) (ofBytes (D6 l))=true:=Af (by rw [Cg,Cg];simp;omega)
 rw [r1,Aa,F7]
 have r2:CH (ofBytes ([kind,code,(l.length:Int),((D6 l).length:Int)]++D6 l)) (ofBytes b)=true:=Af (by rw [Cg,Cg];simp;omega)
 rw [r2,Aa,F7,Al]
 show (UR (ofBytes (Ih l kind code b))).bind _=_
 rw [Ztk _ (by rw [Cg];unfold Ih;simp;omega),Ad,MO (fw h2 Og (by omega) v1)]
theorem Zxs {l:List Cell} {kind code:Int} (h:Hz l kind) (B1:∀ c∈l,BY c.2.1) (hb:HD (Br l) kind code=none):L9 l kind code=some (eB,1):=by
 obtain ⟨m,m1,m2⟩:=dD l kind
 rw [m2.2 h] at m1
 have h2:=h.2.1
 unfold L9
 rw [m1,Ad,Bool.not_true,Ac,od l (by omega),Ad]
 dsimp only
 rw [nY h B1,hb,Ad]
 rfl
theorem Ykj {l:List Cell} {kind code:Int} (h:¬ Hz l kind):L9 l kind code=some (eB,1):=by
 obtain ⟨m,m1,m2⟩:=dD l kind
 have:m=false:=by
  cases m with
  | false=>rfl
  | true=>exact absurd (m2.1 rfl) h
 unfold L9
 rw [m1,this]
 rfl
end Go.AM.Pure
end

section
/- BlockPuts and BlockBest. -/
namespace Go.AM.Pure
open Go.AM
theorem Zs1 {l:List Cell} (hl:l.length≤70) (B1:∀ c∈l,BY c.2.1) (kind code:Int):
  (MV l kind code=some (eB,1)∧L9 l kind code=some (eB,1))∨
  ∃ b,Hz l kind∧HD (Br l) kind code=some b∧MV l kind code=some (ofBytes (II (Ih l kind code b)),0)∧L9 l kind code=some (ofBytes (II (Ih l kind code b)),0):=by
 by_cases hm:Hz l kind
 ·cases hv:HD (Br l) kind code with
  | none=>exact .inl ⟨Zu2 hm hv,Zxs hm B1 hv⟩
  | some b=>exact .inr ⟨b,hm,rfl,Yjj hm hv,rH hm B1 hv⟩
 ·exact .inl ⟨Zzl (by omega) hm,Ykj hm⟩
end Go.AM.Pure
end
