import Derived.Test.YtclpadlpcfnfmaaGreatAmP13n
section
/- The document's plain numbers and texts, runs and frames: the same bytes. -/
namespace Go.AM.Pure
open Go.AM
theorem ew (a:Int):BF .i64 a 255=a % 256:=by
 unfold BF
 have h:(BitVec.ofInt 64 a &&& BitVec.ofInt 64 255).toNat=(BitVec.ofInt 64 a).toNat % 2 ^ 8:=by
  rw [BitVec.toNat_and,show (BitVec.ofInt 64 255).toNat=2 ^ 8-1 from rfl,Nat.and_two_pow_sub_one_eq_mod]
 show IntKind.wrap .i64 ((BitVec.ofInt 64 a &&& BitVec.ofInt 64 255).toNat:Int)=_
 have h2:=II a
 rw [h,Int.natCast_emod,h2,show ((2 ^ 8:Nat):Int)=256 from rfl,Ez (by omega)]
 omega
theorem WB (l:List Int) {o0:List Int→List Int→Int→Option ByteArray} {i:Nat} (hi:i<l.length) (hil:i<1000000):∀ (d k n:Nat) (b:List Int),k+d=8→d<n→b.length<100000000000→
  AW.l1 o0 n l (b++Eu k (wb l[i] 64)) (i:Int) (k:Int)=o0 l (b++Eu 8 (wb l[i] 64)) ((i:Int)+1)
 | 0,k,n,b,h,hn,hb=>by
  obtain ⟨n,rfl⟩:∃ j,n=j+1:=⟨n-1,by omega⟩
  have:k=8:=by omega
  subst this
  show AW.S1 _ _ _ _ _ _=_
  unfold AW.S1
  rw [AJ (by omega),cond_false,AE (a:=(i:Int)) (by omega)]
 | d+1,k,n,b,h,hn,hb=>by
  obtain ⟨n,rfl⟩:∃ j,n=j+1:=⟨n-1,by omega⟩
  show AW.S1 o0 (AW.l1 o0 n) _ _ _ _=_
  unfold AW.S1
  have hm:Df .i64 8 (k:Int)=((8*k:Nat):Int):=by rw [Kw (by omega)];omega
  have hbyte:IntKind.wrap .u8 (BF .i64 (BG .i64 l[i] ((8*k:Nat):Int)) 255)=l[i] / 2 ^ (8*k) % 256:=by
   rw [Hk _ _ (by omega),ew,GF];omega
  rw [Bj (by omega),cond_true,AA (by rw [Aq];omega),cond_true,hm,DL (by omega),cond_true,Bg (by rw [List.length_append,Gj];omega),cond_true,AQ hi,hbyte,AE (by omega),List.append_assoc,← kT l[i] k (by omega)]
  exact WB l hi hil d (k+1) n b (by omega) (by omega) hb
theorem qo (l:List Int) (hl:l.length≤65536):∀ (d i m:Nat),d=l.length-i→i≤l.length→20<m→
  AW.l0 (m+d) l (Eu (8*i) (FR (l.take i) 64)) (i:Int)=some (ofBytes (CQ l 64)):=by
 intro d
 induction d with
 | zero=>
  intro i m hd hi hm
  have:i=l.length:=by omega
  subst this
  obtain ⟨m,rfl⟩:∃ j,m=j+1:=⟨m-1,by omega⟩
  show AW.S0 _ _ _ _=_
  unfold AW.S0
  rw [Aq,AJ (by omega),cond_false,List.take_length]
  unfold CQ
  rw [show (l.length*64+7) / 8=8*l.length by omega]
 | succ d ih=>
  intro i m hd hi hm
  have hlt:i<l.length:=by omega
  show AW.S0 (AW.l1 (AW.l0 (m+d)) (m+d)) _ _ _=_
  unfold AW.S0
  rw [Aq,Bj (by omega),cond_true]
  have h1:=WB (o0:=AW.l0 (m+d)) l hlt (by omega) 8 0 (m+d) (Eu (8*i) (FR (l.take i) 64)) rfl (by omega) (by rw [Gj];omega)
  rw [show Eu 0 (wb l[i] 64)=[] from rfl,List.append_nil] at h1
  rw [show (0:Int)=((0:Nat):Int) from rfl,h1]
  have:=ih (i+1) m (by omega) (by omega) hm
  rw [take_one hlt,Pk,show 8*(i+1)=8*i+8 by omega,KZ _ 8 _ _ (by rw [KY,List.length_take];omega)] at this
  exact this
theorem VB (l:List Int) (hl:l.length≤65536):AW l=some (ofBytes (CQ l 64)):=by
 have:=qo l hl l.length 0 (fu-l.length) (by omega) (by omega) (by unfold fu;omega)
 rw [show fu-l.length+l.length=fu by unfold fu;omega] at this
 exact this
theorem qp (o:List ByteArray) (hl:o.length≤65536) (hs:Fw o):∀ (d i n:Nat),d=o.length-i→i≤o.length→d<n→
  BR.l0 n o (BA (o.take i)) (i:Int)=some (ofBytes (BA o),0):=by
 intro d
 induction d with
 | zero=>
  intro i n hd hi hn
  have:i=o.length:=by omega
  subst this
  obtain ⟨n,rfl⟩:∃ k,n=k+1:=⟨n-1,by omega⟩
  show BR.S0 _ _ _ _=_
  unfold BR.S0
  rw [Aq,AJ (by omega),cond_false,List.take_length]
 | succ d ih=>
  intro i n hd hi hn
  obtain ⟨n,rfl⟩:∃ k,n=k+1:=⟨n-1,by omega⟩
  have hlt:i<o.length:=by omega
  have h1:=FF (o.take i) (hs.take i)
  rw [List.length_take] at h1
  have h2:=hs o[i] (List.getElem_mem hlt)
  show BR.S0 (BR.l0 n) _ _ _=_
  unfold BR.S0
  have:=ih (i+1) n (by omega) (by omega) (by omega)
  rw [take_one hlt,MS,show BA (o.take i)++tB o[i]=BA (o.take i)++[(o[i].size:Int)]++Ax o[i] by unfold tB;simp] at this
  rw [Aq,Bj (by omega),cond_true,AA (by omega),cond_true,AQ hlt,CB,AJ (by omega),cond_false,cond_true,Bg (by omega),cond_true,cond_true,Bg (by rw [List.length_append,List.length_singleton];omega),cond_true,AE (by omega),GF,show (o[i].size:Int) % 256=(o[i].size:Int) by omega]
  exact this
theorem Ki (o:List ByteArray) (hl:o.length≤65536) (hs:Fw o):BR o=some (ofBytes (BA o),0):=
 qp o hl hs o.length 0 fu (by omega) (by omega) (by unfold fu;omega)
theorem kU {x:Int}:∀ (c d:Nat) (A B:List Int),List.replicate c x++A=List.replicate d x++B→A.head?≠some x→B.head?≠some x→c=d∧A=B
 | 0,0,A,B,h,_,_=>⟨rfl,h⟩
 | 0,d+1,A,B,h,ha,_=>by
  exfalso;apply ha
  rw [show A=_ from h];rfl
 | c+1,0,A,B,h,_,hb=>by
  exfalso;apply hb
  rw [show B=_ from h.symm];rfl
 | c+1,d+1,A,B,h,ha,hb=>by
  rw [List.replicate_succ,List.replicate_succ,List.cons_append,List.cons_append] at h
  obtain ⟨h1,h2⟩:=kU c d A B (List.cons.inj h).2 ha hb
  exact ⟨by omega,h2⟩
theorem aH {o:List Run} {n:Nat} {x:Int} (h:okR n (some x) o):(Cb o).head?≠some x:=by
 cases o with
 | nil=>intro h;cases h
 | cons r o=>
  obtain ⟨_,h1,h2,_⟩:=h
  rw [GO,show r.2.2.toNat=(r.2.2.toNat-1)+1 by omega,List.replicate_succ]
  intro h
  exact h2 (by simpa using h.symm)
theorem ez:∀ {o q:List Run} {n:Nat} {p:Option Int},okR n p o→okR n p q→Cb o=Cb q→o=q
 | [],[],_,_,_,_,_=>rfl
 | [],r :: q,_,_,_,h,e=>by
  have h1:=h.2.1
  rw [GO,show r.2.2.toNat=(r.2.2.toNat-1)+1 by omega,List.replicate_succ] at e
  cases e
 | r :: q,[],_,_,h,_,e=>by
  have h1:=h.2.1
  rw [GO,show r.2.2.toNat=(r.2.2.toNat-1)+1 by omega,List.replicate_succ] at e
  cases e
 | (x,a,c) :: o,(y,b,d) :: q,n,p,h,k,e=>by
  obtain ⟨h1,h2,_,h4⟩:=h
  obtain ⟨k1,k2,_,k4⟩:=k
  dsimp only at h1 h2 h4 k1 k2 k4
  rw [GO,GO] at e
  dsimp only at e
  have hxy:x=y:=by
   rw [show c.toNat=(c.toNat-1)+1 by omega,show d.toNat=(d.toNat-1)+1 by omega,List.replicate_succ,List.replicate_succ] at e
   exact (List.cons.inj e).1
  subst hxy
  obtain ⟨e1,e2⟩:=kU _ _ _ _ e (aH h4) (aH k4)
  rw [e1] at h4
  rw [ez h4 k4 e2,show c=d by omega,h1,k1]
theorem uc (l:List Int) (hl:l.length≤65536):∀ (d i n:Nat) (out:List Run),d=l.length-i→i≤l.length→d<n→Cb out=l.take i→okR 0 none out→IQ none out=(l.take i).getLast?→
  ∃ o,DJ.l0 n l (i:Int) out=some o∧Cb o=l∧okR 0 none o:=by
 intro d
 induction d with
 | zero=>
  intro i n out hd hi hn h1 h2 _
  have:i=l.length:=by omega
  subst this
  obtain ⟨n,rfl⟩:∃ k,n=k+1:=⟨n-1,by omega⟩
  rw [List.take_length] at h1
  refine ⟨out,?_,h1,h2⟩
  show DJ.S0 _ _ _ _=_
  unfold DJ.S0
  rw [Aq,AJ (by omega),cond_false]
 | succ d ih=>
  intro i n out hd hi hn h1 h2 h3
  obtain ⟨n,rfl⟩:∃ k,n=k+1:=⟨n-1,by omega⟩
  have hlt:i<l.length:=by omega
  have hfl:(Cb out).length=i:=by rw [h1,List.length_take];omega
  have hol:=FZ out 0 none h2
  have hsn:(l.take (i+1)).getLast? = some l[i]:=by rw [take_one hlt,List.getLast?_concat]
  have hnew:(IQ none out≠some l[i])→∃ o,DJ.l0 n l ((i+1:Nat):Int) (out++[(l[i],(i:Int),1)])=some o∧Cb o=l∧okR 0 none o:=fun hne=>
   ih (i+1) n _ (by omega) (by omega) (by omega) (by rw [Gb,Gu,h1,take_one hlt];rfl)
    ((Lk _ _ _ _).2 ⟨h2,by rw [hfl];exact ⟨by show (i:Int)=_;omega,by show (1:Int)≤1;omega,hne,trivial⟩⟩) (by rw [Ib,hsn])
  show ∃ o,DJ.S0 (DJ.l0 n) _ _ _=_∧_
  unfold DJ.S0
  rw [Aq,Bj (by omega),cond_true,DL (by omega),cond_true,AA (i:=(i:Int)) (by omega),cond_true,cond_true,AQ hlt,AE (by omega),Bg (by omega),cond_true]
  by_cases hi0:i=0
  ·subst hi0
   rw [AJ (by omega),cond_false]
   exact hnew (by rw [h3,List.take_zero];simp)
  ·rw [Bj (by omega),cond_true,Dk (a:=(i:Int)) (by omega),AA (i:=(i:Int)-1) (by omega),cond_true]
   have hlt1:i-1<l.length:=by omega
   have hlast:(l.take i).getLast? = some l[i-1]:=by
    have:l.take i=l.take (i-1)++[l[i-1]]:=by
     have:=take_one hlt1
     rwa [show i-1+1=i by omega] at this
    rw [this,List.getLast?_concat]
   rw [hlast] at h3
   rw [show (i:Int)-1=((i-1:Nat):Int) by omega,AQ hlt1]
   by_cases hq:l[i]=l[i-1]
   ·rw [CT hq,cond_true]
    rcases List.eq_nil_or_concat out with h0 | ⟨o,r,h0⟩
    ·subst h0;cases h3
    ·rw [List.concat_eq_append] at h0
     subst h0
     rw [Ib] at h3
     have hr1:r.1=l[i-1]:=Option.some.inj h3
     have hob':o.length<1000000:=by rw [List.length_append] at hol;omega
     obtain ⟨k1,k2⟩:=(Lk _ _ _ _).1 h2
     obtain ⟨k3,k4,k5,_⟩:=k2
     have hrl:r.2.2.toNat≤i:=by
      rw [Gb,Gu,List.length_append,List.length_replicate] at hfl
      omega
     have hsub:AT .i64 (Ai (o++[r])) 1=(o.length:Int):=by rw [Aq,List.length_append,List.length_singleton,Dk (by omega)];omega
     have hget:List.getD (o++[r]) o.length (0,0,0)=r:=by rw [List.getD_eq_getElem?_getD,List.getElem?_append_right (Nat.le_refl _),Nat.sub_self];rfl
     have hset:∀ r',List.set (o++[r]) o.length r'=o++[r']:=fun r'=>by rw [List.set_append_right _ _ (Nat.le_refl _),Nat.sub_self];rfl
     rw [hsub,AA (by rw [Aq,List.length_append,List.length_singleton];omega),cond_true,cond_true,show Int.toNat (o.length:Int)=o.length from rfl,hget,hset,AE (by omega)]
     refine ih (i+1) n _ (by omega) (by omega) (by omega) ?_ ((Lk _ _ _ _).2 ⟨k1,k3,by show 1≤r.2.2+1;omega,k5,trivial⟩) (by rw [Ib,hsn,hq];exact h3)
     rw [Gb,Gu] at h1
     rw [Gb,Gu,take_one hlt,← h1,List.append_assoc]
     congr 1
     show List.replicate (r.2.2+1).toNat r.1=_
     rw [show (r.2.2+1).toNat=r.2.2.toNat+1 by omega,List.replicate_succ',hr1,hq]
   ·rw [CE hq,cond_false]
    exact hnew (by rw [h3];intro h;exact hq (Option.some.inj h).symm)
theorem UM (l:List Int) (hl:l.length≤65536):DJ l=some (Is l):=by
 obtain ⟨o,h1,h2,h3⟩:=uc l hl l.length 0 fu [] (by omega) (by omega) (by unfold fu;omega) rfl trivial rfl
 obtain ⟨_,k2,k3⟩:=Kc l hl
 rw [ez h3 k3 (by rw [h2,k2])] at h1
 exact h1
theorem qq (o:List Run) (ho:okR 0 none o) (hl:(Cb o).length≤65536):∀ (d i n:Nat),d=o.length-i→i≤o.length→d<n→
  DB.l0 n o ((Cb (o.take i)).length:Int) (i:Int)=some true:=by
 have hol:=FZ o 0 none ho
 intro d
 induction d with
 | zero=>
  intro i n hd hi hn
  have:i=o.length:=by omega
  subst this
  obtain ⟨n,rfl⟩:∃ k,n=k+1:=⟨n-1,by omega⟩
  show DB.S0 _ _ _ _=_
  unfold DB.S0
  rw [Aq,AJ (by omega),cond_false]
 | succ d ih=>
  intro i n hd hi hn
  obtain ⟨n,rfl⟩:∃ k,n=k+1:=⟨n-1,by omega⟩
  have hlt:i<o.length:=by omega
  obtain ⟨k1,k2,k3,k4,k5⟩:=Sp ho hlt
  show DB.S0 (DB.l0 n) _ _ _=_
  unfold DB.S0
  have hadd:An .i64 ((Cb (o.take i)).length:Int) o[i].2.2=((Cb (o.take (i+1))).length:Int):=by rw [AE (by omega),k4];omega
  have:=ih (i+1) n (by omega) (by omega) (by omega)
  rw [Aq,Bj (by omega),cond_true,AA (i:=(i:Int)) (by omega),cond_true,AQ hlt,Db k1,cond_false,cond_true,AJ (by omega),cond_false,cond_true,Dk (a:=65536) (by omega),AJ (by omega),cond_false,hadd,AE (a:=(i:Int)) (by omega)]
  simp only [cond_true]
  by_cases hi0:i=0
  ·rw [AJ (by omega),cond_false]
   exact this
  ·have hlt1:i-1<o.length:=by omega
   have hl2:IQ none (o.take i)=some o[i-1].1:=by
    have:o.take i=o.take (i-1)++[o[i-1]]:=by
     have:=take_one hlt1
     rwa [show i-1+1=i by omega] at this
    rw [this,Ib]
   rw [hl2] at k3
   rw [Bj (by omega),cond_true,Dk (by omega),AA (by omega),cond_true,show (i:Int)-1=((i-1:Nat):Int) by omega,AQ hlt1,CE (fun h=>k3 (by rw [h])),cond_false]
   exact this
theorem qt (o:List Run) (hl:o.length≤65536) (h64:∀ r∈o,BZ r.1∧BZ r.2.2):∀ (d i n:Nat),d=o.length-i→i≤o.length→d<n→
  CW.l0 n o (ofBytes (FN (o.take i))) (i:Int)=some (ofBytes (FN o),0):=by
 intro d
 induction d with
 | zero=>
  intro i n hd hi hn
  have:i=o.length:=by omega
  subst this
  obtain ⟨n,rfl⟩:∃ k,n=k+1:=⟨n-1,by omega⟩
  show CW.S0 _ _ _ _=_
  unfold CW.S0
  rw [Aq,AJ (by omega),cond_false,List.take_length]
 | succ d ih=>
  intro i n hd hi hn
  obtain ⟨n,rfl⟩:∃ k,n=k+1:=⟨n-1,by omega⟩
  have hlt:i<o.length:=by omega
  have h1:=IS (o.take i)
  rw [List.length_take] at h1
  have h2:=Eo o[i].1
  have h3:=Eo o[i].2.2
  obtain ⟨q1,q2⟩:=h64 o[i] (List.getElem_mem hlt)
  show CW.S0 (CW.l0 n) _ _ _=_
  unfold CW.S0
  have r1:CK (ofBytes (FN (o.take i))) (ofBytes (vB o[i].1))=true:=decide_eq_true (by rw [AD,AD];omega)
  have r2:CK (ofBytes (FN (o.take i)++vB o[i].1)) (ofBytes (vB o[i].2.2))=true:=decide_eq_true (by rw [AD,AD,List.length_append];omega)
  rw [Aq,Bj (by omega),cond_true,AA (by omega),cond_true,AQ hlt,FA q1,Option.bind_some,En,r1,cond_true,cond_true,FA q2,Option.bind_some,En,Ed,r2,cond_true,Ed,AE (by omega),List.append_assoc,← aD,← take_one hlt]
  exact ih (i+1) n (by omega) (by omega) (by omega)
theorem Sv (o:List Run) (ho:okR 0 none o) (hl:(Cb o).length≤65536) (h64:∀ r∈o,BZ r.1):CW o=some (ofBytes (FN o),0):=by
 have hol:=FZ o 0 none ho
 show CW.S (CW.l0 fu) o=_
 unfold CW.S
 have hm:DB o=some true:=qq o ho hl o.length 0 fu (by omega) (by omega) (by unfold fu;omega)
 rw [hm,Option.bind_some,Bool.not_true,cond_false]
 refine qt o (by omega) (fun r hr=>⟨h64 r hr,?_⟩) o.length 0 fu (by omega) (by omega) (by unfold fu;omega)
 obtain ⟨i,hi,rfl⟩:=List.mem_iff_getElem.1 hr
 obtain ⟨_,k2,_,k4,k5⟩:=Sp ho hi
 unfold BZ
 omega
theorem kb (l:List Int) (hl:l.length≤65536) (h0:0<l.length):∀ (d i n:Nat),d=l.length-1-i→i≤l.length-1→d<n→
  CI.l0 n l ((CD l).take i) ((i+1:Nat):Int)=some (CD l):=by
 have hdl:=JJ l
 intro d
 induction d with
 | zero=>
  intro i n hd hi hn
  have:i=l.length-1:=by omega
  subst this
  obtain ⟨n,rfl⟩:∃ k,n=k+1:=⟨n-1,by omega⟩
  show CI.S0 _ _ _ _=_
  unfold CI.S0
  rw [Aq,AJ (by omega),cond_false,List.take_of_length_le (by omega)]
 | succ d ih=>
  intro i n hd hi hn
  obtain ⟨n,rfl⟩:∃ k,n=k+1:=⟨n-1,by omega⟩
  have hlt:i+1<l.length:=by omega
  have hlt0:i<l.length:=by omega
  have hdi:i<(CD l).length:=by omega
  have hd1:=Sm hlt hdi
  have hih:=ih (i+1) n (by omega) (by omega) (by omega)
  rw [take_one hdi,hd1] at hih
  show CI.S0 (CI.l0 n) _ _ _=_
  unfold CI.S0
  rw [Aq,Bj (by omega),cond_true,AA (by omega),cond_true,Dk (b:=1) (by omega),show ((i+1:Nat):Int)-1=(i:Int) by omega,AA (by omega),cond_true,Bg (by rw [List.length_take];omega),cond_true,AQ hlt,AQ hlt0,AE (by omega)]
  exact hih
theorem kc (x:List Int) (hx:x.length≤65536):∀ (d i n:Nat) (m:Int),d=x.length-i→i≤x.length→d<n→Ct.l0 n x m (i:Int)=some ((x.drop i).foldl Et m):=by
 intro d
 induction d with
 | zero=>
  intro i n m hd hi hn
  have:i=x.length:=by omega
  subst this
  obtain ⟨n,rfl⟩:∃ k,n=k+1:=⟨n-1,by omega⟩
  show Ct.S0 _ _ _ _=_
  unfold Ct.S0
  rw [Aq,AJ (by omega),cond_false,List.drop_length]
  rfl
 | succ d ih=>
  intro i n m hd hi hn
  obtain ⟨n,rfl⟩:∃ k,n=k+1:=⟨n-1,by omega⟩
  have hlt:i<x.length:=by omega
  show Ct.S0 (Ct.l0 n) _ _ _=_
  unfold Ct.S0
  rw [Aq,Bj (by omega),cond_true,AA (by omega),cond_true,AQ hlt,AE (by omega),List.drop_eq_getElem_cons hlt,List.foldl_cons]
  exact ih (i+1) n _ (by omega) (by omega) (by omega)
theorem kd (m:Int) (D:List Int) (hD:D.length≤65536) (s:ByteArray):∀ (d i n:Nat),d=D.length-i→i≤D.length→d<n→
  BH.l0 (BH.t1 fu) n s D m ((D.take i).map fun x=>W64 (x-m)) (i:Int)=BH.S1 s m (D.map fun x=>W64 (x-m)):=by
 intro d
 induction d with
 | zero=>
  intro i n hd hi hn
  have:i=D.length:=by omega
  subst this
  obtain ⟨n,rfl⟩:∃ k,n=k+1:=⟨n-1,by omega⟩
  show BH.S0 BH.S1 _ _ _ _ _ _=_
  unfold BH.S0
  rw [Aq,AJ (by omega),cond_false,List.take_length]
 | succ d ih=>
  intro i n hd hi hn
  obtain ⟨n,rfl⟩:∃ k,n=k+1:=⟨n-1,by omega⟩
  have hlt:i<D.length:=by omega
  have hih:=ih (i+1) n (by omega) (by omega) (by omega)
  rw [take_one hlt,List.map_append] at hih
  show BH.S0 _ (BH.l0 (BH.t1 fu) n) _ _ _ _ _=_
  unfold BH.S0
  rw [Aq,Bj (by omega),cond_true,AA (by omega),cond_true,Bg (by rw [List.length_map,List.length_take];omega),cond_true,AQ hlt,AE (by omega)]
  exact hih
theorem eA (l:List Int) (hl:l.length≤65536) (h64:∀ x∈l,BZ x):BH l=some (ofBytes (JK l (Ee (Dc l))),0):=by
 show BH.S (BH.l0 (BH.t1 fu) fu) l=_
 unfold BH.S JK
 rw [Aq,AJ (by omega),cond_false]
 by_cases h0:l.length=0
 ·rw [CT (by omega),cond_true,if_pos h0]
  rfl
 ·rw [CE (by omega),cond_false,if_neg h0]
  have hl0:0<l.length:=by omega
  have hg0:l.getD 0 0=l[0]:=getD_at hl0
  have hn0:nth l 0 0=l.getD 0 0:=rfl
  have hq:BZ (l.getD 0 0):=by rw [hg0];exact h64 _ (List.getElem_mem hl0)
  rw [AA (by omega),cond_true,hn0,FA hq,Option.bind_some,En]
  by_cases h1:l.length=1
  ·rw [CT (by omega),cond_true,if_pos h1]
  ·have hdl:=JJ l
   have hst:CI l=some (CD l):=kb l hl hl0 (l.length-1) 0 fu (by omega) (by omega) (by unfold fu;omega)
   have hls:Ct (CD l)=some (Fs (CD l)):=by
    show Ct.S (Ct.l0 fu) (CD l)=_
    unfold Ct.S
    rw [AA (by rw [Aq];omega),cond_true]
    exact kc (CD l) (by omega) ((CD l).length-1) 1 fu (nth (CD l) 0 0) (by omega) (by omega) (by unfold fu;omega)
   have hw:=kd (Fs (CD l)) (CD l) (by omega) (ofBytes (vB (l.getD 0 0))) (CD l).length 0 fu (by omega) (by omega) (by unfold fu;omega)
   have hfl:=IP l
   obtain ⟨_,w2,_⟩:=Fu (Dc l) (by omega)
   have hb:(Dc l).length*Ee (Dc l)≤65536*64:=Nat.mul_le_mul (by omega) w2
   have hpl:=EF (Dc l) (Ee (Dc l))
   have k1:=Eo (l.getD 0 0)
   have k2:=Eo (Fs (CD l))
   rw [CE (by omega),cond_false,if_neg h1,hst,Option.bind_some,hls,Option.bind_some]
   refine Eq.trans hw ?_
   show BH.S1 _ _ (Dc l)=_
   unfold BH.S1
   rw [Kb _ (by omega),Option.bind_some,LV _ w2 (by omega) (Nat.le_refl _),Option.bind_some,FA (aC (by omega) (Wy l)),Option.bind_some,En,Ed,TP w2,Ed]
   have r1:CK (ofBytes (vB (l.getD 0 0))) (ofBytes (vB (Fs (CD l))))=true:=decide_eq_true (by rw [AD,AD];omega)
   have r2:CK (ofBytes (vB (l.getD 0 0)++vB (Fs (CD l)))) (ofBytes [(Ee (Dc l):Int)])=true:=decide_eq_true (by rw [AD,AD,List.length_append,List.length_singleton];omega)
   have r3:CK (ofBytes (vB (l.getD 0 0)++vB (Fs (CD l))++[(Ee (Dc l):Int)])) (ofBytes (CQ (Dc l) (Ee (Dc l))))=true:=decide_eq_true (by rw [AD,AD,List.length_append,List.length_append,List.length_singleton];omega)
   dsimp only
   rw [r1,r2,r3,Ed,cond_true,cond_true,cond_true]
   simp
end Go.AM.Pure
end

section
/- The document's dictionaries: distinct values, by insertion, and the places. Printed for numbers and texts alike by mk13r.py. -/
namespace Go.AM.Pure
open Go.AM
section
variable {α : Type} {c : α → α → Int}
theorem VA (c:α→α→Int) (x:α):∀ d:List α,∃ p q,d=p++q∧(∀ y∈p,c y x = -1)∧∀ z r,q=z :: r→¬ c z x = -1
 | []=>⟨[],[],rfl,fun _ h=>(by cases h),fun _ _ h=>(by cases h)⟩
 | a :: d=>by
  by_cases h:c a x = -1
  ·obtain ⟨p,q,h1,h2,h3⟩:=VA c x d
   refine ⟨a :: p,q,by rw [h1];rfl,fun y hy=>?_,h3⟩
   rcases List.mem_cons.1 hy with rfl | hy
   ·exact h
   ·exact h2 y hy
  ·exact ⟨[],a :: d,rfl,fun _ h=>(by cases h),fun z r e=>by cases e;exact h⟩
theorem aG {p q:List α} {x:α} {l:List α} (h:EN c (p++q) l) (hx:x∈p++q):EN c (p++q) (l++[x]):=
 ⟨h.1,fun y=>by
  rw [List.mem_append (t:=[x]),List.mem_singleton,← h.2 y]
  exact ⟨.inl,fun h=>h.elim id fun e=>e ▸ hx⟩⟩
theorem eu (o:Ord3 c) {p q:List α} {x:α} {l:List α} (h:EN c (p++q) l) (hp:∀ y∈p,c y x = -1) (hq:∀ z r,q=z :: r→¬ c z x = -1∧z≠x):EN c (p++[x]++q) (l++[x]):=by
 obtain ⟨h1,h2⟩:=h
 obtain ⟨k1,k2,k3⟩:=List.pairwise_append.1 h1
 have hxq:∀ y∈q,c x y = -1:=fun y hy=>by
  cases q with
  | nil=>cases hy
  | cons z r=>
   obtain ⟨m1,m2⟩:=hq z r rfl
   have hz:c x z = -1:=by
    rw [o.neg z x]
    rcases o.rng z x with h | h | h
    ·exact absurd h m1
    ·exact absurd ((o.eq0 _ _).1 h) m2
    ·rw [h]
   rcases List.mem_cons.1 hy with rfl | hy
   ·exact hz
   ·exact o.tr _ _ _ hz ((List.pairwise_cons.1 k2).1 y hy)
 constructor
 ·unfold Inc
  rw [List.append_assoc,List.pairwise_append]
  refine ⟨k1,?_,fun a ha b hb=>?_⟩
  ·rw [List.singleton_append,List.pairwise_cons]
   exact ⟨hxq,k2⟩
  ·rcases List.mem_append.1 hb with hb | hb
   ·rw [List.mem_singleton.1 hb];exact hp a ha
   ·exact k3 a ha b hb
 ·intro y
  rw [List.mem_append (t:=[x]),List.mem_singleton,← h2 y]
  simp only [List.mem_append,List.mem_singleton]
  constructor
  ·rintro ((h | h) | h)
   ·exact .inl (.inl h)
   ·exact .inr h
   ·exact .inl (.inr h)
  ·rintro ((h | h) | h)
   ·exact .inl (.inl h)
   ·exact .inr h
   ·exact .inl (.inr h)
end
theorem tZ (a b:Int):ltI a b=decide (sgn a b = -1):=by
 show decide (a<b)=_
 unfold sgn
 by_cases h:a<b
 ·rw [if_pos h,decide_eq_true h];rfl
 ·rw [if_neg h,decide_eq_false h]
  split <;> rfl
theorem Zpe (l:List Int):EN sgn (BB l) l:=⟨(FE l).1.imp fun {a b} h=>by unfold sgn;rw [if_pos h],(FE l).2⟩
theorem Zng1 (l:List Int):plc (BB l) l=BQ l:=rfl
theorem Zqe {l d:List Int} {places:List Int} {i:Nat} (hi:i<l.length) (hil:i<1000000) (hd:d.length<1000000) {p q:List Int} (hpq:d=p++q) (hp:∀ y∈p,sgn y l[i] = -1) (hq:∀ z r,q=z :: r→¬ sgn z l[i] = -1) {o2:List Int→List Int→List Int→Int→Int→Option (List Int×List Int)}:
  ∀ (g j n:Nat),g=p.length-j→j≤p.length→g<n→Ak.l1 o2 n l d places (i:Int) (j:Int)=o2 l d places (i:Int) (p.length:Int):=by
 have hpl:d.length=p.length+q.length:=by rw [hpq,List.length_append]
 intro g
 induction g with
 | zero=>
  intro j n hg hj hn
  have:j=p.length:=by omega
  subst this
  obtain ⟨n,rfl⟩:∃ k,n=k+1:=⟨n-1,by omega⟩
  show Ak.S1 _ _ _ _ _ _ _=_
  unfold Ak.S1
  cases q with
  | nil=>
   rw [List.length_nil] at hpl
   rw [Aq,AJ (by omega),cond_false]
  | cons z r=>
   rw [List.length_cons] at hpl
   have hz:d[p.length]'(by omega)=z:=by simp only [hpq,List.getElem_append_right (Nat.le_refl _),Nat.sub_self,List.getElem_cons_zero]
   rw [Aq,Bj (by omega),cond_true,AA (by omega),cond_true,AA (by rw [Aq];omega),cond_true,AQ (show p.length<d.length by omega),hz,AQ hi,tZ,decide_eq_false (hq z r rfl),cond_false]
 | succ g ih=>
  intro j n hg hj hn
  obtain ⟨n,rfl⟩:∃ k,n=k+1:=⟨n-1,by omega⟩
  have hjp:j<p.length:=by omega
  have hz:d[j]'(by omega)=p[j]:=by simp only [hpq,List.getElem_append_left hjp]
  show Ak.S1 o2 (Ak.l1 o2 n) _ _ _ _ _=_
  unfold Ak.S1
  rw [Aq,Bj (by omega),cond_true,AA (by omega),cond_true,AA (by rw [Aq];omega),cond_true,AQ (show j<d.length by omega),hz,AQ hi,tZ,decide_eq_true (hp _ (List.getElem_mem hjp)),cond_true,AE (by omega)]
  exact ih (j+1) n (by omega) (by omega) (by omega)
theorem Zjx (l:List Int) (hl:l.length≤65536) {o4:List Int→List Int→List Int→Option (List Int×List Int)}:∀ (g i m:Nat) (d:List Int),g=l.length-i→i≤l.length→200000<m→EN sgn d (l.take i)→d.length≤i→
  ∃ D,Ak.l0 o4 (m+g) l d [] (i:Int)=o4 l D []∧EN sgn D l∧D.length≤l.length:=by
 intro g
 induction g with
 | zero=>
  intro i m d hg hi hm hd hdl
  have:i=l.length:=by omega
  subst this
  obtain ⟨m,rfl⟩:∃ k,m=k+1:=⟨m-1,by omega⟩
  rw [List.take_length] at hd
  refine ⟨d,?_,hd,hdl⟩
  show Ak.S0 _ _ _ _ _ _=_
  unfold Ak.S0
  rw [Aq,AJ (by omega),cond_false]
 | succ g ih=>
  intro i m d hg hi hm hd hdl
  have hlt:i<l.length:=by omega
  obtain ⟨p,q,hpq,hp,hq⟩:=VA sgn l[i] d
  have hpl:d.length=p.length+q.length:=by rw [hpq,List.length_append]
  have hfind:=Zqe (places:=[]) hlt (by omega) (by omega) hpq hp hq (o2:=Ak.t2 (Ak.l0 o4 (m+g)) (m+g)) p.length 0 (m+g) (by omega) (by omega) (by omega)
  have hi2:((i:Int)+1)=((i+1:Nat):Int):=rfl
  obtain ⟨e,he⟩:∃ e,m+g=e+2:=⟨m+g-2,by omega⟩
  show ∃ D,Ak.S0 o4 (Ak.l1 (Ak.t2 (Ak.l0 o4 (m+g)) (m+g)) (m+g)) l d [] (i:Int)=_∧_
  unfold Ak.S0
  rw [Aq,Bj (by omega),cond_true,show (0:Int)=((0:Nat):Int) from rfl,hfind]
  have h2:Ak.t2 (Ak.l0 o4 (m+g)) (m+g)=Ak.S2 (Ak.l0 o4 (m+g)) (Ak.S3 (Ak.l0 o4 (m+g))):=by
   generalize Ak.l0 o4 (m+g)=z
   rw [he]
   rfl
  rw [h2]
  unfold Ak.S2
  have hins:(∀ z r,q=z :: r→¬ sgn z l[i] = -1∧z≠l[i])→∃ D,Ak.S3 (Ak.l0 o4 (m+g)) l d [] (i:Int) (p.length:Int)=o4 l D []∧EN sgn D l∧D.length≤l.length:=fun hne=>by
   unfold Ak.S3
   have htk:List.take (Int.toNat (p.length:Int)) d=p:=by rw [hpq];exact List.take_left
   have hdr:List.drop (Int.toNat (p.length:Int)) d=q:=by rw [hpq];exact List.drop_left
   rw [Aq,DO (by omega),cond_true,htk,hdr,Bg (by omega),cond_true,AA (by rw [Aq];omega),cond_true,Bg (by omega),cond_true,DO (by omega),cond_true,AQ hlt,Bg (by rw [List.length_append,List.length_singleton];omega),cond_true,AE (by omega),hi2]
   exact ih (i+1) m _ (by omega) (by omega) hm (by rw [take_one hlt];exact eu YG (hpq ▸ hd) hp hne) (by rw [List.length_append,List.length_append,List.length_singleton];omega)
  cases hqc:q with
  | nil=>
   rw [hqc,List.length_nil] at hpl
   rw [Aq,AJ (by omega),cond_false]
   exact hins fun z r e=>by rw [hqc] at e;cases e
  | cons z r=>
   rw [hqc,List.length_cons] at hpl
   have hz:d[p.length]'(by omega)=z:=by simp only [hpq,hqc,List.getElem_append_right (Nat.le_refl _),Nat.sub_self,List.getElem_cons_zero]
   rw [Aq,Bj (by omega),cond_true,AA (by omega),cond_true,AA (by rw [Aq];omega),cond_true,AQ (show p.length<d.length by omega),hz,AQ hlt]
   by_cases hzx:z=l[i]
   ·rw [CT hzx,cond_true,AE (by omega),hi2]
    exact ih (i+1) m d (by omega) (by omega) hm (by rw [take_one hlt,hpq];exact aG (hpq ▸ hd) (by rw [hqc,hzx];simp)) (by omega)
   ·rw [CE hzx,cond_false]
    exact hins fun z' r' e=>by
     rw [hqc] at e
     cases e
     exact ⟨hq z r hqc,hzx⟩
theorem ua {l d:List Int} (hl:l.length≤65536) (hdl:d.length≤l.length) (hd:EN sgn d l) {i:Nat} (hi:i<l.length) {places:List Int} (hpl:places.length≤65536) {o5:List Int→List Int→List Int→Int→Option (List Int×List Int)}:
  ∀ (g j n:Nat),g=idx d l[i]-j→j≤idx d l[i]→g<n→Ak.l6 o5 n l d places (i:Int) (j:Int)=o5 l d (places++[(idx d l[i]:Int)]) ((i:Int)+1):=by
 have hk:=Nl ((hd.2 _).2 (List.getElem_mem hi))
 have hg:=Qn hk
 intro g
 induction g with
 | zero=>
  intro j n hg' hj hn
  have:j=idx d l[i]:=by omega
  subst this
  obtain ⟨n,rfl⟩:∃ k,n=k+1:=⟨n-1,by omega⟩
  show Ak.S6 _ _ _ _ _ _ _=_
  unfold Ak.S6
  rw [Aq,AA (by omega),cond_true,Aq,AA (by omega),cond_true,AQ hk,hg,AQ hi,Db rfl,cond_false,Bg (by omega),cond_true,AE (by omega)]
 | succ g ih=>
  intro j n hg' hj hn
  obtain ⟨n,rfl⟩:∃ k,n=k+1:=⟨n-1,by omega⟩
  have hjd:j<d.length:=by omega
  have hne:¬ d[j]=l[i]:=fun e=>by
   have:=hd.1.inj YG hjd hk (e.trans hg.symm)
   omega
  show Ak.S6 o5 (Ak.l6 o5 n) _ _ _ _ _=_
  unfold Ak.S6
  rw [Aq,AA (by omega),cond_true,Aq,AA (by omega),cond_true,AQ hjd,AQ hi,Jp hne,cond_true,AE (by omega)]
  exact ih (j+1) n (by omega) (by omega) (by omega)
theorem qm {l d:List Int} (hl:l.length≤65536) (hdl:d.length≤l.length) (hd:EN sgn d l):∀ (g i m:Nat),g=l.length-i→i≤l.length→200000<m→
  Ak.l5 (m+g) l d ((plc d l).take i) (i:Int)=some (d,plc d l):=by
 have hpl:=Gl d l
 intro g
 induction g with
 | zero=>
  intro i m hg hi hm
  have:i=l.length:=by omega
  subst this
  obtain ⟨m,rfl⟩:∃ k,m=k+1:=⟨m-1,by omega⟩
  show Ak.S5 _ _ _ _ _=_
  unfold Ak.S5
  rw [Aq,AJ (by omega),cond_false,List.take_of_length_le (by omega)]
 | succ g ih=>
  intro i m hg hi hm
  have hlt:i<l.length:=by omega
  have hk:=Nl ((hd.2 _).2 (List.getElem_mem hlt))
  show Ak.S5 (Ak.l6 (Ak.l5 (m+g)) (m+g)) _ _ _ _=_
  unfold Ak.S5
  have:=ua hl hdl hd hlt (places:=(plc d l).take i) (by rw [List.length_take];omega) (o5:=Ak.l5 (m+g)) (idx d l[i]) 0 (m+g) (by omega) (by omega) (by omega)
  rw [Aq,Bj (by omega),cond_true,show (0:Int)=((0:Nat):Int) from rfl,this]
  have h2:=ih (i+1) m (by omega) (by omega) hm
  rw [take_one (by omega),YR hlt] at h2
  exact h2
theorem cf (l:List Int) (hl:l.length≤65536):Ak l=some (BB l,plc (BB l) l):=by
 show Ak.S (Ak.l0 (Ak.t4 fu) fu) l=_
 unfold Ak.S
 obtain ⟨D,h1,h2,h3⟩:=Zjx l hl (o4:=Ak.t4 fu) l.length 0 (fu-l.length) [] (by omega) (by omega) (by unfold fu;omega) ⟨List.Pairwise.nil,fun x=>by simp⟩ (by simp)
 rw [show fu-l.length+l.length=fu by unfold fu;omega] at h1
 have hD:D=BB l:=h2.uniq YG (Zpe l)
 subst hD
 refine Eq.trans h1 ?_
 show Ak.S4 (Ak.l5 18446744073709551615) _ _ _=_
 unfold Ak.S4
 have:=qm hl h3 h2 l.length 0 (18446744073709551615-l.length) (by omega) (by omega) (by omega)
 rw [show 18446744073709551615-l.length+l.length=18446744073709551615 by omega] at this
 exact this
theorem Zdc1 {a b:ByteArray} (h:a=b):(!(eqS a b))=false:=by rw [JZ h];rfl
theorem Zec1 {a b:ByteArray} (h:¬ a=b):(!(eqS a b))=true:=by rw [Ob h];rfl
theorem Zre {l d:List ByteArray} {places:List Int} {i:Nat} (hi:i<l.length) (hil:i<1000000) (hd:d.length<1000000) {p q:List ByteArray} (hpq:d=p++q) (hp:∀ y∈p,Ik y l[i] = -1) (hq:∀ z r,q=z :: r→¬ Ik z l[i] = -1) {o2:List ByteArray→List ByteArray→List Int→Int→Int→Option (List ByteArray×List Int)}:
  ∀ (g j n:Nat),g=p.length-j→j≤p.length→g<n→Aj.l1 o2 n l d places (i:Int) (j:Int)=o2 l d places (i:Int) (p.length:Int):=by
 have hpl:d.length=p.length+q.length:=by rw [hpq,List.length_append]
 intro g
 induction g with
 | zero=>
  intro j n hg hj hn
  have:j=p.length:=by omega
  subst this
  obtain ⟨n,rfl⟩:∃ k,n=k+1:=⟨n-1,by omega⟩
  show Aj.S1 _ _ _ _ _ _ _=_
  unfold Aj.S1
  cases q with
  | nil=>
   rw [List.length_nil] at hpl
   rw [Aq,AJ (by omega),cond_false]
  | cons z r=>
   rw [List.length_cons] at hpl
   have hz:d[p.length]'(by omega)=z:=by simp only [hpq,List.getElem_append_right (Nat.le_refl _),Nat.sub_self,List.getElem_cons_zero]
   rw [Aq,Bj (by omega),cond_true,AA (by omega),cond_true,AA (by rw [Aq];omega),cond_true,AQ (show p.length<d.length by omega),hz,AQ hi,cF,decide_eq_false (hq z r rfl),cond_false]
 | succ g ih=>
  intro j n hg hj hn
  obtain ⟨n,rfl⟩:∃ k,n=k+1:=⟨n-1,by omega⟩
  have hjp:j<p.length:=by omega
  have hz:d[j]'(by omega)=p[j]:=by simp only [hpq,List.getElem_append_left hjp]
  show Aj.S1 o2 (Aj.l1 o2 n) _ _ _ _ _=_
  unfold Aj.S1
  rw [Aq,Bj (by omega),cond_true,AA (by omega),cond_true,AA (by rw [Aq];omega),cond_true,AQ (show j<d.length by omega),hz,AQ hi,cF,decide_eq_true (hp _ (List.getElem_mem hjp)),cond_true,AE (by omega)]
  exact ih (j+1) n (by omega) (by omega) (by omega)
theorem Zkx (l:List ByteArray) (hl:l.length≤65536) {o4:List ByteArray→List ByteArray→List Int→Option (List ByteArray×List Int)}:∀ (g i m:Nat) (d:List ByteArray),g=l.length-i→i≤l.length→200000<m→EN Ik d (l.take i)→d.length≤i→
  ∃ D,Aj.l0 o4 (m+g) l d [] (i:Int)=o4 l D []∧EN Ik D l∧D.length≤l.length:=by
 intro g
 induction g with
 | zero=>
  intro i m d hg hi hm hd hdl
  have:i=l.length:=by omega
  subst this
  obtain ⟨m,rfl⟩:∃ k,m=k+1:=⟨m-1,by omega⟩
  rw [List.take_length] at hd
  refine ⟨d,?_,hd,hdl⟩
  show Aj.S0 _ _ _ _ _ _=_
  unfold Aj.S0
  rw [Aq,AJ (by omega),cond_false]
 | succ g ih=>
  intro i m d hg hi hm hd hdl
  have hlt:i<l.length:=by omega
  obtain ⟨p,q,hpq,hp,hq⟩:=VA Ik l[i] d
  have hpl:d.length=p.length+q.length:=by rw [hpq,List.length_append]
  have hfind:=Zre (places:=[]) hlt (by omega) (by omega) hpq hp hq (o2:=Aj.t2 (Aj.l0 o4 (m+g)) (m+g)) p.length 0 (m+g) (by omega) (by omega) (by omega)
  have hi2:((i:Int)+1)=((i+1:Nat):Int):=rfl
  obtain ⟨e,he⟩:∃ e,m+g=e+2:=⟨m+g-2,by omega⟩
  show ∃ D,Aj.S0 o4 (Aj.l1 (Aj.t2 (Aj.l0 o4 (m+g)) (m+g)) (m+g)) l d [] (i:Int)=_∧_
  unfold Aj.S0
  rw [Aq,Bj (by omega),cond_true,show (0:Int)=((0:Nat):Int) from rfl,hfind]
  have h2:Aj.t2 (Aj.l0 o4 (m+g)) (m+g)=Aj.S2 (Aj.l0 o4 (m+g)) (Aj.S3 (Aj.l0 o4 (m+g))):=by
   generalize Aj.l0 o4 (m+g)=z
   rw [he]
   rfl
  rw [h2]
  unfold Aj.S2
  have hins:(∀ z r,q=z :: r→¬ Ik z l[i] = -1∧z≠l[i])→∃ D,Aj.S3 (Aj.l0 o4 (m+g)) l d [] (i:Int) (p.length:Int)=o4 l D []∧EN Ik D l∧D.length≤l.length:=fun hne=>by
   unfold Aj.S3
   have htk:List.take (Int.toNat (p.length:Int)) d=p:=by rw [hpq];exact List.take_left
   have hdr:List.drop (Int.toNat (p.length:Int)) d=q:=by rw [hpq];exact List.drop_left
   rw [Aq,DO (by omega),cond_true,htk,hdr,Bg (by omega),cond_true,AA (by rw [Aq];omega),cond_true,Bg (by omega),cond_true,DO (by omega),cond_true,AQ hlt,Bg (by rw [List.length_append,List.length_singleton];omega),cond_true,AE (by omega),hi2]
   exact ih (i+1) m _ (by omega) (by omega) hm (by rw [take_one hlt];exact eu Im (hpq ▸ hd) hp hne) (by rw [List.length_append,List.length_append,List.length_singleton];omega)
  cases hqc:q with
  | nil=>
   rw [hqc,List.length_nil] at hpl
   rw [Aq,AJ (by omega),cond_false]
   exact hins fun z r e=>by rw [hqc] at e;cases e
  | cons z r=>
   rw [hqc,List.length_cons] at hpl
   have hz:d[p.length]'(by omega)=z:=by simp only [hpq,hqc,List.getElem_append_right (Nat.le_refl _),Nat.sub_self,List.getElem_cons_zero]
   rw [Aq,Bj (by omega),cond_true,AA (by omega),cond_true,AA (by rw [Aq];omega),cond_true,AQ (show p.length<d.length by omega),hz,AQ hlt]
   by_cases hzx:z=l[i]
   ·rw [JZ hzx,cond_true,AE (by omega),hi2]
    exact ih (i+1) m d (by omega) (by omega) hm (by rw [take_one hlt,hpq];exact aG (hpq ▸ hd) (by rw [hqc,hzx];simp)) (by omega)
   ·rw [Ob hzx,cond_false]
    exact hins fun z' r' e=>by
     rw [hqc] at e
     cases e
     exact ⟨hq z r hqc,hzx⟩
theorem ub {l d:List ByteArray} (hl:l.length≤65536) (hdl:d.length≤l.length) (hd:EN Ik d l) {i:Nat} (hi:i<l.length) {places:List Int} (hpl:places.length≤65536) {o5:List ByteArray→List ByteArray→List Int→Int→Option (List ByteArray×List Int)}:
  ∀ (g j n:Nat),g=idx d l[i]-j→j≤idx d l[i]→g<n→Aj.l6 o5 n l d places (i:Int) (j:Int)=o5 l d (places++[(idx d l[i]:Int)]) ((i:Int)+1):=by
 have hk:=Nl ((hd.2 _).2 (List.getElem_mem hi))
 have hg:=Qn hk
 intro g
 induction g with
 | zero=>
  intro j n hg' hj hn
  have:j=idx d l[i]:=by omega
  subst this
  obtain ⟨n,rfl⟩:∃ k,n=k+1:=⟨n-1,by omega⟩
  show Aj.S6 _ _ _ _ _ _ _=_
  unfold Aj.S6
  rw [Aq,AA (by omega),cond_true,Aq,AA (by omega),cond_true,AQ hk,hg,AQ hi,Zdc1 rfl,cond_false,Bg (by omega),cond_true,AE (by omega)]
 | succ g ih=>
  intro j n hg' hj hn
  obtain ⟨n,rfl⟩:∃ k,n=k+1:=⟨n-1,by omega⟩
  have hjd:j<d.length:=by omega
  have hne:¬ d[j]=l[i]:=fun e=>by
   have:=hd.1.inj Im hjd hk (e.trans hg.symm)
   omega
  show Aj.S6 o5 (Aj.l6 o5 n) _ _ _ _ _=_
  unfold Aj.S6
  rw [Aq,AA (by omega),cond_true,Aq,AA (by omega),cond_true,AQ hjd,AQ hi,Zec1 hne,cond_true,AE (by omega)]
  exact ih (j+1) n (by omega) (by omega) (by omega)
theorem qn {l d:List ByteArray} (hl:l.length≤65536) (hdl:d.length≤l.length) (hd:EN Ik d l):∀ (g i m:Nat),g=l.length-i→i≤l.length→200000<m→
  Aj.l5 (m+g) l d ((plc d l).take i) (i:Int)=some (d,plc d l):=by
 have hpl:=Gl d l
 intro g
 induction g with
 | zero=>
  intro i m hg hi hm
  have:i=l.length:=by omega
  subst this
  obtain ⟨m,rfl⟩:∃ k,m=k+1:=⟨m-1,by omega⟩
  show Aj.S5 _ _ _ _ _=_
  unfold Aj.S5
  rw [Aq,AJ (by omega),cond_false,List.take_of_length_le (by omega)]
 | succ g ih=>
  intro i m hg hi hm
  have hlt:i<l.length:=by omega
  have hk:=Nl ((hd.2 _).2 (List.getElem_mem hlt))
  show Aj.S5 (Aj.l6 (Aj.l5 (m+g)) (m+g)) _ _ _ _=_
  unfold Aj.S5
  have:=ub hl hdl hd hlt (places:=(plc d l).take i) (by rw [List.length_take];omega) (o5:=Aj.l5 (m+g)) (idx d l[i]) 0 (m+g) (by omega) (by omega) (by omega)
  rw [Aq,Bj (by omega),cond_true,show (0:Int)=((0:Nat):Int) from rfl,this]
  have h2:=ih (i+1) m (by omega) (by omega) hm
  rw [take_one (by omega),YR hlt] at h2
  exact h2
theorem Ql (l:List ByteArray) (hl:l.length≤65536):Aj l=some (BE l,plc (BE l) l):=by
 show Aj.S (Aj.l0 (Aj.t4 fu) fu) l=_
 unfold Aj.S
 obtain ⟨D,h1,h2,h3⟩:=Zkx l hl (o4:=Aj.t4 fu) l.length 0 (fu-l.length) [] (by omega) (by omega) (by unfold fu;omega) ⟨List.Pairwise.nil,fun x=>by simp⟩ (by simp)
 rw [show fu-l.length+l.length=fu by unfold fu;omega] at h1
 have hD:D=BE l:=h2.uniq Im (Ie l)
 subst hD
 refine Eq.trans h1 ?_
 show Aj.S4 (Aj.l5 18446744073709551615) _ _ _=_
 unfold Aj.S4
 have:=qn hl h3 h2 l.length 0 (18446744073709551615-l.length) (by omega) (by omega) (by omega)
 rw [show 18446744073709551615-l.length+l.length=18446744073709551615 by omega] at this
 exact this
end Go.AM.Pure
end

section
/- The document's sum of bytes, its codes, and its blocks: the same bytes as the program's. -/
namespace Go.AM.Pure
open Go.AM
theorem Zou {a b:Nat} (ha:a<4294967296) (hb:b<4294967296):FM .i64 (a:Int) (b:Int)=((a ^^^ b:Nat):Int):=by
 have h:=Nat.xor_lt_two_pow (n:=32) ha hb
 unfold FM
 have e:(BitVec.ofInt 64 (a:Int) ^^^ BitVec.ofInt 64 (b:Int)).toNat=a ^^^ b:=by
  rw [BitVec.toNat_xor,BitVec.ofInt_natCast,BitVec.ofInt_natCast,BitVec.toNat_ofNat,BitVec.toNat_ofNat,Nat.mod_eq_of_lt (by omega),Nat.mod_eq_of_lt (by omega)]
 show IntKind.wrap .i64 ((BitVec.ofInt 64 (a:Int) ^^^ BitVec.ofInt 64 (b:Int)).toNat:Int)=_
 rw [e]
 exact Ez (by omega)
theorem TQ (n:Int):IntKind.wrap .u32 n=n % 4294967296:=by
 unfold IntKind.wrap
 rfl
theorem qh {a b:Nat} (ha:a<4294967296) (hb:b<4294967296):FM .u32 (a:Int) (b:Int)=((a ^^^ b:Nat):Int):=by
 have h:=Nat.xor_lt_two_pow (n:=32) ha hb
 unfold FM
 have e:(BitVec.ofInt 32 (a:Int) ^^^ BitVec.ofInt 32 (b:Int)).toNat=a ^^^ b:=by
  rw [BitVec.toNat_xor,BitVec.ofInt_natCast,BitVec.ofInt_natCast,BitVec.toNat_ofNat,BitVec.toNat_ofNat,Nat.mod_eq_of_lt (by omega),Nat.mod_eq_of_lt (by omega)]
 show IntKind.wrap .u32 ((BitVec.ofInt 32 (a:Int) ^^^ BitVec.ofInt 32 (b:Int)).toNat:Int)=_
 rw [e,TQ]
 omega
def cG (n:Nat):Nat:=(n / 2) ^^^ (if n % 2=1 then 2197175160 else 0)
theorem Zhx (n:Nat) (_:n<4294967296):BF .u32 (n:Int) 1=((n % 2:Nat):Int):=by
 unfold BF
 have e:(BitVec.ofInt 32 (n:Int) &&& BitVec.ofInt 32 1).toNat=n % 4294967296 % 2:=by
  rw [BitVec.toNat_and,BitVec.ofInt_natCast,BitVec.toNat_ofNat,show (BitVec.ofInt 32 1).toNat=2 ^ 1-1 from rfl,Nat.and_two_pow_sub_one_eq_mod]
 show IntKind.wrap .u32 ((BitVec.ofInt 32 (n:Int) &&& BitVec.ofInt 32 1).toNat:Int)=_
 rw [e,TQ]
 omega
theorem Zl4 (k:IntKind) (hk:1≤k.bits) (n:Nat):BG k (n:Int) 1=((n / 2:Nat):Int):=by
 unfold BG
 rw [show min (Int.toNat 1) k.bits=1 from Nat.min_eq_left hk,show (2:Int) ^ 1=2 from rfl,show ((n / 2:Nat):Int)=(n:Int) / 2 from by omega,Int.fdiv_eq_ediv_of_nonneg _ (by omega)]
theorem qi {n:Nat} (h:n<4294967296):Qi (n:Int)=(cG n:Int):=by
 have hm:BF .u32 2197175160 (AT .u32 0 (BF .u32 (n:Int) 1))=((if n % 2=1 then 2197175160 else 0:Nat):Int):=by
  rw [Zhx n h]
  rcases Nat.mod_two_eq_zero_or_one n with h2 | h2
  ·rw [h2];decide +kernel
  ·rw [h2];decide +kernel
 unfold Qi cG
 rw [hm,Zl4 _ (by decide)]
 exact qh (by omega) (by split <;> omega)
def MP (n b:Nat):Nat:=if n % 2≠b % 2 then (n / 2) ^^^ 2197175160 else n / 2
theorem Vx {n b:Nat} (h:n<4294967296):MP n b<4294967296:=by
 unfold MP
 split
 ·exact Nat.xor_lt_two_pow (n:=32) (by omega) (by omega)
 ·omega
theorem tV (n b:Nat):cG (n ^^^ b)=MP n b ^^^ (b / 2):=by
 unfold cG MP
 have h1:(n ^^^ b) / 2=(n / 2) ^^^ (b / 2):=Nat.xor_div_two
 have h2:(n ^^^ b) % 2=1↔n % 2≠b % 2:=by
  rw [Nat.xor_mod_two_eq_one]
  omega
 rw [h1]
 by_cases h:n % 2≠b % 2
 ·rw [if_pos (h2.2 h),if_pos h,Nat.xor_assoc,Nat.xor_assoc,Nat.xor_comm (b / 2)]
 ·rw [if_neg (fun e=>h (h2.1 e)),if_neg h,Nat.xor_zero]
def Nk:Nat→Nat→Nat→Nat
 | 0,n,_=>n
 | k+1,n,b=>Nk k (MP n b) (b / 2)
theorem aE:∀ (k:Nat) {n b:Nat},n<4294967296→Nk k n b<4294967296
 | 0,_,_,h=>h
 | k+1,_,_,h=>aE k (Vx h)
theorem aF:∀ (k n b:Nat),n<4294967296→b<2 ^ k→k≤8→eh k ((n ^^^ b:Nat):Int)=(Nk k n b:Int)
 | 0,n,b,_,hb,_=>by
  have:b=0:=by simpa using hb
  subst this
  rw [Nat.xor_zero];rfl
 | k+1,n,b,hn,hb,hk=>by
  have hb8:b<2 ^ 8:=Nat.lt_of_lt_of_le hb (Nat.pow_le_pow_right (by omega) hk)
  show eh k (Qi _)=(Nk k (MP n b) (b / 2):Int)
  rw [qi (Nat.xor_lt_two_pow (n:=32) hn (by omega)),tV]
  exact aF k _ _ (Vx hn) (by rw [Nat.pow_succ] at hb;omega) (by omega)
theorem UL {o0:ByteArray→Int→Int→Option Int} {s:ByteArray} {i:Nat} (hi:i<s.size) (hil:i<100000000000) {b:Nat} (hb:byteAt s (i:Int)=(b:Int)) (hb8:b<256):∀ (d k m:Nat) (n:Nat),k+d=8→d<m→n<4294967296→
  Bn.l1 o0 m s (n:Int) (i:Int) (k:Int)=o0 s (Nk d n (b / 2 ^ k):Int) ((i:Int)+1)
 | 0,k,m,n,h,hm,_=>by
  obtain ⟨m,rfl⟩:∃ j,m=j+1:=⟨m-1,by omega⟩
  show Bn.S1 _ _ _ _ _ _=_
  unfold Bn.S1
  rw [AJ (by omega),cond_false,AE (by omega)]
  rfl
 | d+1,k,m,n,h,hm,hn=>by
  obtain ⟨m,rfl⟩:∃ j,m=j+1:=⟨m-1,by omega⟩
  show Bn.S1 o0 (Bn.l1 o0 m) _ _ _ _=_
  unfold Bn.S1
  have hsh:BG .i64 (b:Int) (k:Int)=((b / 2 ^ k:Nat):Int):=by
   rw [Hk _ _ (by omega),Int.natCast_ediv,Int.natCast_pow];rfl
  have ih:=UL (o0:=o0) hi hil hb hb8 d (k+1) m (MP n (b / 2 ^ k)) (by omega) (by omega) (Vx hn)
  rw [show b / 2 ^ (k+1)=b / 2 ^ k / 2 by rw [Nat.pow_succ,Nat.div_div_eq_div_mul]] at ih
  rw [Bj (by omega),cond_true,CB,AA (by omega),cond_true,DL (by omega),cond_true,hb,Ez (by omega),hsh,Zce,Zce,AE (by omega),Zl4 _ (by decide)]
  show _=o0 s (Nk d (MP n (b / 2 ^ k)) (b / 2 ^ k / 2):Int) ((i:Int)+1)
  by_cases hne:n % 2≠b / 2 ^ k % 2
  ·rw [Jp (by omega),cond_true,show (2197175160:Int)=((2197175160:Nat):Int) from rfl,Zou (by omega) (by omega)]
   unfold MP at ih ⊢
   rw [if_pos hne] at ih ⊢
   exact ih
  ·rw [Db (by omega),cond_false]
   unfold MP at ih ⊢
   rw [if_neg hne] at ih ⊢
   exact ih
theorem tW (n b:Nat) (hn:n<4294967296) (hb:b<256):Qj (n:Int) (b:Int)=(Nk 8 n b:Int):=by
 unfold Qj
 rw [TQ,show (b:Int) % 4294967296=(b:Int) by omega,qh hn (by omega)]
 exact aF 8 n b hn hb (by omega)
theorem tX (s:ByteArray) (i:Int):∃ c:Fin 256,byteAt s i=(c.val:Int):=
 ⟨⟨(s.data.toList.getD i.toNat 0).toNat,UInt8.toNat_lt _⟩,rfl⟩
theorem qj {s:ByteArray} {i:Nat} (h:i<s.size):(Ax s).drop i=byteAt s (i:Int) :: (Ax s).drop (i+1):=by
 have hb:=Fq s i h
 have hl:i<(Ax s).length:=by rw [Bz];exact h
 rw [List.drop_eq_getElem_cons hl]
 rw [List.getElem?_eq_getElem hl] at hb
 injection hb with hb
 rw [hb]
theorem ka (s:ByteArray) (hs:s.size<10000000000):∀ (d i m:Nat) (n:Nat),d=s.size-i→i≤s.size→20<m→n<4294967296→
  ∃ r:Nat,r<4294967296∧((Ax s).drop i).foldl Qj (n:Int)=(r:Int)∧Bn.l0 (m+d) s (n:Int) (i:Int)=some (FM .i64 (r:Int) 4294967295):=by
 intro d
 induction d with
 | zero=>
  intro i m n hd hi hm hn
  have:i=s.size:=by omega
  subst this
  obtain ⟨m,rfl⟩:∃ j,m=j+1:=⟨m-1,by omega⟩
  refine ⟨n,hn,by rw [List.drop_eq_nil_of_le (by rw [Bz];exact Nat.le_refl _)];rfl,?_⟩
  show Bn.S0 _ _ _ _=_
  unfold Bn.S0
  rw [CB,AJ (by omega),cond_false]
 | succ d ih=>
  intro i m n hd hi hm hn
  have hlt:i<s.size:=by omega
  obtain ⟨c,hc⟩:=tX s (i:Int)
  have hin:=UL (o0:=Bn.l0 (m+d)) hlt (by omega) (b:=c.val) hc c.isLt 8 0 (m+d) n rfl (by omega) hn
  obtain ⟨r,h1,h2,h3⟩:=ih (i+1) m (Nk 8 n c.val) (by omega) (by omega) hm (aE 8 hn)
  refine ⟨r,h1,?_,?_⟩
  ·rw [qj hlt,List.foldl_cons,hc,tW n c.val hn c.isLt]
   exact h2
  ·show Bn.S0 (Bn.l1 (Bn.l0 (m+d)) (m+d)) _ _ _=_
   unfold Bn.S0
   rw [Nat.pow_zero,Nat.div_one] at hin
   rw [CB,Bj (by omega),cond_true,show (0:Int)=((0:Nat):Int) from rfl,hin]
   exact h3
theorem eo (s:ByteArray) (hs:s.size<10000000000):Pf s=some (Hq 0 (Ax s))∧0≤Hq 0 (Ax s)∧Hq 0 (Ax s)<4294967296:=by
 obtain ⟨r,h1,h2,h3⟩:=ka s hs s.size 0 (fu-s.size) 4294967295 (by omega) (by omega) (by unfold fu;omega) (by omega)
 rw [show fu-s.size+s.size=fu by unfold fu;omega] at h3
 rw [List.drop_zero] at h2
 have hx:=Nat.xor_lt_two_pow (n:=32) h1 (show 4294967295<2 ^ 32 by omega)
 have hc:Hq 0 (Ax s)=((r ^^^ 4294967295:Nat):Int):=by
  unfold Hq
  rw [show FM .u32 4294967295 (IntKind.wrap .u32 0)=((4294967295:Nat):Int) by decide +kernel,h2,show (4294967295:Int)=((4294967295:Nat):Int) from rfl,qh (by omega) h1,Nat.xor_comm]
  exact Ez (by omega)
 refine ⟨?_,by rw [hc];omega,by rw [hc];omega⟩
 unfold Pf
 have hm:Bn 0 s=some (FM .i64 (r:Int) 4294967295):=by
  show Bn.S (Bn.l0 fu) 0 s=_
  unfold Bn.S
  rw [show FM .i64 (BF .i64 0 4294967295) 4294967295=((4294967295:Nat):Int) by decide +kernel]
  exact h3
 rw [hm,show (4294967295:Int)=((4294967295:Nat):Int) from rfl,Zou h1 (by omega),hc]
 rfl
theorem cd (s:ByteArray) (hs:s.size<10000000000):Lw s=some (ofBytes (GP (Ax s))):=by
 obtain ⟨h1,h2,h3⟩:=eo s hs
 unfold Lw
 rw [h1,Option.bind_some]
 have hb:∀ k:Nat,k≤32→IntKind.wrap .u8 (BF .i64 (BG .i64 (Hq 0 (Ax s)) (k:Int)) 255)=IntKind.wrap .u8 (BG .u32 (IntKind.wrap .u32 (Hq 0 (Ax s))) (k:Int)):=fun k hk=>by
  have e2:BG .u32 (Hq 0 (Ax s)) (k:Int)=Hq 0 (Ax s) / 2 ^ k:=by
   unfold BG
   rw [show min (Int.toNat (k:Int)) IntKind.u32.bits=k from Nat.min_eq_left hk,Int.fdiv_eq_ediv_of_nonneg _ (Int.le_of_lt (Da k))]
  rw [TQ,Int.emod_eq_of_lt h2 h3,Hk _ _ (by omega),ew,e2,GF,GF]
  omega
 have h0:=hb 0 (by omega)
 rw [show BG .i64 (Hq 0 (Ax s)) ((0:Nat):Int)=Hq 0 (Ax s) by rw [Hk _ _ (by omega),Int.pow_zero,Int.ediv_one]] at h0
 have h8:=hb 8 (by omega)
 have h16:=hb 16 (by omega)
 have h24:=hb 24 (by omega)
 simp only [show ((8:Nat):Int)=8 from rfl,show ((16:Nat):Int)=16 from rfl,show ((24:Nat):Int)=24 from rfl,show ((0:Nat):Int)=0 from rfl] at h0 h8 h16 h24
 rw [h0,h8,h16,h24]
 show (bif CK s (ofBytes (Vw (Ax s))) then some (Ei s (ofBytes (Vw (Ax s)))) else none)=_
 have r1:CK s (ofBytes (Vw (Ax s)))=true:=decide_eq_true (by rw [AD];show s.size+4≤_;omega)
 rw [r1,cond_true]
 congr 1
 conv=>lhs;rw [← FT s,Ed]
 rw [FT]
 rfl
theorem qk (p:List Int) (hp:p.length≤65536) (d:List Int) (hd:d.length≤65536) (h64:∀ x∈d,BZ x) (a:List Int) (ha:a.length≤10):∀ (g i n:Nat),g=d.length-i→i≤d.length→g<n→
  Ba.l0 (Ba.t1 fu) n d p (ofBytes (a++Dy (d.take i))) (i:Int)=some (ofBytes (a++(Dy d++CQ p (Ee p))),0):=by
 intro g
 induction g with
 | zero=>
  intro i n hg hi hn
  have:i=d.length:=by omega
  subst this
  obtain ⟨n,rfl⟩:∃ k,n=k+1:=⟨n-1,by omega⟩
  show Ba.S0 Ba.S1 _ _ _ _ _=_
  unfold Ba.S0
  rw [Aq,AJ (by omega),cond_false,List.take_length]
  unfold Ba.S1
  have k1:=JI d
  obtain ⟨_,w2,_⟩:=Fu p hp
  have hb:p.length*Ee p≤65536*64:=Nat.mul_le_mul hp w2
  have hpl:=EF p (Ee p)
  have r1:CK (ofBytes (a++Dy d)) (ofBytes (CQ p (Ee p)))=true:=decide_eq_true (by rw [AD,AD,List.length_append];omega)
  rw [Pn p hp,Option.bind_some,r1,cond_true,Ed,List.append_assoc]
 | succ g ih=>
  intro i n hg hi hn
  obtain ⟨n,rfl⟩:∃ k,n=k+1:=⟨n-1,by omega⟩
  have hlt:i<d.length:=by omega
  have k1:=JI (d.take i)
  rw [List.length_take] at k1
  have k2:=Eo d[i]
  have r1:CK (ofBytes (a++Dy (d.take i))) (ofBytes (vB d[i]))=true:=decide_eq_true (by rw [AD,AD,List.length_append];omega)
  have hih:=ih (i+1) n (by omega) (by omega) (by omega)
  rw [take_one hlt,QT,← List.append_assoc] at hih
  show Ba.S0 _ (Ba.l0 (Ba.t1 fu) n) _ _ _ _=_
  unfold Ba.S0
  rw [Aq,Bj (by omega),cond_true,AA (by omega),cond_true,AQ hlt,FA (h64 _ (List.getElem_mem hlt)),Option.bind_some,En,r1,cond_true,Ed,AE (by omega)]
  exact hih
theorem Vy (l:List Int) (hl:l.length≤65536) (h64:∀ x∈l,BZ x):Ba l=some (ofBytes (LU l (Ee (BQ l))),0):=by
 show Ba.S (Ba.l0 (Ba.t1 fu) fu) l=_
 unfold Ba.S LU
 rw [Aq,AJ (by omega),cond_false]
 by_cases h0:l.length=0
 ·rw [CT (by omega),cond_true,if_pos h0]
  rfl
 ·have hdl:=IK l
  have hpl:=Ha l
  rw [CE (by omega),cond_false,if_neg h0,cf l hl,Zng1,Option.bind_some]
  dsimp only
  rw [Aq,FA (by unfold BZ;omega),Option.bind_some,En]
  have:=qk (BQ l) (by omega) (BB l) (by omega) (fun x hx=>h64 x (((FE l).2 x).1 hx)) (vB ((BB l).length:Int)) (Eo _).2 (BB l).length 0 fu (by omega) (by omega) (by unfold fu;omega)
  rw [List.take_zero,show Dy []=[] from rfl,List.append_nil] at this
  exact this
theorem UB (l:List ByteArray) (hl:l.length≤65536) (hsh:Fw l):JT l=some (ofBytes (Kx l (Ee (Bc l))),0):=by
 unfold JT Kx
 rw [Aq,AJ (by omega),cond_false]
 by_cases h0:l.length=0
 ·rw [CT (by omega),cond_true,if_pos h0]
  rfl
 ·have hdl:=Hb l
  have hpl:(Bc l).length=l.length:=Gl _ _
  obtain ⟨_,w2,_⟩:=Fu (Bc l) (by omega)
  have hb:(Bc l).length*Ee (Bc l)≤65536*64:=Nat.mul_le_mul (by omega) w2
  have hpb:=EF (Bc l) (Ee (Bc l))
  have k1:=Eo ((BE l).length:Int)
  have k2:=FF _ hsh.JL
  rw [CE (by omega),cond_false,if_neg h0,Ql l hl,Option.bind_some]
  dsimp only
  rw [Ki _ (by omega) hsh.JL,Option.bind_some]
  dsimp only
  have r1:CK (ofBytes (vB ((BE l).length:Int))) (ofBytes (BA (BE l)))=true:=decide_eq_true (by rw [AD,AD];omega)
  have r2:CK (ofBytes (vB ((BE l).length:Int)++BA (BE l))) (ofBytes (CQ (Bc l) (Ee (Bc l))))=true:=decide_eq_true (by rw [AD,AD,List.length_append];omega)
  rw [Db rfl,cond_false,Aq,FA (by unfold BZ;omega),Option.bind_some,En,r1,cond_true,Pn (Bc l) (by omega),Option.bind_some,Ed,r2,cond_true,Ed,List.append_assoc]
theorem Vz (l:List Int) (hl:l.length≤65536) (h64:∀ x∈l,BZ x) (code:Int):KK l code=some (match OH l code with | some b=>(ofBytes b,true) | none=>(eB,false)):=by
 unfold KK OH
 by_cases h1:code=1
 ·rw [CT h1,cond_true,if_pos h1,VB l hl]
  rfl
 ·rw [CE h1,cond_false,if_neg h1]
  by_cases h2:code=2
  ·obtain ⟨_,k2,k3⟩:=Kc l hl
   rw [CT h2,cond_true,if_pos h2,UM l hl,Option.bind_some,Sv _ k3 (by rw [k2];exact hl) (fun r hr=>h64 _ (by rw [← k2];exact QV k3 r hr))]
   rfl
  ·rw [CE h2,cond_false,if_neg h2]
   by_cases h3:code=3
   ·rw [CT h3,cond_true,if_pos h3,eA l hl h64]
    rfl
   ·rw [CE h3,cond_false,if_neg h3]
    by_cases h4:code=4
    ·rw [CT h4,cond_true,if_pos h4,Vy l hl h64]
     rfl
    ·rw [CE h4,cond_false,if_neg h4]
     by_cases h5:code=5
     ·obtain ⟨_,k2,_⟩:=Fu l hl
      have hb:l.length*Ee l≤65536*64:=Nat.mul_le_mul hl k2
      have hpl:=EF l (Ee l)
      have r1:CK (ofBytes [(Ee l:Int)]) (ofBytes (CQ l (Ee l)))=true:=decide_eq_true (by rw [AD,AD];simp;omega)
      rw [CT h5,cond_true,if_pos h5,Kb l hl,Option.bind_some,LV l k2 hl (Nat.le_refl _),Option.bind_some,TP k2]
      dsimp only
      rw [r1,cond_true,Ed]
      rfl
     ·rw [CE h5,cond_false,if_neg h5]
theorem YK (l:List ByteArray) (hl:l.length≤65536) (hsh:Fw l) (code:Int):MI l code=some (match MQ l code with | some b=>(ofBytes b,true) | none=>(eB,false)):=by
 have hpl:(Bc l).length=l.length:=Gl _ _
 unfold MI MQ
 by_cases h1:code=1
 ·rw [CT h1,cond_true,if_pos h1,Ki l hl hsh]
  rfl
 ·rw [CE h1,cond_false,if_neg h1]
  by_cases h2:code=2
  ·rw [CT h2,cond_true,if_neg (show ¬ code=4 by omega),if_pos h2,Aq]
   unfold TR
   by_cases h0:l.length=0
   ·rw [AJ (by omega),cond_false,if_pos h0]
    rfl
   ·obtain ⟨r1,r2,r3⟩:=Kc (Bc l) (by omega)
    have hdl:=Hb l
    have hsp:=Ie l
    have k1:=Eo ((BE l).length:Int)
    have k2:=FF _ hsh.JL
    have k3:=IS (Is (Bc l))
    have k4:=FZ _ _ _ r3
    rw [r2] at k4
    have hrp:=Sv (Is (Bc l)) r3 (by rw [r2];omega) (fun r hr=>by
     have hm:r.1∈Bc l:=r2 ▸ QV r3 r hr
     have:=Mv hsp r.1 hm
     unfold BZ;omega)
    have q1:CK (ofBytes (vB ((BE l).length:Int))) (ofBytes (BA (BE l)))=true:=decide_eq_true (by rw [AD,AD];omega)
    have q2:CK (ofBytes (vB ((BE l).length:Int)++BA (BE l))) (ofBytes (FN (Is (Bc l))))=true:=decide_eq_true (by rw [AD,AD,List.length_append];omega)
    rw [Bj (by omega),cond_true,if_neg h0,Ql l hl,Option.bind_some]
    dsimp only
    rw [Ki _ (by omega) hsh.JL,Option.bind_some,UM (Bc l) (by omega),Option.bind_some,hrp,Option.bind_some,Aq,FA (by unfold BZ;omega),Option.bind_some,En]
    dsimp only
    rw [q1,cond_true,Ed,q2,cond_true,Ed,List.append_assoc]
  ·rw [CE h2,cond_false]
   by_cases h4:code=4
   ·rw [CT h4,cond_true,if_pos h4,UB l hl hsh]
    rfl
   ·rw [CE h4,cond_false,if_neg h4,if_neg h2]
theorem Pm {l:List Cell} {kind:Int} (h:Iq l kind) (h64:∀ c∈l,BZ c.2.1) (code:Int):Lv (BD l) kind code=some (match Jq (BD l) kind code with | some b=>(ofBytes b,true) | none=>(eB,false)):=by
 have hle:=Gk l
 have h2:=h.2.1
 unfold Lv Jq
 by_cases hk:kind=1
 ·rw [CT hk,cond_true,if_pos hk,cg _ (by omega),Option.bind_some,Vz _ (by rw [List.length_map];omega) (fun x hx=>by
   obtain ⟨c,hc,rfl⟩:=List.mem_map.1 hx
   unfold BD at hc
   exact h64 c (List.mem_filter.1 hc).1)]
  rfl
 ·rw [CE hk,cond_false,if_neg hk,YN _ (by omega),Option.bind_some,YK _ (by rw [List.length_map];omega) (Po h)]
  rfl
theorem ql (l:List Cell) (hl:l.length≤64) (kind:Int):∀ (d i n:Nat),d=l.length-i→i≤l.length→d<n→
  ∃ b,BT.l1 n l kind (i:Int)=some b∧(b=true↔∀ j (h:j<l.length),i≤j→DZ l[j]=true∧(l[j].1=0∨l[j].1=kind)):=by
 intro d
 induction d with
 | zero=>
  intro i n hd hi hn
  obtain ⟨n,rfl⟩:∃ k,n=k+1:=⟨n-1,by omega⟩
  refine ⟨true,?_,⟨fun _ j h hj=>absurd h (by omega),fun _=>rfl⟩⟩
  show BT.S1 _ _ _ _=_
  unfold BT.S1
  rw [Aq,AJ (by omega),cond_false]
 | succ d ih=>
  intro i n hd hi hn
  obtain ⟨n,rfl⟩:∃ k,n=k+1:=⟨n-1,by omega⟩
  have hlt:i<l.length:=by omega
  obtain ⟨b,h1,h2⟩:=ih (i+1) n (by omega) (by omega) (by omega)
  show ∃ b,BT.S1 (BT.l1 n) _ _ _=_∧_
  unfold BT.S1
  rw [Aq,Bj (by omega),cond_true,AA (by omega),cond_true,AQ hlt,cond_true,cond_true,AE (by omega)]
  have hstep:(DZ l[i]=true∧(l[i].1=0∨l[i].1=kind))→∃ b,BT.l1 n l kind ((i:Int)+1)=some b∧(b=true↔∀ j (h:j<l.length),i≤j→DZ l[j]=true∧(l[j].1=0∨l[j].1=kind)):=fun hg=>
   ⟨b,h1,h2.trans ⟨fun h j hj hij=>by
    by_cases e:i=j
    ·subst e;exact hg
    ·exact h j hj (by omega),fun h j hj hij=>h j hj (by omega)⟩⟩
  have hbad:¬ (DZ l[i]=true∧(l[i].1=0∨l[i].1=kind))→∃ b,some false=some b∧(b=true↔∀ j (h:j<l.length),i≤j→DZ l[j]=true∧(l[j].1=0∨l[j].1=kind)):=fun hg=>
   ⟨false,rfl,⟨fun h=>(by cases h),fun h=>absurd (h i hlt (Nat.le_refl _)) hg⟩⟩
  by_cases hm:DZ l[i]=true
  ·rw [hm,Bool.not_true,cond_false]
   by_cases h0:l[i].1=0
   ·rw [Db h0,cond_false]
    exact hstep ⟨hm, .inl h0⟩
   ·rw [Jp h0,cond_true]
    by_cases hk:l[i].1=kind
    ·rw [Db hk,cond_false]
     exact hstep ⟨hm, .inr hk⟩
    ·rw [Jp hk,cond_true]
     exact hbad fun h=>h.2.elim h0 hk
  ·rw [Bool.not_eq_true] at hm
   rw [hm,Bool.not_false,cond_true]
   exact hbad fun h=>by rw [hm] at h;exact absurd h.1 (by decide)
theorem OF (l:List Cell) (kind:Int):∃ b,BT l kind=some b∧(b=true↔Iq l kind):=by
 show ∃ b,BT.S (BT.t0 fu) l kind=some b∧_
 unfold BT.S
 rw [Aq]
 by_cases h1:1≤l.length
 ·by_cases h2:l.length≤64
  ·rw [AJ (by omega),cond_false,AJ (by omega),cond_false]
   obtain ⟨b,k1,k2⟩:=ql l h2 kind l.length 0 18446744073709551615 (by omega) (by omega) (by omega)
   have ht:BT.t0 fu l kind=some b:=k1
   have hb:(kind=1∨kind=2)→(b=true↔Iq l kind):=fun hk=>k2.trans
    ⟨fun h=>⟨h1,h2,hk,fun c hc=>by
     obtain ⟨j,hj,rfl⟩:=List.mem_iff_getElem.1 hc
     exact h j hj (Nat.zero_le _)⟩,fun h j hj _=>h.2.2.2 _ (List.getElem_mem hj)⟩
   by_cases k1:kind=1
   ·rw [Db k1,cond_false]
    exact ⟨b,ht,hb (.inl k1)⟩
   ·rw [Jp k1,cond_true]
    by_cases k2:kind=2
    ·rw [Db k2,cond_false]
     exact ⟨b,ht,hb (.inr k2)⟩
    ·rw [Jp k2,cond_true]
     exact ⟨false,rfl,⟨fun h=>(by cases h),fun h=>absurd h.2.2.1 (by omega)⟩⟩
  ·rw [AJ (by omega),cond_false,Bj (by omega),cond_true]
   exact ⟨false,rfl,⟨fun h=>(by cases h),fun h=>absurd h.2.1 h2⟩⟩
 ·rw [Bj (by omega),cond_true]
  exact ⟨false,rfl,⟨fun h=>(by cases h),fun h=>absurd h.1 h1⟩⟩
theorem ep {l:List Cell} {kind code:Int} (h:Iq l kind) (h64:∀ c∈l,BZ c.2.1) {b:List Int} (hb:Jq (BD l) kind code=some b):Ga l kind code=some (ofBytes (GP (Ir l kind code b)),0):=by
 obtain ⟨v1,v2⟩:=VD h hb
 have hc:=Sw hb
 obtain ⟨m,m1,m2⟩:=OF l kind
 rw [m2.2 h] at m1
 obtain ⟨h1,h2,h3,_⟩:=id h
 have hkr:0≤kind∧kind<256:=by rcases h3 with rfl | rfl <;> omega
 have hml:=Pp l
 unfold Ga
 rw [m1,Option.bind_some,Bool.not_true,cond_false,Qm l (by omega),Option.bind_some]
 dsimp only
 rw [Pm h h64,hb,Option.bind_some]
 dsimp only
 have w8:∀ x:Int,0≤x∧x<256→IntKind.wrap .u8 x=x:=fun x hx=>by rw [GF];omega
 rw [Bool.not_true,cond_false,Aq,CB,AD,w8 kind hkr,w8 code (by omega),w8 _ (by omega),w8 _ (by omega)]
 have r1:CK (ofBytes [kind,code,(l.length:Int),((DX l).length:Int)]) (ofBytes (DX l))=true:=decide_eq_true (by rw [AD,AD];simp;omega)
 rw [r1,cond_true,Ed]
 have r2:CK (ofBytes ([kind,code,(l.length:Int),((DX l).length:Int)]++DX l)) (ofBytes b)=true:=decide_eq_true (by rw [AD,AD];simp;omega)
 rw [r2,cond_true,Ed,List.append_assoc]
 show (Lw (ofBytes (Ir l kind code b))).bind _=_
 rw [cd _ (by rw [AD];unfold Ir;simp;omega),Option.bind_some,EC (VF h2 hkr (by omega) v1)]
theorem tY {l:List Cell} {kind code:Int} (h:Iq l kind) (h64:∀ c∈l,BZ c.2.1) (hb:Jq (BD l) kind code=none):Ga l kind code=some (eB,1):=by
 obtain ⟨m,m1,m2⟩:=OF l kind
 rw [m2.2 h] at m1
 have h2:=h.2.1
 unfold Ga
 rw [m1,Option.bind_some,Bool.not_true,cond_false,Qm l (by omega),Option.bind_some]
 dsimp only
 rw [Pm h h64,hb,Option.bind_some]
 rfl
theorem Zix {l:List Cell} {kind code:Int} (h:¬ Iq l kind):Ga l kind code=some (eB,1):=by
 obtain ⟨m,m1,m2⟩:=OF l kind
 have:m=false:=by
  cases m with
  | false=>rfl
  | true=>exact absurd (m2.1 rfl) h
 unfold Ga
 rw [m1,this]
 rfl
end Go.AM.Pure
end

section
/- BlockPuts and BlockBest. -/
namespace Go.AM.Pure
open Go.AM
theorem Zoe {l:List Cell} (hl:l.length≤70) (h64:∀ c∈l,BZ c.2.1) (kind code:Int):
  (Gt l kind code=some (eB,1)∧Ga l kind code=some (eB,1))∨
  ∃ b,Iq l kind∧Jq (BD l) kind code=some b∧Gt l kind code=some (ofBytes (GP (Ir l kind code b)),0)∧Ga l kind code=some (ofBytes (GP (Ir l kind code b)),0):=by
 by_cases hm:Iq l kind
 ·cases hv:Jq (BD l) kind code with
  | none=>exact .inl ⟨Zse hm hv,tY hm h64 hv⟩
  | some b=>exact .inr ⟨b,hm,rfl,Zpx hm hv,ep hm h64 hv⟩
 ·exact .inl ⟨eI (by omega) hm,Zix hm⟩
end Go.AM.Pure
end
