import Derived.Test.YtlamhllcnbcbbaaGreatAmP13n
section
/- The document's plain numbers and texts, runs and frames: the same bytes. -/
namespace Go.AM.Pure
open Go.AM
theorem Zh01 (a:Int):andI .i64 a 255=a % 256:=by
 unfold andI
 have h:(BitVec.ofInt 64 a &&& BitVec.ofInt 64 255).toNat=(BitVec.ofInt 64 a).toNat % 2 ^ 8:=by
  rw [BitVec.toNat_and,show (BitVec.ofInt 64 255).toNat=2 ^ 8-1 from rfl,Nat.and_two_pow_sub_one_eq_mod]
 show IntKind.wrap .i64 ((BitVec.ofInt 64 a &&& BitVec.ofInt 64 255).toNat:Int)=_
 have h2:=Zfe1 a
 rw [h,Int.natCast_emod,h2,show ((2 ^ 8:Nat):Int)=256 from rfl,Zde (by omega)]
 omega
theorem Zc8 (l:List Int) {o0:List Int→List Int→Int→Option ByteArray} {i:Nat} (hi:i<l.length) (hil:i<1000000):∀ (d k n:Nat) (b:List Int),k+d=8→d<n→b.length<100000000000→
  Zxa.l1 o0 n l (b++chop k (wb l[i] 64)) (i:Int) (k:Int)=o0 l (b++chop 8 (wb l[i] 64)) ((i:Int)+1)
 | 0,k,n,b,h,hn,hb=>by
  obtain ⟨n,rfl⟩:∃ j,n=j+1:=⟨n-1,by omega⟩
  have:k=8:=by omega
  subst this
  show Zxa.S1 _ _ _ _ _ _=_
  unfold Zxa.S1
  rw [lt_f (by omega),cond_false,Zn (a:=(i:Int)) (by omega)]
 | d+1,k,n,b,h,hn,hb=>by
  obtain ⟨n,rfl⟩:∃ j,n=j+1:=⟨n-1,by omega⟩
  show Zxa.S1 o0 (Zxa.l1 o0 n) _ _ _ _=_
  unfold Zxa.S1
  have hm:mulI .i64 8 (k:Int)=((8*k:Nat):Int):=by rw [Zek (by omega)];omega
  have hbyte:IntKind.wrap .u8 (andI .i64 (shrI .i64 l[i] ((8*k:Nat):Int)) 255)=l[i] / 2 ^ (8*k) % 256:=by
   rw [Zzk _ _ (by omega),Zh01,Zth];omega
  rw [lt_t (by omega),cond_true,Zu (by rw [Zf];omega),cond_true,hm,le_t (by omega),cond_true,Zna (by rw [List.length_append,Zch];omega),cond_true,Zy hi,hbyte,Zn (by omega),List.append_assoc,← Zjq1 l[i] k (by omega)]
  exact Zc8 l hi hil d (k+1) n b (by omega) (by omega) hb
theorem Zbv1 (l:List Int) (hl:l.length≤65536):∀ (d i m:Nat),d=l.length-i→i≤l.length→20<m→
  Zxa.l0 (m+d) l (chop (8*i) (strm (l.take i) 64)) (i:Int)=some (ofBytes (packB l 64)):=by
 intro d
 induction d with
 | zero=>
  intro i m hd hi hm
  have:i=l.length:=by omega
  subst this
  obtain ⟨m,rfl⟩:∃ j,m=j+1:=⟨m-1,by omega⟩
  show Zxa.S0 _ _ _ _=_
  unfold Zxa.S0
  rw [Zf,lt_f (by omega),cond_false,List.take_length]
  unfold packB
  rw [show (l.length*64+7) / 8=8*l.length by omega]
 | succ d ih=>
  intro i m hd hi hm
  have hlt:i<l.length:=by omega
  show Zxa.S0 (Zxa.l1 (Zxa.l0 (m+d)) (m+d)) _ _ _=_
  unfold Zxa.S0
  rw [Zf,lt_t (by omega),cond_true]
  have h1:=Zc8 (o0:=Zxa.l0 (m+d)) l hlt (by omega) 8 0 (m+d) (chop (8*i) (strm (l.take i) 64)) rfl (by omega) (by rw [Zch];omega)
  rw [show chop 0 (wb l[i] 64)=[] from rfl,List.append_nil] at h1
  rw [show (0:Int)=((0:Nat):Int) from rfl,h1]
  have:=ih (i+1) m (by omega) (by omega) hm
  rw [take_one hlt,Zss,show 8*(i+1)=8*i+8 by omega,Zin _ 8 _ _ (by rw [Zwk,List.length_take];omega)] at this
  exact this
theorem Zy6 (l:List Int) (hl:l.length≤65536):Zxa l=some (ofBytes (packB l 64)):=by
 have:=Zbv1 l hl l.length 0 (fu-l.length) (by omega) (by omega) (by unfold fu;omega)
 rw [show fu-l.length+l.length=fu by unfold fu;omega] at this
 exact this
theorem Zcv1 (o:List ByteArray) (hl:o.length≤65536) (hs:Short o):∀ (d i n:Nat),d=o.length-i→i≤o.length→d<n→
  Zic.l0 n o (Zla (o.take i)) (i:Int)=some (ofBytes (Zla o),0):=by
 intro d
 induction d with
 | zero=>
  intro i n hd hi hn
  have:i=o.length:=by omega
  subst this
  obtain ⟨n,rfl⟩:∃ k,n=k+1:=⟨n-1,by omega⟩
  show Zic.S0 _ _ _ _=_
  unfold Zic.S0
  rw [Zf,lt_f (by omega),cond_false,List.take_length]
 | succ d ih=>
  intro i n hd hi hn
  obtain ⟨n,rfl⟩:∃ k,n=k+1:=⟨n-1,by omega⟩
  have hlt:i<o.length:=by omega
  have h1:=Zif (o.take i) (hs.take i)
  rw [List.length_take] at h1
  have h2:=hs o[i] (List.getElem_mem hlt)
  show Zic.S0 (Zic.l0 n) _ _ _=_
  unfold Zic.S0
  have:=ih (i+1) n (by omega) (by omega) (by omega)
  rw [take_one hlt,Zgm,show Zla (o.take i)++tB o[i]=Zla (o.take i)++[(o[i].size:Int)]++Zk o[i] by unfold tB;simp] at this
  rw [Zf,lt_t (by omega),cond_true,Zu (by omega),cond_true,Zy hlt,Zma,lt_f (by omega),cond_false,cond_true,Zna (by omega),cond_true,cond_true,Zna (by rw [List.length_append,List.length_singleton];omega),cond_true,Zn (by omega),Zth,show (o[i].size:Int) % 256=(o[i].size:Int) by omega]
  exact this
theorem Zcm (o:List ByteArray) (hl:o.length≤65536) (hs:Short o):Zic o=some (ofBytes (Zla o),0):=
 Zcv1 o hl hs o.length 0 fu (by omega) (by omega) (by unfold fu;omega)
theorem Zcq1 {x:Int}:∀ (c d:Nat) (A B:List Int),List.replicate c x++A=List.replicate d x++B→A.head?≠some x→B.head?≠some x→c=d∧A=B
 | 0,0,A,B,h,_,_=>⟨rfl,h⟩
 | 0,d+1,A,B,h,ha,_=>by
  exfalso;apply ha
  rw [show A=_ from h];rfl
 | c+1,0,A,B,h,_,hb=>by
  exfalso;apply hb
  rw [show B=_ from h.symm];rfl
 | c+1,d+1,A,B,h,ha,hb=>by
  rw [List.replicate_succ,List.replicate_succ,List.cons_append,List.cons_append] at h
  obtain ⟨h1,h2⟩:=Zcq1 c d A B (List.cons.inj h).2 ha hb
  exact ⟨by omega,h2⟩
theorem Zvd1 {o:List Run} {n:Nat} {x:Int} (h:okR n (some x) o):(flatR o).head?≠some x:=by
 cases o with
 | nil=>intro h;cases h
 | cons r o=>
  obtain ⟨_,h1,h2,_⟩:=h
  rw [Zyh,show r.2.2.toNat=(r.2.2.toNat-1)+1 by omega,List.replicate_succ]
  intro h
  exact h2 (by simpa using h.symm)
theorem Zah1:∀ {o q:List Run} {n:Nat} {p:Option Int},okR n p o→okR n p q→flatR o=flatR q→o=q
 | [],[],_,_,_,_,_=>rfl
 | [],r :: q,_,_,_,h,e=>by
  have h1:=h.2.1
  rw [Zyh,show r.2.2.toNat=(r.2.2.toNat-1)+1 by omega,List.replicate_succ] at e
  cases e
 | r :: q,[],_,_,h,_,e=>by
  have h1:=h.2.1
  rw [Zyh,show r.2.2.toNat=(r.2.2.toNat-1)+1 by omega,List.replicate_succ] at e
  cases e
 | (x,a,c) :: o,(y,b,d) :: q,n,p,h,k,e=>by
  obtain ⟨h1,h2,_,h4⟩:=h
  obtain ⟨k1,k2,_,k4⟩:=k
  dsimp only at h1 h2 h4 k1 k2 k4
  rw [Zyh,Zyh] at e
  dsimp only at e
  have hxy:x=y:=by
   rw [show c.toNat=(c.toNat-1)+1 by omega,show d.toNat=(d.toNat-1)+1 by omega,List.replicate_succ,List.replicate_succ] at e
   exact (List.cons.inj e).1
  subst hxy
  obtain ⟨e1,e2⟩:=Zcq1 _ _ _ _ e (Zvd1 h4) (Zvd1 k4)
  rw [e1] at h4
  rw [Zah1 h4 k4 e2,show c=d by omega,h1,k1]
theorem Zi01 (l:List Int) (hl:l.length≤65536):∀ (d i n:Nat) (out:List Run),d=l.length-i→i≤l.length→d<n→flatR out=l.take i→okR 0 none out→lastR none out=(l.take i).getLast?→
  ∃ o,Zaf.l0 n l (i:Int) out=some o∧flatR o=l∧okR 0 none o:=by
 intro d
 induction d with
 | zero=>
  intro i n out hd hi hn h1 h2 _
  have:i=l.length:=by omega
  subst this
  obtain ⟨n,rfl⟩:∃ k,n=k+1:=⟨n-1,by omega⟩
  rw [List.take_length] at h1
  refine ⟨out,?_,h1,h2⟩
  show Zaf.S0 _ _ _ _=_
  unfold Zaf.S0
  rw [Zf,lt_f (by omega),cond_false]
 | succ d ih=>
  intro i n out hd hi hn h1 h2 h3
  obtain ⟨n,rfl⟩:∃ k,n=k+1:=⟨n-1,by omega⟩
  have hlt:i<l.length:=by omega
  have hfl:(flatR out).length=i:=by rw [h1,List.length_take];omega
  have hol:=Zbg out 0 none h2
  have hsn:(l.take (i+1)).getLast? = some l[i]:=by rw [take_one hlt,List.getLast?_concat]
  have hnew:(lastR none out≠some l[i])→∃ o,Zaf.l0 n l ((i+1:Nat):Int) (out++[(l[i],(i:Int),1)])=some o∧flatR o=l∧okR 0 none o:=fun hne=>
   ih (i+1) n _ (by omega) (by omega) (by omega) (by rw [Zve,Zdf,h1,take_one hlt];rfl)
    ((Zpl _ _ _ _).2 ⟨h2,by rw [hfl];exact ⟨by show (i:Int)=_;omega,by show (1:Int)≤1;omega,hne,trivial⟩⟩) (by rw [Zzh,hsn])
  show ∃ o,Zaf.S0 (Zaf.l0 n) _ _ _=_∧_
  unfold Zaf.S0
  rw [Zf,lt_t (by omega),cond_true,le_t (by omega),cond_true,Zu (i:=(i:Int)) (by omega),cond_true,cond_true,Zy hlt,Zn (by omega),Zna (by omega),cond_true]
  by_cases hi0:i=0
  ·subst hi0
   rw [lt_f (by omega),cond_false]
   exact hnew (by rw [h3,List.take_zero];simp)
  ·rw [lt_t (by omega),cond_true,Zqb (a:=(i:Int)) (by omega),Zu (i:=(i:Int)-1) (by omega),cond_true]
   have hlt1:i-1<l.length:=by omega
   have hlast:(l.take i).getLast? = some l[i-1]:=by
    have:l.take i=l.take (i-1)++[l[i-1]]:=by
     have:=take_one hlt1
     rwa [show i-1+1=i by omega] at this
    rw [this,List.getLast?_concat]
   rw [hlast] at h3
   rw [show (i:Int)-1=((i-1:Nat):Int) by omega,Zy hlt1]
   by_cases hq:l[i]=l[i-1]
   ·rw [eq_t hq,cond_true]
    rcases List.eq_nil_or_concat out with h0 | ⟨o,r,h0⟩
    ·subst h0;cases h3
    ·rw [List.concat_eq_append] at h0
     subst h0
     rw [Zzh] at h3
     have hr1:r.1=l[i-1]:=Option.some.inj h3
     have hob':o.length<1000000:=by rw [List.length_append] at hol;omega
     obtain ⟨k1,k2⟩:=(Zpl _ _ _ _).1 h2
     obtain ⟨k3,k4,k5,_⟩:=k2
     have hrl:r.2.2.toNat≤i:=by
      rw [Zve,Zdf,List.length_append,List.length_replicate] at hfl
      omega
     have hsub:subI .i64 (lenL (o++[r])) 1=(o.length:Int):=by rw [Zf,List.length_append,List.length_singleton,Zqb (by omega)];omega
     have hget:List.getD (o++[r]) o.length (0,0,0)=r:=by rw [List.getD_eq_getElem?_getD,List.getElem?_append_right (Nat.le_refl _),Nat.sub_self];rfl
     have hset:∀ r',List.set (o++[r]) o.length r'=o++[r']:=fun r'=>by rw [List.set_append_right _ _ (Nat.le_refl _),Nat.sub_self];rfl
     rw [hsub,Zu (by rw [Zf,List.length_append,List.length_singleton];omega),cond_true,cond_true,show Int.toNat (o.length:Int)=o.length from rfl,hget,hset,Zn (by omega)]
     refine ih (i+1) n _ (by omega) (by omega) (by omega) ?_ ((Zpl _ _ _ _).2 ⟨k1,k3,by show 1≤r.2.2+1;omega,k5,trivial⟩) (by rw [Zzh,hsn,hq];exact h3)
     rw [Zve,Zdf] at h1
     rw [Zve,Zdf,take_one hlt,← h1,List.append_assoc]
     congr 1
     show List.replicate (r.2.2+1).toNat r.1=_
     rw [show (r.2.2+1).toNat=r.2.2.toNat+1 by omega,List.replicate_succ',hr1,hq]
   ·rw [eq_f hq,cond_false]
    exact hnew (by rw [h3];intro h;exact hq (Option.some.inj h).symm)
theorem Zu5 (l:List Int) (hl:l.length≤65536):Zaf l=some (runO l):=by
 obtain ⟨o,h1,h2,h3⟩:=Zi01 l hl l.length 0 fu [] (by omega) (by omega) (by unfold fu;omega) rfl trivial rfl
 obtain ⟨_,k2,k3⟩:=Zik l hl
 rw [Zah1 h3 k3 (by rw [h2,k2])] at h1
 exact h1
theorem Zd8 (o:List Run) (ho:okR 0 none o) (hl:(flatR o).length≤65536):∀ (d i n:Nat),d=o.length-i→i≤o.length→d<n→
  Ztc.l0 n o ((flatR (o.take i)).length:Int) (i:Int)=some true:=by
 have hol:=Zbg o 0 none ho
 intro d
 induction d with
 | zero=>
  intro i n hd hi hn
  have:i=o.length:=by omega
  subst this
  obtain ⟨n,rfl⟩:∃ k,n=k+1:=⟨n-1,by omega⟩
  show Ztc.S0 _ _ _ _=_
  unfold Ztc.S0
  rw [Zf,lt_f (by omega),cond_false]
 | succ d ih=>
  intro i n hd hi hn
  obtain ⟨n,rfl⟩:∃ k,n=k+1:=⟨n-1,by omega⟩
  have hlt:i<o.length:=by omega
  obtain ⟨k1,k2,k3,k4,k5⟩:=Znp ho hlt
  show Ztc.S0 (Ztc.l0 n) _ _ _=_
  unfold Ztc.S0
  have hadd:addI .i64 ((flatR (o.take i)).length:Int) o[i].2.2=((flatR (o.take (i+1))).length:Int):=by rw [Zn (by omega),k4];omega
  have:=ih (i+1) n (by omega) (by omega) (by omega)
  rw [Zf,lt_t (by omega),cond_true,Zu (i:=(i:Int)) (by omega),cond_true,Zy hlt,ne_f k1,cond_false,cond_true,lt_f (by omega),cond_false,cond_true,Zqb (a:=65536) (by omega),lt_f (by omega),cond_false,hadd,Zn (a:=(i:Int)) (by omega)]
  simp only [cond_true]
  by_cases hi0:i=0
  ·rw [lt_f (by omega),cond_false]
   exact this
  ·have hlt1:i-1<o.length:=by omega
   have hl2:lastR none (o.take i)=some o[i-1].1:=by
    have:o.take i=o.take (i-1)++[o[i-1]]:=by
     have:=take_one hlt1
     rwa [show i-1+1=i by omega] at this
    rw [this,Zzh]
   rw [hl2] at k3
   rw [lt_t (by omega),cond_true,Zqb (by omega),Zu (by omega),cond_true,show (i:Int)-1=((i-1:Nat):Int) by omega,Zy hlt1,eq_f (fun h=>k3 (by rw [h])),cond_false]
   exact this
theorem Zdv1 (o:List Run) (hl:o.length≤65536) (h64:∀ r∈o,in64 r.1∧in64 r.2.2):∀ (d i n:Nat),d=o.length-i→i≤o.length→d<n→
  Zxd.l0 n o (ofBytes (runB (o.take i))) (i:Int)=some (ofBytes (runB o),0):=by
 intro d
 induction d with
 | zero=>
  intro i n hd hi hn
  have:i=o.length:=by omega
  subst this
  obtain ⟨n,rfl⟩:∃ k,n=k+1:=⟨n-1,by omega⟩
  show Zxd.S0 _ _ _ _=_
  unfold Zxd.S0
  rw [Zf,lt_f (by omega),cond_false,List.take_length]
 | succ d ih=>
  intro i n hd hi hn
  obtain ⟨n,rfl⟩:∃ k,n=k+1:=⟨n-1,by omega⟩
  have hlt:i<o.length:=by omega
  have h1:=Zdj (o.take i)
  rw [List.length_take] at h1
  have h2:=Zbe o[i].1
  have h3:=Zbe o[i].2.2
  obtain ⟨q1,q2⟩:=h64 o[i] (List.getElem_mem hlt)
  show Zxd.S0 (Zxd.l0 n) _ _ _=_
  unfold Zxd.S0
  have r1:roomS (ofBytes (runB (o.take i))) (ofBytes (vB o[i].1))=true:=decide_eq_true (by rw [Zv,Zv];omega)
  have r2:roomS (ofBytes (runB (o.take i)++vB o[i].1)) (ofBytes (vB o[i].2.2))=true:=decide_eq_true (by rw [Zv,Zv,List.length_append];omega)
  rw [Zf,lt_t (by omega),cond_true,Zu (by omega),cond_true,Zy hlt,Zsf q1,Option.bind_some,Zwe,r1,cond_true,cond_true,Zsf q2,Option.bind_some,Zwe,Zme,r2,cond_true,Zme,Zn (by omega),List.append_assoc,← Zae1,← take_one hlt]
  exact ih (i+1) n (by omega) (by omega) (by omega)
theorem Zmy (o:List Run) (ho:okR 0 none o) (hl:(flatR o).length≤65536) (h64:∀ r∈o,in64 r.1):Zxd o=some (ofBytes (runB o),0):=by
 have hol:=Zbg o 0 none ho
 show Zxd.S (Zxd.l0 fu) o=_
 unfold Zxd.S
 have hm:Ztc o=some true:=Zd8 o ho hl o.length 0 fu (by omega) (by omega) (by unfold fu;omega)
 rw [hm,Option.bind_some,Bool.not_true,cond_false]
 refine Zdv1 o (by omega) (fun r hr=>⟨h64 r hr,?_⟩) o.length 0 fu (by omega) (by omega) (by unfold fu;omega)
 obtain ⟨i,hi,rfl⟩:=List.mem_iff_getElem.1 hr
 obtain ⟨_,k2,_,k4,k5⟩:=Znp ho hi
 unfold in64
 omega
theorem Zzo1 (l:List Int) (hl:l.length≤65536) (h0:0<l.length):∀ (d i n:Nat),d=l.length-1-i→i≤l.length-1→d<n→
  Ztd.l0 n l ((diffs l).take i) ((i+1:Nat):Int)=some (diffs l):=by
 have hdl:=Zsk l
 intro d
 induction d with
 | zero=>
  intro i n hd hi hn
  have:i=l.length-1:=by omega
  subst this
  obtain ⟨n,rfl⟩:∃ k,n=k+1:=⟨n-1,by omega⟩
  show Ztd.S0 _ _ _ _=_
  unfold Ztd.S0
  rw [Zf,lt_f (by omega),cond_false,List.take_of_length_le (by omega)]
 | succ d ih=>
  intro i n hd hi hn
  obtain ⟨n,rfl⟩:∃ k,n=k+1:=⟨n-1,by omega⟩
  have hlt:i+1<l.length:=by omega
  have hlt0:i<l.length:=by omega
  have hdi:i<(diffs l).length:=by omega
  have hd1:=Zzy hlt hdi
  have hih:=ih (i+1) n (by omega) (by omega) (by omega)
  rw [take_one hdi,hd1] at hih
  show Ztd.S0 (Ztd.l0 n) _ _ _=_
  unfold Ztd.S0
  rw [Zf,lt_t (by omega),cond_true,Zu (by omega),cond_true,Zqb (b:=1) (by omega),show ((i+1:Nat):Int)-1=(i:Int) by omega,Zu (by omega),cond_true,Zna (by rw [List.length_take];omega),cond_true,Zy hlt,Zy hlt0,Zn (by omega)]
  exact hih
theorem Zap1 (x:List Int) (hx:x.length≤65536):∀ (d i n:Nat) (m:Int),d=x.length-i→i≤x.length→d<n→Zdd.l0 n x m (i:Int)=some ((x.drop i).foldl minI m):=by
 intro d
 induction d with
 | zero=>
  intro i n m hd hi hn
  have:i=x.length:=by omega
  subst this
  obtain ⟨n,rfl⟩:∃ k,n=k+1:=⟨n-1,by omega⟩
  show Zdd.S0 _ _ _ _=_
  unfold Zdd.S0
  rw [Zf,lt_f (by omega),cond_false,List.drop_length]
  rfl
 | succ d ih=>
  intro i n m hd hi hn
  obtain ⟨n,rfl⟩:∃ k,n=k+1:=⟨n-1,by omega⟩
  have hlt:i<x.length:=by omega
  show Zdd.S0 (Zdd.l0 n) _ _ _=_
  unfold Zdd.S0
  rw [Zf,lt_t (by omega),cond_true,Zu (by omega),cond_true,Zy hlt,Zn (by omega),List.drop_eq_getElem_cons hlt,List.foldl_cons]
  exact ih (i+1) n _ (by omega) (by omega) (by omega)
theorem Zbp1 (m:Int) (D:List Int) (hD:D.length≤65536) (s:ByteArray):∀ (d i n:Nat),d=D.length-i→i≤D.length→d<n→
  Zsb.l0 (Zsb.t1 fu) n s D m ((D.take i).map fun x=>W64 (x-m)) (i:Int)=Zsb.S1 s m (D.map fun x=>W64 (x-m)):=by
 intro d
 induction d with
 | zero=>
  intro i n hd hi hn
  have:i=D.length:=by omega
  subst this
  obtain ⟨n,rfl⟩:∃ k,n=k+1:=⟨n-1,by omega⟩
  show Zsb.S0 Zsb.S1 _ _ _ _ _ _=_
  unfold Zsb.S0
  rw [Zf,lt_f (by omega),cond_false,List.take_length]
 | succ d ih=>
  intro i n hd hi hn
  obtain ⟨n,rfl⟩:∃ k,n=k+1:=⟨n-1,by omega⟩
  have hlt:i<D.length:=by omega
  have hih:=ih (i+1) n (by omega) (by omega) (by omega)
  rw [take_one hlt,List.map_append] at hih
  show Zsb.S0 _ (Zsb.l0 (Zsb.t1 fu) n) _ _ _ _ _=_
  unfold Zsb.S0
  rw [Zf,lt_t (by omega),cond_true,Zu (by omega),cond_true,Zna (by rw [List.length_map,List.length_take];omega),cond_true,Zy hlt,Zn (by omega)]
  exact hih
theorem Zny (l:List Int) (hl:l.length≤65536) (h64:∀ x∈l,in64 x):Zsb l=some (ofBytes (Ztk l (widN (Zuc l))),0):=by
 show Zsb.S (Zsb.l0 (Zsb.t1 fu) fu) l=_
 unfold Zsb.S Ztk
 rw [Zf,lt_f (by omega),cond_false]
 by_cases h0:l.length=0
 ·rw [eq_t (by omega),cond_true,if_pos h0]
  rfl
 ·rw [eq_f (by omega),cond_false,if_neg h0]
  have hl0:0<l.length:=by omega
  have hg0:l.getD 0 0=l[0]:=getD_at hl0
  have hn0:nth l 0 0=l.getD 0 0:=rfl
  have hq:in64 (l.getD 0 0):=by rw [hg0];exact h64 _ (List.getElem_mem hl0)
  rw [Zu (by omega),cond_true,hn0,Zsf hq,Option.bind_some,Zwe]
  by_cases h1:l.length=1
  ·rw [eq_t (by omega),cond_true,if_pos h1]
  ·have hdl:=Zsk l
   have hst:Ztd l=some (diffs l):=Zzo1 l hl hl0 (l.length-1) 0 fu (by omega) (by omega) (by unfold fu;omega)
   have hls:Zdd (diffs l)=some (minF (diffs l)):=by
    show Zdd.S (Zdd.l0 fu) (diffs l)=_
    unfold Zdd.S
    rw [Zu (by rw [Zf];omega),cond_true]
    exact Zap1 (diffs l) (by omega) ((diffs l).length-1) 1 fu (nth (diffs l) 0 0) (by omega) (by omega) (by unfold fu;omega)
   have hw:=Zbp1 (minF (diffs l)) (diffs l) (by omega) (ofBytes (vB (l.getD 0 0))) (diffs l).length 0 fu (by omega) (by omega) (by unfold fu;omega)
   have hfl:=Zxh l
   obtain ⟨_,w2,_⟩:=Zte (Zuc l) (by omega)
   have hb:(Zuc l).length*widN (Zuc l)≤65536*64:=Nat.mul_le_mul (by omega) w2
   have hpl:=Zpe (Zuc l) (widN (Zuc l))
   have k1:=Zbe (l.getD 0 0)
   have k2:=Zbe (minF (diffs l))
   rw [eq_f (by omega),cond_false,if_neg h1,hst,Option.bind_some,hls,Option.bind_some]
   refine Eq.trans hw ?_
   show Zsb.S1 _ _ (Zuc l)=_
   unfold Zsb.S1
   rw [Zjj _ (by omega),Option.bind_some,Zrk _ w2 (by omega) (Nat.le_refl _),Option.bind_some,Zsf (Zzd1 (by omega) (Zl8 l)),Option.bind_some,Zwe,Zme,Zb4 w2,Zme]
   have r1:roomS (ofBytes (vB (l.getD 0 0))) (ofBytes (vB (minF (diffs l))))=true:=decide_eq_true (by rw [Zv,Zv];omega)
   have r2:roomS (ofBytes (vB (l.getD 0 0)++vB (minF (diffs l)))) (ofBytes [(widN (Zuc l):Int)])=true:=decide_eq_true (by rw [Zv,Zv,List.length_append,List.length_singleton];omega)
   have r3:roomS (ofBytes (vB (l.getD 0 0)++vB (minF (diffs l))++[(widN (Zuc l):Int)])) (ofBytes (packB (Zuc l) (widN (Zuc l))))=true:=decide_eq_true (by rw [Zv,Zv,List.length_append,List.length_append,List.length_singleton];omega)
   dsimp only
   rw [r1,r2,r3,Zme,cond_true,cond_true,cond_true]
   simp
end Go.AM.Pure
end

section
/- The document's dictionaries: distinct values, by insertion, and the places. Printed for numbers and texts alike by mk13r.py. -/
namespace Go.AM.Pure
open Go.AM
section
variable {α : Type} {c : α → α → Int}
theorem Zx6 (c:α→α→Int) (x:α):∀ d:List α,∃ p q,d=p++q∧(∀ y∈p,c y x = -1)∧∀ z r,q=z :: r→¬ c z x = -1
 | []=>⟨[],[],rfl,fun _ h=>(by cases h),fun _ _ h=>(by cases h)⟩
 | a :: d=>by
  by_cases h:c a x = -1
  ·obtain ⟨p,q,h1,h2,h3⟩:=Zx6 c x d
   refine ⟨a :: p,q,by rw [h1];rfl,fun y hy=>?_,h3⟩
   rcases List.mem_cons.1 hy with rfl | hy
   ·exact h
   ·exact h2 y hy
  ·exact ⟨[],a :: d,rfl,fun _ h=>(by cases h),fun z r e=>by cases e;exact h⟩
theorem Zud1 {p q:List α} {x:α} {l:List α} (h:Zkf c (p++q) l) (hx:x∈p++q):Zkf c (p++q) (l++[x]):=
 ⟨h.1,fun y=>by
  rw [List.mem_append (t:=[x]),List.mem_singleton,← h.2 y]
  exact ⟨.inl,fun h=>h.elim id fun e=>e ▸ hx⟩⟩
theorem Zzg1 (o:Ord3 c) {p q:List α} {x:α} {l:List α} (h:Zkf c (p++q) l) (hp:∀ y∈p,c y x = -1) (hq:∀ z r,q=z :: r→¬ c z x = -1∧z≠x):Zkf c (p++[x]++q) (l++[x]):=by
 obtain ⟨h1,h2⟩:=h
 obtain ⟨k1,k2,k3⟩:=List.pairwise_append.1 h1
 have hxq:∀ y∈q,c x y = -1:=fun y hy=>by
  cases q with
  | nil=>cases hy
  | cons z r=>
   obtain ⟨m1,m2⟩:=hq z r rfl
   have hz:c x z = -1:=by
    rw [o.neg z x]
    rcases o.rng z x with h | h | h
    ·exact absurd h m1
    ·exact absurd ((o.eq0 _ _).1 h) m2
    ·rw [h]
   rcases List.mem_cons.1 hy with rfl | hy
   ·exact hz
   ·exact o.tr _ _ _ hz ((List.pairwise_cons.1 k2).1 y hy)
 constructor
 ·unfold Inc
  rw [List.append_assoc,List.pairwise_append]
  refine ⟨k1,?_,fun a ha b hb=>?_⟩
  ·rw [List.singleton_append,List.pairwise_cons]
   exact ⟨hxq,k2⟩
  ·rcases List.mem_append.1 hb with hb | hb
   ·rw [List.mem_singleton.1 hb];exact hp a ha
   ·exact k3 a ha b hb
 ·intro y
  rw [List.mem_append (t:=[x]),List.mem_singleton,← h2 y]
  simp only [List.mem_append,List.mem_singleton]
  constructor
  ·rintro ((h | h) | h)
   ·exact .inl (.inl h)
   ·exact .inr h
   ·exact .inl (.inr h)
  ·rintro ((h | h) | h)
   ·exact .inl (.inl h)
   ·exact .inr h
   ·exact .inl (.inr h)
end
theorem Ze01 (a b:Int):ltI a b=decide (sgn a b = -1):=by
 show decide (a<b)=_
 unfold sgn
 by_cases h:a<b
 ·rw [if_pos h,decide_eq_true h];rfl
 ·rw [if_neg h,decide_eq_false h]
  split <;> rfl
theorem Zvj2 (l:List Int):Zkf sgn (dictI l) l:=⟨(Zyf l).1.imp fun {a b} h=>by unfold sgn;rw [if_pos h],(Zyf l).2⟩
theorem plcI (l:List Int):plc (dictI l) l=Zua l:=rfl
theorem Zwj2 {l d:List Int} {places:List Int} {i:Nat} (hi:i<l.length) (hil:i<1000000) (hd:d.length<1000000) {p q:List Int} (hpq:d=p++q) (hp:∀ y∈p,sgn y l[i] = -1) (hq:∀ z r,q=z :: r→¬ sgn z l[i] = -1) {o2:List Int→List Int→List Int→Int→Int→Option (List Int×List Int)}:
  ∀ (g j n:Nat),g=p.length-j→j≤p.length→g<n→Zl.l1 o2 n l d places (i:Int) (j:Int)=o2 l d places (i:Int) (p.length:Int):=by
 have hpl:d.length=p.length+q.length:=by rw [hpq,List.length_append]
 intro g
 induction g with
 | zero=>
  intro j n hg hj hn
  have:j=p.length:=by omega
  subst this
  obtain ⟨n,rfl⟩:∃ k,n=k+1:=⟨n-1,by omega⟩
  show Zl.S1 _ _ _ _ _ _ _=_
  unfold Zl.S1
  cases q with
  | nil=>
   rw [List.length_nil] at hpl
   rw [Zf,lt_f (by omega),cond_false]
  | cons z r=>
   rw [List.length_cons] at hpl
   have hz:d[p.length]'(by omega)=z:=by simp only [hpq,List.getElem_append_right (Nat.le_refl _),Nat.sub_self,List.getElem_cons_zero]
   rw [Zf,lt_t (by omega),cond_true,Zu (by omega),cond_true,Zu (by rw [Zf];omega),cond_true,Zy (show p.length<d.length by omega),hz,Zy hi,Ze01,decide_eq_false (hq z r rfl),cond_false]
 | succ g ih=>
  intro j n hg hj hn
  obtain ⟨n,rfl⟩:∃ k,n=k+1:=⟨n-1,by omega⟩
  have hjp:j<p.length:=by omega
  have hz:d[j]'(by omega)=p[j]:=by simp only [hpq,List.getElem_append_left hjp]
  show Zl.S1 o2 (Zl.l1 o2 n) _ _ _ _ _=_
  unfold Zl.S1
  rw [Zf,lt_t (by omega),cond_true,Zu (by omega),cond_true,Zu (by rw [Zf];omega),cond_true,Zy (show j<d.length by omega),hz,Zy hi,Ze01,decide_eq_true (hp _ (List.getElem_mem hjp)),cond_true,Zn (by omega)]
  exact ih (j+1) n (by omega) (by omega) (by omega)
theorem Zsz2 (l:List Int) (hl:l.length≤65536) {o4:List Int→List Int→List Int→Option (List Int×List Int)}:∀ (g i m:Nat) (d:List Int),g=l.length-i→i≤l.length→200000<m→Zkf sgn d (l.take i)→d.length≤i→
  ∃ D,Zl.l0 o4 (m+g) l d [] (i:Int)=o4 l D []∧Zkf sgn D l∧D.length≤l.length:=by
 intro g
 induction g with
 | zero=>
  intro i m d hg hi hm hd hdl
  have:i=l.length:=by omega
  subst this
  obtain ⟨m,rfl⟩:∃ k,m=k+1:=⟨m-1,by omega⟩
  rw [List.take_length] at hd
  refine ⟨d,?_,hd,hdl⟩
  show Zl.S0 _ _ _ _ _ _=_
  unfold Zl.S0
  rw [Zf,lt_f (by omega),cond_false]
 | succ g ih=>
  intro i m d hg hi hm hd hdl
  have hlt:i<l.length:=by omega
  obtain ⟨p,q,hpq,hp,hq⟩:=Zx6 sgn l[i] d
  have hpl:d.length=p.length+q.length:=by rw [hpq,List.length_append]
  have hfind:=Zwj2 (places:=[]) hlt (by omega) (by omega) hpq hp hq (o2:=Zl.t2 (Zl.l0 o4 (m+g)) (m+g)) p.length 0 (m+g) (by omega) (by omega) (by omega)
  have hi2:((i:Int)+1)=((i+1:Nat):Int):=rfl
  obtain ⟨e,he⟩:∃ e,m+g=e+2:=⟨m+g-2,by omega⟩
  show ∃ D,Zl.S0 o4 (Zl.l1 (Zl.t2 (Zl.l0 o4 (m+g)) (m+g)) (m+g)) l d [] (i:Int)=_∧_
  unfold Zl.S0
  rw [Zf,lt_t (by omega),cond_true,show (0:Int)=((0:Nat):Int) from rfl,hfind]
  have h2:Zl.t2 (Zl.l0 o4 (m+g)) (m+g)=Zl.S2 (Zl.l0 o4 (m+g)) (Zl.S3 (Zl.l0 o4 (m+g))):=by
   generalize Zl.l0 o4 (m+g)=z
   rw [he]
   rfl
  rw [h2]
  unfold Zl.S2
  have hins:(∀ z r,q=z :: r→¬ sgn z l[i] = -1∧z≠l[i])→∃ D,Zl.S3 (Zl.l0 o4 (m+g)) l d [] (i:Int) (p.length:Int)=o4 l D []∧Zkf sgn D l∧D.length≤l.length:=fun hne=>by
   unfold Zl.S3
   have htk:List.take (Int.toNat (p.length:Int)) d=p:=by rw [hpq];exact List.take_left
   have hdr:List.drop (Int.toNat (p.length:Int)) d=q:=by rw [hpq];exact List.drop_left
   rw [Zf,Zzb (by omega),cond_true,htk,hdr,Zna (by omega),cond_true,Zu (by rw [Zf];omega),cond_true,Zna (by omega),cond_true,Zzb (by omega),cond_true,Zy hlt,Zna (by rw [List.length_append,List.length_singleton];omega),cond_true,Zn (by omega),hi2]
   exact ih (i+1) m _ (by omega) (by omega) hm (by rw [take_one hlt];exact Zzg1 Zlc1 (hpq ▸ hd) hp hne) (by rw [List.length_append,List.length_append,List.length_singleton];omega)
  cases hqc:q with
  | nil=>
   rw [hqc,List.length_nil] at hpl
   rw [Zf,lt_f (by omega),cond_false]
   exact hins fun z r e=>by rw [hqc] at e;cases e
  | cons z r=>
   rw [hqc,List.length_cons] at hpl
   have hz:d[p.length]'(by omega)=z:=by simp only [hpq,hqc,List.getElem_append_right (Nat.le_refl _),Nat.sub_self,List.getElem_cons_zero]
   rw [Zf,lt_t (by omega),cond_true,Zu (by omega),cond_true,Zu (by rw [Zf];omega),cond_true,Zy (show p.length<d.length by omega),hz,Zy hlt]
   by_cases hzx:z=l[i]
   ·rw [eq_t hzx,cond_true,Zn (by omega),hi2]
    exact ih (i+1) m d (by omega) (by omega) hm (by rw [take_one hlt,hpq];exact Zud1 (hpq ▸ hd) (by rw [hqc,hzx];simp)) (by omega)
   ·rw [eq_f hzx,cond_false]
    exact hins fun z' r' e=>by
     rw [hqc] at e
     cases e
     exact ⟨hq z r hqc,hzx⟩
theorem Zf01 {l d:List Int} (hl:l.length≤65536) (hdl:d.length≤l.length) (hd:Zkf sgn d l) {i:Nat} (hi:i<l.length) {places:List Int} (hpl:places.length≤65536) {o5:List Int→List Int→List Int→Int→Option (List Int×List Int)}:
  ∀ (g j n:Nat),g=idx d l[i]-j→j≤idx d l[i]→g<n→Zl.l6 o5 n l d places (i:Int) (j:Int)=o5 l d (places++[(idx d l[i]:Int)]) ((i:Int)+1):=by
 have hk:=Zmp ((hd.2 _).2 (List.getElem_mem hi))
 have hg:=Zot hk
 intro g
 induction g with
 | zero=>
  intro j n hg' hj hn
  have:j=idx d l[i]:=by omega
  subst this
  obtain ⟨n,rfl⟩:∃ k,n=k+1:=⟨n-1,by omega⟩
  show Zl.S6 _ _ _ _ _ _ _=_
  unfold Zl.S6
  rw [Zf,Zu (by omega),cond_true,Zf,Zu (by omega),cond_true,Zy hk,hg,Zy hi,ne_f rfl,cond_false,Zna (by omega),cond_true,Zn (by omega)]
 | succ g ih=>
  intro j n hg' hj hn
  obtain ⟨n,rfl⟩:∃ k,n=k+1:=⟨n-1,by omega⟩
  have hjd:j<d.length:=by omega
  have hne:¬ d[j]=l[i]:=fun e=>by
   have:=hd.1.inj Zlc1 hjd hk (e.trans hg.symm)
   omega
  show Zl.S6 o5 (Zl.l6 o5 n) _ _ _ _ _=_
  unfold Zl.S6
  rw [Zf,Zu (by omega),cond_true,Zf,Zu (by omega),cond_true,Zy hjd,Zy hi,ne_t hne,cond_true,Zn (by omega)]
  exact ih (j+1) n (by omega) (by omega) (by omega)
theorem Zzu1 {l d:List Int} (hl:l.length≤65536) (hdl:d.length≤l.length) (hd:Zkf sgn d l):∀ (g i m:Nat),g=l.length-i→i≤l.length→200000<m→
  Zl.l5 (m+g) l d ((plc d l).take i) (i:Int)=some (d,plc d l):=by
 have hpl:=Zfg d l
 intro g
 induction g with
 | zero=>
  intro i m hg hi hm
  have:i=l.length:=by omega
  subst this
  obtain ⟨m,rfl⟩:∃ k,m=k+1:=⟨m-1,by omega⟩
  show Zl.S5 _ _ _ _ _=_
  unfold Zl.S5
  rw [Zf,lt_f (by omega),cond_false,List.take_of_length_le (by omega)]
 | succ g ih=>
  intro i m hg hi hm
  have hlt:i<l.length:=by omega
  have hk:=Zmp ((hd.2 _).2 (List.getElem_mem hlt))
  show Zl.S5 (Zl.l6 (Zl.l5 (m+g)) (m+g)) _ _ _ _=_
  unfold Zl.S5
  have:=Zf01 hl hdl hd hlt (places:=(plc d l).take i) (by rw [List.length_take];omega) (o5:=Zl.l5 (m+g)) (idx d l[i]) 0 (m+g) (by omega) (by omega) (by omega)
  rw [Zf,lt_t (by omega),cond_true,show (0:Int)=((0:Nat):Int) from rfl,this]
  have h2:=ih (i+1) m (by omega) (by omega) hm
  rw [take_one (by omega),Zec1 hlt] at h2
  exact h2
theorem Zwf1 (l:List Int) (hl:l.length≤65536):Zl l=some (dictI l,plc (dictI l) l):=by
 show Zl.S (Zl.l0 (Zl.t4 fu) fu) l=_
 unfold Zl.S
 obtain ⟨D,h1,h2,h3⟩:=Zsz2 l hl (o4:=Zl.t4 fu) l.length 0 (fu-l.length) [] (by omega) (by omega) (by unfold fu;omega) ⟨List.Pairwise.nil,fun x=>by simp⟩ (by simp)
 rw [show fu-l.length+l.length=fu by unfold fu;omega] at h1
 have hD:D=dictI l:=h2.uniq Zlc1 (Zvj2 l)
 subst hD
 refine Eq.trans h1 ?_
 show Zl.S4 (Zl.l5 18446744073709551615) _ _ _=_
 unfold Zl.S4
 have:=Zzu1 hl h3 h2 l.length 0 (18446744073709551615-l.length) (by omega) (by omega) (by omega)
 rw [show 18446744073709551615-l.length+l.length=18446744073709551615 by omega] at this
 exact this
theorem neS_f {a b:ByteArray} (h:a=b):(!(eqS a b))=false:=by rw [eqS_t h];rfl
theorem neS_t {a b:ByteArray} (h:¬ a=b):(!(eqS a b))=true:=by rw [eqS_f h];rfl
theorem Zxj2 {l d:List ByteArray} {places:List Int} {i:Nat} (hi:i<l.length) (hil:i<1000000) (hd:d.length<1000000) {p q:List ByteArray} (hpq:d=p++q) (hp:∀ y∈p,cmpS y l[i] = -1) (hq:∀ z r,q=z :: r→¬ cmpS z l[i] = -1) {o2:List ByteArray→List ByteArray→List Int→Int→Int→Option (List ByteArray×List Int)}:
  ∀ (g j n:Nat),g=p.length-j→j≤p.length→g<n→Zj.l1 o2 n l d places (i:Int) (j:Int)=o2 l d places (i:Int) (p.length:Int):=by
 have hpl:d.length=p.length+q.length:=by rw [hpq,List.length_append]
 intro g
 induction g with
 | zero=>
  intro j n hg hj hn
  have:j=p.length:=by omega
  subst this
  obtain ⟨n,rfl⟩:∃ k,n=k+1:=⟨n-1,by omega⟩
  show Zj.S1 _ _ _ _ _ _ _=_
  unfold Zj.S1
  cases q with
  | nil=>
   rw [List.length_nil] at hpl
   rw [Zf,lt_f (by omega),cond_false]
  | cons z r=>
   rw [List.length_cons] at hpl
   have hz:d[p.length]'(by omega)=z:=by simp only [hpq,List.getElem_append_right (Nat.le_refl _),Nat.sub_self,List.getElem_cons_zero]
   rw [Zf,lt_t (by omega),cond_true,Zu (by omega),cond_true,Zu (by rw [Zf];omega),cond_true,Zy (show p.length<d.length by omega),hz,Zy hi,ltS_d,decide_eq_false (hq z r rfl),cond_false]
 | succ g ih=>
  intro j n hg hj hn
  obtain ⟨n,rfl⟩:∃ k,n=k+1:=⟨n-1,by omega⟩
  have hjp:j<p.length:=by omega
  have hz:d[j]'(by omega)=p[j]:=by simp only [hpq,List.getElem_append_left hjp]
  show Zj.S1 o2 (Zj.l1 o2 n) _ _ _ _ _=_
  unfold Zj.S1
  rw [Zf,lt_t (by omega),cond_true,Zu (by omega),cond_true,Zu (by rw [Zf];omega),cond_true,Zy (show j<d.length by omega),hz,Zy hi,ltS_d,decide_eq_true (hp _ (List.getElem_mem hjp)),cond_true,Zn (by omega)]
  exact ih (j+1) n (by omega) (by omega) (by omega)
theorem Ztz2 (l:List ByteArray) (hl:l.length≤65536) {o4:List ByteArray→List ByteArray→List Int→Option (List ByteArray×List Int)}:∀ (g i m:Nat) (d:List ByteArray),g=l.length-i→i≤l.length→200000<m→Zkf cmpS d (l.take i)→d.length≤i→
  ∃ D,Zj.l0 o4 (m+g) l d [] (i:Int)=o4 l D []∧Zkf cmpS D l∧D.length≤l.length:=by
 intro g
 induction g with
 | zero=>
  intro i m d hg hi hm hd hdl
  have:i=l.length:=by omega
  subst this
  obtain ⟨m,rfl⟩:∃ k,m=k+1:=⟨m-1,by omega⟩
  rw [List.take_length] at hd
  refine ⟨d,?_,hd,hdl⟩
  show Zj.S0 _ _ _ _ _ _=_
  unfold Zj.S0
  rw [Zf,lt_f (by omega),cond_false]
 | succ g ih=>
  intro i m d hg hi hm hd hdl
  have hlt:i<l.length:=by omega
  obtain ⟨p,q,hpq,hp,hq⟩:=Zx6 cmpS l[i] d
  have hpl:d.length=p.length+q.length:=by rw [hpq,List.length_append]
  have hfind:=Zxj2 (places:=[]) hlt (by omega) (by omega) hpq hp hq (o2:=Zj.t2 (Zj.l0 o4 (m+g)) (m+g)) p.length 0 (m+g) (by omega) (by omega) (by omega)
  have hi2:((i:Int)+1)=((i+1:Nat):Int):=rfl
  obtain ⟨e,he⟩:∃ e,m+g=e+2:=⟨m+g-2,by omega⟩
  show ∃ D,Zj.S0 o4 (Zj.l1 (Zj.t2 (Zj.l0 o4 (m+g)) (m+g)) (m+g)) l d [] (i:Int)=_∧_
  unfold Zj.S0
  rw [Zf,lt_t (by omega),cond_true,show (0:Int)=((0:Nat):Int) from rfl,hfind]
  have h2:Zj.t2 (Zj.l0 o4 (m+g)) (m+g)=Zj.S2 (Zj.l0 o4 (m+g)) (Zj.S3 (Zj.l0 o4 (m+g))):=by
   generalize Zj.l0 o4 (m+g)=z
   rw [he]
   rfl
  rw [h2]
  unfold Zj.S2
  have hins:(∀ z r,q=z :: r→¬ cmpS z l[i] = -1∧z≠l[i])→∃ D,Zj.S3 (Zj.l0 o4 (m+g)) l d [] (i:Int) (p.length:Int)=o4 l D []∧Zkf cmpS D l∧D.length≤l.length:=fun hne=>by
   unfold Zj.S3
   have htk:List.take (Int.toNat (p.length:Int)) d=p:=by rw [hpq];exact List.take_left
   have hdr:List.drop (Int.toNat (p.length:Int)) d=q:=by rw [hpq];exact List.drop_left
   rw [Zf,Zzb (by omega),cond_true,htk,hdr,Zna (by omega),cond_true,Zu (by rw [Zf];omega),cond_true,Zna (by omega),cond_true,Zzb (by omega),cond_true,Zy hlt,Zna (by rw [List.length_append,List.length_singleton];omega),cond_true,Zn (by omega),hi2]
   exact ih (i+1) m _ (by omega) (by omega) hm (by rw [take_one hlt];exact Zzg1 Zmi (hpq ▸ hd) hp hne) (by rw [List.length_append,List.length_append,List.length_singleton];omega)
  cases hqc:q with
  | nil=>
   rw [hqc,List.length_nil] at hpl
   rw [Zf,lt_f (by omega),cond_false]
   exact hins fun z r e=>by rw [hqc] at e;cases e
  | cons z r=>
   rw [hqc,List.length_cons] at hpl
   have hz:d[p.length]'(by omega)=z:=by simp only [hpq,hqc,List.getElem_append_right (Nat.le_refl _),Nat.sub_self,List.getElem_cons_zero]
   rw [Zf,lt_t (by omega),cond_true,Zu (by omega),cond_true,Zu (by rw [Zf];omega),cond_true,Zy (show p.length<d.length by omega),hz,Zy hlt]
   by_cases hzx:z=l[i]
   ·rw [eqS_t hzx,cond_true,Zn (by omega),hi2]
    exact ih (i+1) m d (by omega) (by omega) hm (by rw [take_one hlt,hpq];exact Zud1 (hpq ▸ hd) (by rw [hqc,hzx];simp)) (by omega)
   ·rw [eqS_f hzx,cond_false]
    exact hins fun z' r' e=>by
     rw [hqc] at e
     cases e
     exact ⟨hq z r hqc,hzx⟩
theorem Zg01 {l d:List ByteArray} (hl:l.length≤65536) (hdl:d.length≤l.length) (hd:Zkf cmpS d l) {i:Nat} (hi:i<l.length) {places:List Int} (hpl:places.length≤65536) {o5:List ByteArray→List ByteArray→List Int→Int→Option (List ByteArray×List Int)}:
  ∀ (g j n:Nat),g=idx d l[i]-j→j≤idx d l[i]→g<n→Zj.l6 o5 n l d places (i:Int) (j:Int)=o5 l d (places++[(idx d l[i]:Int)]) ((i:Int)+1):=by
 have hk:=Zmp ((hd.2 _).2 (List.getElem_mem hi))
 have hg:=Zot hk
 intro g
 induction g with
 | zero=>
  intro j n hg' hj hn
  have:j=idx d l[i]:=by omega
  subst this
  obtain ⟨n,rfl⟩:∃ k,n=k+1:=⟨n-1,by omega⟩
  show Zj.S6 _ _ _ _ _ _ _=_
  unfold Zj.S6
  rw [Zf,Zu (by omega),cond_true,Zf,Zu (by omega),cond_true,Zy hk,hg,Zy hi,neS_f rfl,cond_false,Zna (by omega),cond_true,Zn (by omega)]
 | succ g ih=>
  intro j n hg' hj hn
  obtain ⟨n,rfl⟩:∃ k,n=k+1:=⟨n-1,by omega⟩
  have hjd:j<d.length:=by omega
  have hne:¬ d[j]=l[i]:=fun e=>by
   have:=hd.1.inj Zmi hjd hk (e.trans hg.symm)
   omega
  show Zj.S6 o5 (Zj.l6 o5 n) _ _ _ _ _=_
  unfold Zj.S6
  rw [Zf,Zu (by omega),cond_true,Zf,Zu (by omega),cond_true,Zy hjd,Zy hi,neS_t hne,cond_true,Zn (by omega)]
  exact ih (j+1) n (by omega) (by omega) (by omega)
theorem Zav1 {l d:List ByteArray} (hl:l.length≤65536) (hdl:d.length≤l.length) (hd:Zkf cmpS d l):∀ (g i m:Nat),g=l.length-i→i≤l.length→200000<m→
  Zj.l5 (m+g) l d ((plc d l).take i) (i:Int)=some (d,plc d l):=by
 have hpl:=Zfg d l
 intro g
 induction g with
 | zero=>
  intro i m hg hi hm
  have:i=l.length:=by omega
  subst this
  obtain ⟨m,rfl⟩:∃ k,m=k+1:=⟨m-1,by omega⟩
  show Zj.S5 _ _ _ _ _=_
  unfold Zj.S5
  rw [Zf,lt_f (by omega),cond_false,List.take_of_length_le (by omega)]
 | succ g ih=>
  intro i m hg hi hm
  have hlt:i<l.length:=by omega
  have hk:=Zmp ((hd.2 _).2 (List.getElem_mem hlt))
  show Zj.S5 (Zj.l6 (Zj.l5 (m+g)) (m+g)) _ _ _ _=_
  unfold Zj.S5
  have:=Zg01 hl hdl hd hlt (places:=(plc d l).take i) (by rw [List.length_take];omega) (o5:=Zj.l5 (m+g)) (idx d l[i]) 0 (m+g) (by omega) (by omega) (by omega)
  rw [Zf,lt_t (by omega),cond_true,show (0:Int)=((0:Nat):Int) from rfl,this]
  have h2:=ih (i+1) m (by omega) (by omega) hm
  rw [take_one (by omega),Zec1 hlt] at h2
  exact h2
theorem Zlt (l:List ByteArray) (hl:l.length≤65536):Zj l=some (dictT l,plc (dictT l) l):=by
 show Zj.S (Zj.l0 (Zj.t4 fu) fu) l=_
 unfold Zj.S
 obtain ⟨D,h1,h2,h3⟩:=Ztz2 l hl (o4:=Zj.t4 fu) l.length 0 (fu-l.length) [] (by omega) (by omega) (by unfold fu;omega) ⟨List.Pairwise.nil,fun x=>by simp⟩ (by simp)
 rw [show fu-l.length+l.length=fu by unfold fu;omega] at h1
 have hD:D=dictT l:=h2.uniq Zmi (Zfh l)
 subst hD
 refine Eq.trans h1 ?_
 show Zj.S4 (Zj.l5 18446744073709551615) _ _ _=_
 unfold Zj.S4
 have:=Zav1 hl h3 h2 l.length 0 (18446744073709551615-l.length) (by omega) (by omega) (by omega)
 rw [show 18446744073709551615-l.length+l.length=18446744073709551615 by omega] at this
 exact this
end Go.AM.Pure
end

section
/- The document's sum of bytes, its codes, and its blocks: the same bytes as the program's. -/
namespace Go.AM.Pure
open Go.AM
theorem xor64 {a b:Nat} (ha:a<4294967296) (hb:b<4294967296):xorI .i64 (a:Int) (b:Int)=((a ^^^ b:Nat):Int):=by
 have h:=Nat.xor_lt_two_pow (n:=32) ha hb
 unfold xorI
 have e:(BitVec.ofInt 64 (a:Int) ^^^ BitVec.ofInt 64 (b:Int)).toNat=a ^^^ b:=by
  rw [BitVec.toNat_xor,BitVec.ofInt_natCast,BitVec.ofInt_natCast,BitVec.toNat_ofNat,BitVec.toNat_ofNat,Nat.mod_eq_of_lt (by omega),Nat.mod_eq_of_lt (by omega)]
 show IntKind.wrap .i64 ((BitVec.ofInt 64 (a:Int) ^^^ BitVec.ofInt 64 (b:Int)).toNat:Int)=_
 rw [e]
 exact Zde (by omega)
theorem Zz3 (n:Int):IntKind.wrap .u32 n=n % 4294967296:=by
 unfold IntKind.wrap
 rfl
theorem xor32 {a b:Nat} (ha:a<4294967296) (hb:b<4294967296):xorI .u32 (a:Int) (b:Int)=((a ^^^ b:Nat):Int):=by
 have h:=Nat.xor_lt_two_pow (n:=32) ha hb
 unfold xorI
 have e:(BitVec.ofInt 32 (a:Int) ^^^ BitVec.ofInt 32 (b:Int)).toNat=a ^^^ b:=by
  rw [BitVec.toNat_xor,BitVec.ofInt_natCast,BitVec.ofInt_natCast,BitVec.toNat_ofNat,BitVec.toNat_ofNat,Nat.mod_eq_of_lt (by omega),Nat.mod_eq_of_lt (by omega)]
 show IntKind.wrap .u32 ((BitVec.ofInt 32 (a:Int) ^^^ BitVec.ofInt 32 (b:Int)).toNat:Int)=_
 rw [e,Zz3]
 omega
def stepN (n:Nat):Nat:=(n / 2) ^^^ (if n % 2=1 then 2197175160 else 0)
theorem Zrz2 (n:Nat) (_:n<4294967296):andI .u32 (n:Int) 1=((n % 2:Nat):Int):=by
 unfold andI
 have e:(BitVec.ofInt 32 (n:Int) &&& BitVec.ofInt 32 1).toNat=n % 4294967296 % 2:=by
  rw [BitVec.toNat_and,BitVec.ofInt_natCast,BitVec.toNat_ofNat,show (BitVec.ofInt 32 1).toNat=2 ^ 1-1 from rfl,Nat.and_two_pow_sub_one_eq_mod]
 show IntKind.wrap .u32 ((BitVec.ofInt 32 (n:Int) &&& BitVec.ofInt 32 1).toNat:Int)=_
 rw [e,Zz3]
 omega
theorem shr1 (k:IntKind) (hk:1≤k.bits) (n:Nat):shrI k (n:Int) 1=((n / 2:Nat):Int):=by
 unfold shrI
 rw [show min (Int.toNat 1) k.bits=1 from Nat.min_eq_left hk,show (2:Int) ^ 1=2 from rfl,show ((n / 2:Nat):Int)=(n:Int) / 2 from by omega,Int.fdiv_eq_ediv_of_nonneg _ (by omega)]
theorem Zvu1 {n:Nat} (h:n<4294967296):Zpt (n:Int)=(stepN n:Int):=by
 have hm:andI .u32 2197175160 (subI .u32 0 (andI .u32 (n:Int) 1))=((if n % 2=1 then 2197175160 else 0:Nat):Int):=by
  rw [Zrz2 n h]
  rcases Nat.mod_two_eq_zero_or_one n with h2 | h2
  ·rw [h2];decide +kernel
  ·rw [h2];decide +kernel
 unfold Zpt stepN
 rw [hm,shr1 _ (by decide)]
 exact xor32 (by omega) (by split <;> omega)
def stepR (n b:Nat):Nat:=if n % 2≠b % 2 then (n / 2) ^^^ 2197175160 else n / 2
theorem Zu6 {n b:Nat} (h:n<4294967296):stepR n b<4294967296:=by
 unfold stepR
 split
 ·exact Nat.xor_lt_two_pow (n:=32) (by omega) (by omega)
 ·omega
theorem Zb01 (n b:Nat):stepN (n ^^^ b)=stepR n b ^^^ (b / 2):=by
 unfold stepN stepR
 have h1:(n ^^^ b) / 2=(n / 2) ^^^ (b / 2):=Nat.xor_div_two
 have h2:(n ^^^ b) % 2=1↔n % 2≠b % 2:=by
  rw [Nat.xor_mod_two_eq_one]
  omega
 rw [h1]
 by_cases h:n % 2≠b % 2
 ·rw [if_pos (h2.2 h),if_pos h,Nat.xor_assoc,Nat.xor_assoc,Nat.xor_comm (b / 2)]
 ·rw [if_neg (fun e=>h (h2.1 e)),if_neg h,Nat.xor_zero]
def Zkp:Nat→Nat→Nat→Nat
 | 0,n,_=>n
 | k+1,n,b=>Zkp k (stepR n b) (b / 2)
theorem Zrd1:∀ (k:Nat) {n b:Nat},n<4294967296→Zkp k n b<4294967296
 | 0,_,_,h=>h
 | k+1,_,_,h=>Zrd1 k (Zu6 h)
theorem Zsd1:∀ (k n b:Nat),n<4294967296→b<2 ^ k→k≤8→crcN k ((n ^^^ b:Nat):Int)=(Zkp k n b:Int)
 | 0,n,b,_,hb,_=>by
  have:b=0:=by simpa using hb
  subst this
  rw [Nat.xor_zero];rfl
 | k+1,n,b,hn,hb,hk=>by
  have hb8:b<2 ^ 8:=Nat.lt_of_lt_of_le hb (Nat.pow_le_pow_right (by omega) hk)
  show crcN k (Zpt _)=(Zkp k (stepR n b) (b / 2):Int)
  rw [Zvu1 (Nat.xor_lt_two_pow (n:=32) hn (by omega)),Zb01]
  exact Zsd1 k _ _ (Zu6 hn) (by rw [Nat.pow_succ] at hb;omega) (by omega)
theorem Zt5 {o0:ByteArray→Int→Int→Option Int} {s:ByteArray} {i:Nat} (hi:i<s.size) (hil:i<100000000000) {b:Nat} (hb:byteAt s (i:Int)=(b:Int)) (hb8:b<256):∀ (d k m:Nat) (n:Nat),k+d=8→d<m→n<4294967296→
  Zlb.l1 o0 m s (n:Int) (i:Int) (k:Int)=o0 s (Zkp d n (b / 2 ^ k):Int) ((i:Int)+1)
 | 0,k,m,n,h,hm,_=>by
  obtain ⟨m,rfl⟩:∃ j,m=j+1:=⟨m-1,by omega⟩
  show Zlb.S1 _ _ _ _ _ _=_
  unfold Zlb.S1
  rw [lt_f (by omega),cond_false,Zn (by omega)]
  rfl
 | d+1,k,m,n,h,hm,hn=>by
  obtain ⟨m,rfl⟩:∃ j,m=j+1:=⟨m-1,by omega⟩
  show Zlb.S1 o0 (Zlb.l1 o0 m) _ _ _ _=_
  unfold Zlb.S1
  have hsh:shrI .i64 (b:Int) (k:Int)=((b / 2 ^ k:Nat):Int):=by
   rw [Zzk _ _ (by omega),Int.natCast_ediv,Int.natCast_pow];rfl
  have ih:=Zt5 (o0:=o0) hi hil hb hb8 d (k+1) m (stepR n (b / 2 ^ k)) (by omega) (by omega) (Zu6 hn)
  rw [show b / 2 ^ (k+1)=b / 2 ^ k / 2 by rw [Nat.pow_succ,Nat.div_div_eq_div_mul]] at ih
  rw [lt_t (by omega),cond_true,Zma,Zu (by omega),cond_true,le_t (by omega),cond_true,hb,Zde (by omega),hsh,and1,and1,Zn (by omega),shr1 _ (by decide)]
  show _=o0 s (Zkp d (stepR n (b / 2 ^ k)) (b / 2 ^ k / 2):Int) ((i:Int)+1)
  by_cases hne:n % 2≠b / 2 ^ k % 2
  ·rw [ne_t (by omega),cond_true,show (2197175160:Int)=((2197175160:Nat):Int) from rfl,xor64 (by omega) (by omega)]
   unfold stepR at ih ⊢
   rw [if_pos hne] at ih ⊢
   exact ih
  ·rw [ne_f (by omega),cond_false]
   unfold stepR at ih ⊢
   rw [if_neg hne] at ih ⊢
   exact ih
theorem Zc01 (n b:Nat) (hn:n<4294967296) (hb:b<256):Zqt (n:Int) (b:Int)=(Zkp 8 n b:Int):=by
 unfold Zqt
 rw [Zz3,show (b:Int) % 4294967296=(b:Int) by omega,xor32 hn (by omega)]
 exact Zsd1 8 n b hn hb (by omega)
theorem Zd01 (s:ByteArray) (i:Int):∃ c:Fin 256,byteAt s i=(c.val:Int):=
 ⟨⟨(s.data.toList.getD i.toNat 0).toNat,UInt8.toNat_lt _⟩,rfl⟩
theorem Zwu1 {s:ByteArray} {i:Nat} (h:i<s.size):(Zk s).drop i=byteAt s (i:Int) :: (Zk s).drop (i+1):=by
 have hb:=Zbf s i h
 have hl:i<(Zk s).length:=by rw [Zha];exact h
 rw [List.drop_eq_getElem_cons hl]
 rw [List.getElem?_eq_getElem hl] at hb
 injection hb with hb
 rw [hb]
theorem Zyo1 (s:ByteArray) (hs:s.size<10000000000):∀ (d i m:Nat) (n:Nat),d=s.size-i→i≤s.size→20<m→n<4294967296→
  ∃ r:Nat,r<4294967296∧((Zk s).drop i).foldl Zqt (n:Int)=(r:Int)∧Zlb.l0 (m+d) s (n:Int) (i:Int)=some (xorI .i64 (r:Int) 4294967295):=by
 intro d
 induction d with
 | zero=>
  intro i m n hd hi hm hn
  have:i=s.size:=by omega
  subst this
  obtain ⟨m,rfl⟩:∃ j,m=j+1:=⟨m-1,by omega⟩
  refine ⟨n,hn,by rw [List.drop_eq_nil_of_le (by rw [Zha];exact Nat.le_refl _)];rfl,?_⟩
  show Zlb.S0 _ _ _ _=_
  unfold Zlb.S0
  rw [Zma,lt_f (by omega),cond_false]
 | succ d ih=>
  intro i m n hd hi hm hn
  have hlt:i<s.size:=by omega
  obtain ⟨c,hc⟩:=Zd01 s (i:Int)
  have hin:=Zt5 (o0:=Zlb.l0 (m+d)) hlt (by omega) (b:=c.val) hc c.isLt 8 0 (m+d) n rfl (by omega) hn
  obtain ⟨r,h1,h2,h3⟩:=ih (i+1) m (Zkp 8 n c.val) (by omega) (by omega) hm (Zrd1 8 hn)
  refine ⟨r,h1,?_,?_⟩
  ·rw [Zwu1 hlt,List.foldl_cons,hc,Zc01 n c.val hn c.isLt]
   exact h2
  ·show Zlb.S0 (Zlb.l1 (Zlb.l0 (m+d)) (m+d)) _ _ _=_
   unfold Zlb.S0
   rw [Nat.pow_zero,Nat.div_one] at hin
   rw [Zma,lt_t (by omega),cond_true,show (0:Int)=((0:Nat):Int) from rfl,hin]
   exact h3
theorem Zyg1 (s:ByteArray) (hs:s.size<10000000000):Zvs s=some (crcOf 0 (Zk s))∧0≤crcOf 0 (Zk s)∧crcOf 0 (Zk s)<4294967296:=by
 obtain ⟨r,h1,h2,h3⟩:=Zyo1 s hs s.size 0 (fu-s.size) 4294967295 (by omega) (by omega) (by unfold fu;omega) (by omega)
 rw [show fu-s.size+s.size=fu by unfold fu;omega] at h3
 rw [List.drop_zero] at h2
 have hx:=Nat.xor_lt_two_pow (n:=32) h1 (show 4294967295<2 ^ 32 by omega)
 have hc:crcOf 0 (Zk s)=((r ^^^ 4294967295:Nat):Int):=by
  unfold crcOf
  rw [show xorI .u32 4294967295 (IntKind.wrap .u32 0)=((4294967295:Nat):Int) by decide +kernel,h2,show (4294967295:Int)=((4294967295:Nat):Int) from rfl,xor32 (by omega) h1,Nat.xor_comm]
  exact Zde (by omega)
 refine ⟨?_,by rw [hc];omega,by rw [hc];omega⟩
 unfold Zvs
 have hm:Zlb 0 s=some (xorI .i64 (r:Int) 4294967295):=by
  show Zlb.S (Zlb.l0 fu) 0 s=_
  unfold Zlb.S
  rw [show xorI .i64 (andI .i64 0 4294967295) 4294967295=((4294967295:Nat):Int) by decide +kernel]
  exact h3
 rw [hm,show (4294967295:Int)=((4294967295:Nat):Int) from rfl,xor64 h1 (by omega),hc]
 rfl
theorem Zmq (s:ByteArray) (hs:s.size<10000000000):Zul s=some (ofBytes (sealB (Zk s))):=by
 obtain ⟨h1,h2,h3⟩:=Zyg1 s hs
 unfold Zul
 rw [h1,Option.bind_some]
 have hb:∀ k:Nat,k≤32→IntKind.wrap .u8 (andI .i64 (shrI .i64 (crcOf 0 (Zk s)) (k:Int)) 255)=IntKind.wrap .u8 (shrI .u32 (IntKind.wrap .u32 (crcOf 0 (Zk s))) (k:Int)):=fun k hk=>by
  have e2:shrI .u32 (crcOf 0 (Zk s)) (k:Int)=crcOf 0 (Zk s) / 2 ^ k:=by
   unfold shrI
   rw [show min (Int.toNat (k:Int)) IntKind.u32.bits=k from Nat.min_eq_left hk,Int.fdiv_eq_ediv_of_nonneg _ (Int.le_of_lt (Zld k))]
  rw [Zz3,Int.emod_eq_of_lt h2 h3,Zzk _ _ (by omega),Zh01,e2,Zth,Zth]
  omega
 have h0:=hb 0 (by omega)
 rw [show shrI .i64 (crcOf 0 (Zk s)) ((0:Nat):Int)=crcOf 0 (Zk s) by rw [Zzk _ _ (by omega),Int.pow_zero,Int.ediv_one]] at h0
 have h8:=hb 8 (by omega)
 have h16:=hb 16 (by omega)
 have h24:=hb 24 (by omega)
 simp only [show ((8:Nat):Int)=8 from rfl,show ((16:Nat):Int)=16 from rfl,show ((24:Nat):Int)=24 from rfl,show ((0:Nat):Int)=0 from rfl] at h0 h8 h16 h24
 rw [h0,h8,h16,h24]
 show (bif roomS s (ofBytes (sumB (Zk s))) then some (addS s (ofBytes (sumB (Zk s)))) else none)=_
 have r1:roomS s (ofBytes (sumB (Zk s)))=true:=decide_eq_true (by rw [Zv];show s.size+4≤_;omega)
 rw [r1,cond_true]
 congr 1
 conv=>lhs;rw [← Zrd s,Zme]
 rw [Zrd]
 rfl
theorem Zxu1 (p:List Int) (hp:p.length≤65536) (d:List Int) (hd:d.length≤65536) (h64:∀ x∈d,in64 x) (a:List Int) (ha:a.length≤10):∀ (g i n:Nat),g=d.length-i→i≤d.length→g<n→
  Zwa.l0 (Zwa.t1 fu) n d p (ofBytes (a++intsB (d.take i))) (i:Int)=some (ofBytes (a++(intsB d++packB p (widN p))),0):=by
 intro g
 induction g with
 | zero=>
  intro i n hg hi hn
  have:i=d.length:=by omega
  subst this
  obtain ⟨n,rfl⟩:∃ k,n=k+1:=⟨n-1,by omega⟩
  show Zwa.S0 Zwa.S1 _ _ _ _ _=_
  unfold Zwa.S0
  rw [Zf,lt_f (by omega),cond_false,List.take_length]
  unfold Zwa.S1
  have k1:=Zpj d
  obtain ⟨_,w2,_⟩:=Zte p hp
  have hb:p.length*widN p≤65536*64:=Nat.mul_le_mul hp w2
  have hpl:=Zpe p (widN p)
  have r1:roomS (ofBytes (a++intsB d)) (ofBytes (packB p (widN p)))=true:=decide_eq_true (by rw [Zv,Zv,List.length_append];omega)
  rw [Zos p hp,Option.bind_some,r1,cond_true,Zme,List.append_assoc]
 | succ g ih=>
  intro i n hg hi hn
  obtain ⟨n,rfl⟩:∃ k,n=k+1:=⟨n-1,by omega⟩
  have hlt:i<d.length:=by omega
  have k1:=Zpj (d.take i)
  rw [List.length_take] at k1
  have k2:=Zbe d[i]
  have r1:roomS (ofBytes (a++intsB (d.take i))) (ofBytes (vB d[i]))=true:=decide_eq_true (by rw [Zv,Zv,List.length_append];omega)
  have hih:=ih (i+1) n (by omega) (by omega) (by omega)
  rw [take_one hlt,Zsq,← List.append_assoc] at hih
  show Zwa.S0 _ (Zwa.l0 (Zwa.t1 fu) n) _ _ _ _=_
  unfold Zwa.S0
  rw [Zf,lt_t (by omega),cond_true,Zu (by omega),cond_true,Zy hlt,Zsf (h64 _ (List.getElem_mem hlt)),Option.bind_some,Zwe,r1,cond_true,Zme,Zn (by omega)]
  exact hih
theorem Zfn (l:List Int) (hl:l.length≤65536) (h64:∀ x∈l,in64 x):Zwa l=some (ofBytes (dictB l (widN (Zua l))),0):=by
 show Zwa.S (Zwa.l0 (Zwa.t1 fu) fu) l=_
 unfold Zwa.S dictB
 rw [Zf,lt_f (by omega),cond_false]
 by_cases h0:l.length=0
 ·rw [eq_t (by omega),cond_true,if_pos h0]
  rfl
 ·have hdl:=Zvi l
  have hpl:=Zgh l
  rw [eq_f (by omega),cond_false,if_neg h0,Zwf1 l hl,plcI,Option.bind_some]
  dsimp only
  rw [Zf,Zsf (by unfold in64;omega),Option.bind_some,Zwe]
  have:=Zxu1 (Zua l) (by omega) (dictI l) (by omega) (fun x hx=>h64 x (((Zyf l).2 x).1 hx)) (vB ((dictI l).length:Int)) (Zbe _).2 (dictI l).length 0 fu (by omega) (by omega) (by unfold fu;omega)
  rw [List.take_zero,show intsB []=[] from rfl,List.append_nil] at this
  exact this
theorem Zbm (l:List ByteArray) (hl:l.length≤65536) (hsh:Short l):Zoj l=some (ofBytes (Zkj l (widN (Zca l))),0):=by
 unfold Zoj Zkj
 rw [Zf,lt_f (by omega),cond_false]
 by_cases h0:l.length=0
 ·rw [eq_t (by omega),cond_true,if_pos h0]
  rfl
 ·have hdl:=Zvg l
  have hpl:(Zca l).length=l.length:=Zfg _ _
  obtain ⟨_,w2,_⟩:=Zte (Zca l) (by omega)
  have hb:(Zca l).length*widN (Zca l)≤65536*64:=Nat.mul_le_mul (by omega) w2
  have hpb:=Zpe (Zca l) (widN (Zca l))
  have k1:=Zbe ((dictT l).length:Int)
  have k2:=Zif _ hsh.dict
  rw [eq_f (by omega),cond_false,if_neg h0,Zlt l hl,Option.bind_some]
  dsimp only
  rw [Zcm _ (by omega) hsh.dict,Option.bind_some]
  dsimp only
  have r1:roomS (ofBytes (vB ((dictT l).length:Int))) (ofBytes (Zla (dictT l)))=true:=decide_eq_true (by rw [Zv,Zv];omega)
  have r2:roomS (ofBytes (vB ((dictT l).length:Int)++Zla (dictT l))) (ofBytes (packB (Zca l) (widN (Zca l))))=true:=decide_eq_true (by rw [Zv,Zv,List.length_append];omega)
  rw [ne_f rfl,cond_false,Zf,Zsf (by unfold in64;omega),Option.bind_some,Zwe,r1,cond_true,Zos (Zca l) (by omega),Option.bind_some,Zme,r2,cond_true,Zme,List.append_assoc]
theorem Zv6 (l:List Int) (hl:l.length≤65536) (h64:∀ x∈l,in64 x) (code:Int):Zcn l code=some (match numB l code with | some b=>(ofBytes b,true) | none=>(eB,false)):=by
 unfold Zcn numB
 by_cases h1:code=1
 ·rw [eq_t h1,cond_true,if_pos h1,Zy6 l hl]
  rfl
 ·rw [eq_f h1,cond_false,if_neg h1]
  by_cases h2:code=2
  ·obtain ⟨_,k2,k3⟩:=Zik l hl
   rw [eq_t h2,cond_true,if_pos h2,Zu5 l hl,Option.bind_some,Zmy _ k3 (by rw [k2];exact hl) (fun r hr=>h64 _ (by rw [← k2];exact Zlr k3 r hr))]
   rfl
  ·rw [eq_f h2,cond_false,if_neg h2]
   by_cases h3:code=3
   ·rw [eq_t h3,cond_true,if_pos h3,Zny l hl h64]
    rfl
   ·rw [eq_f h3,cond_false,if_neg h3]
    by_cases h4:code=4
    ·rw [eq_t h4,cond_true,if_pos h4,Zfn l hl h64]
     rfl
    ·rw [eq_f h4,cond_false,if_neg h4]
     by_cases h5:code=5
     ·obtain ⟨_,k2,_⟩:=Zte l hl
      have hb:l.length*widN l≤65536*64:=Nat.mul_le_mul hl k2
      have hpl:=Zpe l (widN l)
      have r1:roomS (ofBytes [(widN l:Int)]) (ofBytes (packB l (widN l)))=true:=decide_eq_true (by rw [Zv,Zv];simp;omega)
      rw [eq_t h5,cond_true,if_pos h5,Zjj l hl,Option.bind_some,Zrk l k2 hl (Nat.le_refl _),Option.bind_some,Zb4 k2]
      dsimp only
      rw [r1,cond_true,Zme]
      rfl
     ·rw [eq_f h5,cond_false,if_neg h5]
theorem Zzb1 (l:List ByteArray) (hl:l.length≤65536) (hsh:Short l) (code:Int):Zfp l code=some (match wordB l code with | some b=>(ofBytes b,true) | none=>(eB,false)):=by
 have hpl:(Zca l).length=l.length:=Zfg _ _
 unfold Zfp wordB
 by_cases h1:code=1
 ·rw [eq_t h1,cond_true,if_pos h1,Zcm l hl hsh]
  rfl
 ·rw [eq_f h1,cond_false,if_neg h1]
  by_cases h2:code=2
  ·rw [eq_t h2,cond_true,if_neg (show ¬ code=4 by omega),if_pos h2,Zf]
   unfold runTB
   by_cases h0:l.length=0
   ·rw [lt_f (by omega),cond_false,if_pos h0]
    rfl
   ·obtain ⟨r1,r2,r3⟩:=Zik (Zca l) (by omega)
    have hdl:=Zvg l
    have hsp:=Zfh l
    have k1:=Zbe ((dictT l).length:Int)
    have k2:=Zif _ hsh.dict
    have k3:=Zdj (runO (Zca l))
    have k4:=Zbg _ _ _ r3
    rw [r2] at k4
    have hrp:=Zmy (runO (Zca l)) r3 (by rw [r2];omega) (fun r hr=>by
     have hm:r.1∈Zca l:=r2 ▸ Zlr r3 r hr
     have:=Zlj hsp r.1 hm
     unfold in64;omega)
    have q1:roomS (ofBytes (vB ((dictT l).length:Int))) (ofBytes (Zla (dictT l)))=true:=decide_eq_true (by rw [Zv,Zv];omega)
    have q2:roomS (ofBytes (vB ((dictT l).length:Int)++Zla (dictT l))) (ofBytes (runB (runO (Zca l))))=true:=decide_eq_true (by rw [Zv,Zv,List.length_append];omega)
    rw [lt_t (by omega),cond_true,if_neg h0,Zlt l hl,Option.bind_some]
    dsimp only
    rw [Zcm _ (by omega) hsh.dict,Option.bind_some,Zu5 (Zca l) (by omega),Option.bind_some,hrp,Option.bind_some,Zf,Zsf (by unfold in64;omega),Option.bind_some,Zwe]
    dsimp only
    rw [q1,cond_true,Zme,q2,cond_true,Zme,List.append_assoc]
  ·rw [eq_f h2,cond_false]
   by_cases h4:code=4
   ·rw [eq_t h4,cond_true,if_pos h4,Zbm l hl hsh]
    rfl
   ·rw [eq_f h4,cond_false,if_neg h4,if_neg h2]
theorem Zns {l:List Cell} {kind:Int} (h:MayB l kind) (h64:∀ c∈l,in64 c.2.1) (code:Int):Zho (restC l) kind code=some (match valB (restC l) kind code with | some b=>(ofBytes b,true) | none=>(eB,false)):=by
 have hle:=Zag l
 have h2:=h.2.1
 unfold Zho valB
 by_cases hk:kind=1
 ·rw [eq_t hk,cond_true,if_pos hk,Zxf1 _ (by omega),Option.bind_some,Zv6 _ (by rw [List.length_map];omega) (fun x hx=>by
   obtain ⟨c,hc,rfl⟩:=List.mem_map.1 hx
   unfold restC at hc
   exact h64 c (List.mem_filter.1 hc).1)]
  rfl
 ·rw [eq_f hk,cond_false,if_neg hk,Zbc1 _ (by omega),Option.bind_some,Zzb1 _ (by rw [List.length_map];omega) (Zlp h)]
  rfl
theorem Zyu1 (l:List Cell) (hl:l.length≤64) (kind:Int):∀ (d i n:Nat),d=l.length-i→i≤l.length→d<n→
  ∃ b,Zpc.l1 n l kind (i:Int)=some b∧(b=true↔∀ j (h:j<l.length),i≤j→Zie l[j]=true∧(l[j].1=0∨l[j].1=kind)):=by
 intro d
 induction d with
 | zero=>
  intro i n hd hi hn
  obtain ⟨n,rfl⟩:∃ k,n=k+1:=⟨n-1,by omega⟩
  refine ⟨true,?_,⟨fun _ j h hj=>absurd h (by omega),fun _=>rfl⟩⟩
  show Zpc.S1 _ _ _ _=_
  unfold Zpc.S1
  rw [Zf,lt_f (by omega),cond_false]
 | succ d ih=>
  intro i n hd hi hn
  obtain ⟨n,rfl⟩:∃ k,n=k+1:=⟨n-1,by omega⟩
  have hlt:i<l.length:=by omega
  obtain ⟨b,h1,h2⟩:=ih (i+1) n (by omega) (by omega) (by omega)
  show ∃ b,Zpc.S1 (Zpc.l1 n) _ _ _=_∧_
  unfold Zpc.S1
  rw [Zf,lt_t (by omega),cond_true,Zu (by omega),cond_true,Zy hlt,cond_true,cond_true,Zn (by omega)]
  have hstep:(Zie l[i]=true∧(l[i].1=0∨l[i].1=kind))→∃ b,Zpc.l1 n l kind ((i:Int)+1)=some b∧(b=true↔∀ j (h:j<l.length),i≤j→Zie l[j]=true∧(l[j].1=0∨l[j].1=kind)):=fun hg=>
   ⟨b,h1,h2.trans ⟨fun h j hj hij=>by
    by_cases e:i=j
    ·subst e;exact hg
    ·exact h j hj (by omega),fun h j hj hij=>h j hj (by omega)⟩⟩
  have hbad:¬ (Zie l[i]=true∧(l[i].1=0∨l[i].1=kind))→∃ b,some false=some b∧(b=true↔∀ j (h:j<l.length),i≤j→Zie l[j]=true∧(l[j].1=0∨l[j].1=kind)):=fun hg=>
   ⟨false,rfl,⟨fun h=>(by cases h),fun h=>absurd (h i hlt (Nat.le_refl _)) hg⟩⟩
  by_cases hm:Zie l[i]=true
  ·rw [hm,Bool.not_true,cond_false]
   by_cases h0:l[i].1=0
   ·rw [ne_f h0,cond_false]
    exact hstep ⟨hm, .inl h0⟩
   ·rw [ne_t h0,cond_true]
    by_cases hk:l[i].1=kind
    ·rw [ne_f hk,cond_false]
     exact hstep ⟨hm, .inr hk⟩
    ·rw [ne_t hk,cond_true]
     exact hbad fun h=>h.2.elim h0 hk
  ·rw [Bool.not_eq_true] at hm
   rw [hm,Bool.not_false,cond_true]
   exact hbad fun h=>by rw [hm] at h;exact absurd h.1 (by decide)
theorem Zjr (l:List Cell) (kind:Int):∃ b,Zpc l kind=some b∧(b=true↔MayB l kind):=by
 show ∃ b,Zpc.S (Zpc.t0 fu) l kind=some b∧_
 unfold Zpc.S
 rw [Zf]
 by_cases h1:1≤l.length
 ·by_cases h2:l.length≤64
  ·rw [lt_f (by omega),cond_false,lt_f (by omega),cond_false]
   obtain ⟨b,k1,k2⟩:=Zyu1 l h2 kind l.length 0 18446744073709551615 (by omega) (by omega) (by omega)
   have ht:Zpc.t0 fu l kind=some b:=k1
   have hb:(kind=1∨kind=2)→(b=true↔MayB l kind):=fun hk=>k2.trans
    ⟨fun h=>⟨h1,h2,hk,fun c hc=>by
     obtain ⟨j,hj,rfl⟩:=List.mem_iff_getElem.1 hc
     exact h j hj (Nat.zero_le _)⟩,fun h j hj _=>h.2.2.2 _ (List.getElem_mem hj)⟩
   by_cases k1:kind=1
   ·rw [ne_f k1,cond_false]
    exact ⟨b,ht,hb (.inl k1)⟩
   ·rw [ne_t k1,cond_true]
    by_cases k2:kind=2
    ·rw [ne_f k2,cond_false]
     exact ⟨b,ht,hb (.inr k2)⟩
    ·rw [ne_t k2,cond_true]
     exact ⟨false,rfl,⟨fun h=>(by cases h),fun h=>absurd h.2.2.1 (by omega)⟩⟩
  ·rw [lt_f (by omega),cond_false,lt_t (by omega),cond_true]
   exact ⟨false,rfl,⟨fun h=>(by cases h),fun h=>absurd h.2.1 h2⟩⟩
 ·rw [lt_t (by omega),cond_true]
  exact ⟨false,rfl,⟨fun h=>(by cases h),fun h=>absurd h.1 h1⟩⟩
theorem Zw6 {l:List Cell} {kind code:Int} (h:MayB l kind) (h64:∀ c∈l,in64 c.2.1) {b:List Int} (hb:valB (restC l) kind code=some b):Zyg l kind code=some (ofBytes (sealB (blkT l kind code b)),0):=by
 obtain ⟨v1,v2⟩:=Zqw h hb
 have hc:=Zps hb
 obtain ⟨m,m1,m2⟩:=Zjr l kind
 rw [m2.2 h] at m1
 obtain ⟨h1,h2,h3,_⟩:=id h
 have hkr:0≤kind∧kind<256:=by rcases h3 with rfl | rfl <;> omega
 have hml:=Zmn l
 unfold Zyg
 rw [m1,Option.bind_some,Bool.not_true,cond_false,Znt l (by omega),Option.bind_some]
 dsimp only
 rw [Zns h h64,hb,Option.bind_some]
 dsimp only
 have w8:∀ x:Int,0≤x∧x<256→IntKind.wrap .u8 x=x:=fun x hx=>by rw [Zth];omega
 rw [Bool.not_true,cond_false,Zf,Zma,Zv,w8 kind hkr,w8 code (by omega),w8 _ (by omega),w8 _ (by omega)]
 have r1:roomS (ofBytes [kind,code,(l.length:Int),((maskL l).length:Int)]) (ofBytes (maskL l))=true:=decide_eq_true (by rw [Zv,Zv];simp;omega)
 rw [r1,cond_true,Zme]
 have r2:roomS (ofBytes ([kind,code,(l.length:Int),((maskL l).length:Int)]++maskL l)) (ofBytes b)=true:=decide_eq_true (by rw [Zv,Zv];simp;omega)
 rw [r2,cond_true,Zme,List.append_assoc]
 show (Zul (ofBytes (blkT l kind code b))).bind _=_
 rw [Zmq _ (by rw [Zv];unfold blkT;simp;omega),Option.bind_some,Zwc (Zsw h2 hkr (by omega) v1)]
theorem Ztd1 {l:List Cell} {kind code:Int} (h:MayB l kind) (h64:∀ c∈l,in64 c.2.1) (hb:valB (restC l) kind code=none):Zyg l kind code=some (eB,1):=by
 obtain ⟨m,m1,m2⟩:=Zjr l kind
 rw [m2.2 h] at m1
 have h2:=h.2.1
 unfold Zyg
 rw [m1,Option.bind_some,Bool.not_true,cond_false,Znt l (by omega),Option.bind_some]
 dsimp only
 rw [Zns h h64,hb,Option.bind_some]
 rfl
theorem Zbq1 {l:List Cell} {kind code:Int} (h:¬ MayB l kind):Zyg l kind code=some (eB,1):=by
 obtain ⟨m,m1,m2⟩:=Zjr l kind
 have:m=false:=by
  cases m with
  | false=>rfl
  | true=>exact absurd (m2.1 rfl) h
 unfold Zyg
 rw [m1,this]
 rfl
end Go.AM.Pure
end

section
/- BlockPuts and BlockBest. -/
namespace Go.AM.Pure
open Go.AM
end Go.AM.Pure
end
