import Derived.Test.YtclpadlpcfnfmaaGreatAmP13
section
/- What a dictionary is: the distinct values, rising, and of each value its place; of texts by dict.Of. -/
namespace Go.AM.Pure
open Go.AM
section
variable {α : Type} {c : α → α → Int}
def MG (c:α→α→Int) (d:List α):Prop:=d.Pairwise fun a b=>c a b = -1
def GL (c:α→α→Int) (d l:List α):Prop:=MG c d∧∀ x,x∈d↔x∈l
theorem MG.at {d:List α} (h:MG c d) {i j:Nat} (Lg:i<j) (hj:j<d.length):c (d[i]'(by omega)) d[j] = -1:=List.pairwise_iff_getElem.1 h i j (by omega) hj Lg
theorem Ord3.self (o:Ord3 c) (a:α):c a a=0:=(o.eq0 a a).2 rfl
theorem Ord3.asym (o:Ord3 c) {a b:α} (h:c a b = -1):¬ c b a = -1:=by rw [o.neg,h];decide
theorem rX (o:Ord3 c):∀ {d e:List α},MG c d→MG c e→(∀ x,x∈d↔x∈e)→d=e
 | [],[],_,_,_=>rfl
 | [],b :: e,_,_,h=>absurd ((h b).2 (Av ..)) (by simp)
 | a :: d,[],_,_,h=>absurd ((h a).1 (Av ..)) (by simp)
 | a :: d,b :: e,h1,h2,h=>by
  obtain ⟨p1,p2⟩:=List.pairwise_cons.1 h1
  obtain ⟨q1,q2⟩:=List.pairwise_cons.1 h2
  have LZ:a=b:=by
   rcases List.mem_cons.1 ((h a).1 (Av ..)) with x | x
   ·exact x
   ·rcases List.mem_cons.1 ((h b).2 (Av ..)) with y | y
    ·exact y.symm
    ·exact absurd (q1 a x) (o.asym (p1 b y))
  subst LZ
  have:d=e:=rX o p2 q2 fun x=>by
   constructor
   ·intro hx
    rcases List.mem_cons.1 ((h x).1 (Az _ hx)) with y | y
    ·have:=p1 x hx
     rw [y,o.self] at this
     exact absurd this (by decide)
    ·exact y
   ·intro hx
    rcases List.mem_cons.1 ((h x).2 (Az _ hx)) with y | y
    ·have:=q1 x hx
     rw [y,o.self] at this
     exact absurd this (by decide)
    ·exact y
  rw [this]
theorem GL.uniq (o:Ord3 c) {d e l:List α} (h:GL c d l) (k:GL c e l):d=e:=rX o h.1 k.1 fun x=>(h.2 x).trans (k.2 x).symm
theorem GL.pos {d l:List α} (h:GL c d l) (h0:0<l.length):0<d.length:=List.length_pos_of_mem ((h.2 _).2 (Aq h0))
variable [DecidableEq α]
def idx (d:List α) (v:α):Nat:=d.idxOf v
theorem Qp {d:List α} {v:α} (h:v∈d):idx d v<d.length:=List.idxOf_lt_length_iff.2 h
theorem Vs {d:List α} {v:α} (h:idx d v<d.length):d[idx d v]=v:=List.getElem_idxOf h
def Ik (d l:List α):List Int:=l.map fun v=>(idx d v:Int)
theorem J1 (d l:List α):(Ik d l).length=l.length:=by unfold Ik;rw [Ai]
theorem Qa {d l:List α} (h:GL c d l):∀ x∈Ik d l,0≤x∧x<(d.length:Int):=fun x hx=>by
 unfold Ik at hx
 obtain ⟨v,hv,rfl⟩:=List.mem_map.1 hx
 have:=Qp ((h.2 v).2 hv)
 omega
omit [DecidableEq α] in
theorem MG.inj (o:Ord3 c) {d:List α} (h:MG c d) {i j:Nat} (hi:i<d.length) (hj:j<d.length) (he:d[i]=d[j]):i=j:=by
 rcases Nat.lt_trichotomy i j with k | k | k
 ·have:=h.at k hj;rw [he,o.self] at this;exact absurd this (by decide)
 ·exact k
 ·have:=h.at k hi;rw [he,o.self] at this;exact absurd this (by decide)
theorem uc (o:Ord3 c) {d l:List α} (h:GL c d l) {k:Nat} (hk:k<d.length):(k:Int)∈Ik d l:=by
 have h1:=Qp (Aq hk)
 refine List.mem_map.2 ⟨_,(h.2 _).1 (Aq hk),?_⟩
 have h2:=Vs h1
 rw [h.1.inj o h1 hk h2]
theorem Ypq (o:Ord3 c) {d l:List α} (h:GL c d l) (h0:0<l.length) {v:Nat} (hw:Wd [(d.length:Int)-1] v) (hl:d.length≤65536):Wd (Ik d l) v:=by
 have cz:=h.pos h0
 obtain ⟨h1,h2⟩:=hw
 have h1:=h1 _ (List.mem_singleton.2 rfl)
 constructor
 ·intro x hx
  have:=Qa h x hx
  omega
 ·rcases h2 with h2 | ⟨x,hx,h2⟩
  ·exact .inl h2
  ·have hx:=List.mem_singleton.1 hx
   subst hx
   right
   have:=uc o h (k:=d.length-1) (by omega)
   refine ⟨_,this,?_⟩
   rw [show ((d.length-1:Nat):Int)=(d.length:Int)-1 by omega]
   exact h2
theorem fb {d l:List α} (h:GL c d l) (z:α):(Ik d l).map (fun x=>d.getD x.toNat z)=l:=by
 unfold Ik
 rw [List.map_map]
 conv=>rhs;rw [← List.map_id l]
 apply List.map_congr_left
 intro v hv
 have hk:=Qp ((h.2 v).2 hv)
 show d.getD (((idx d v:Nat):Int)).toNat z=v
 rw [show (((idx d v:Nat):Int)).toNat=idx d v from rfl,Ax,Ap hk]
 exact Vs hk
theorem fW {d l:List α} {i:Nat} (h:i<l.length):(Ik d l)[i]'(by rw [J1];exact h)=(idx d l[i]:Int):=by
 have h2:(Ik d l)[i]? = some (idx d l[i]:Int):=by
  unfold Ik
  rw [List.getElem?_map,Ap h,Option.map_some]
 rw [Ap (by rw [J1];exact h)] at h2
 exact Option.some.inj h2
end
theorem Zsd:∀ a b:List UInt8,a<b↔Lib.compareBytes a b = -1
 | [],[]=>by simp [Lib.compareBytes]
 | [],_ :: _=>by simp [Lib.compareBytes]
 | _ :: _,[]=>by simp [Lib.compareBytes]
 | a :: x,b :: y=>by
  rw [List.cons_lt_cons_iff,Zsd x y,show Lib.compareBytes (a :: x) (b :: y)=if a<b then -1 else if b<a then 1 else Lib.compareBytes x y from rfl]
  by_cases h:a<b
  ·simp [h]
  ·by_cases k:b<a
   ·have:¬ a=b:=by rintro rfl;exact absurd k (UInt8.lt_irrefl _)
    simp [h,k,this]
   ·have:a=b:=UInt8.le_antisymm (UInt8.not_lt.1 k) (UInt8.not_lt.1 h)
    subst this
    simp only [h,if_neg,not_false_eq_true,false_or,true_and]
theorem aU (a b:List UInt8):a≤b↔¬ Lib.compareBytes a b=1:=by
 rw [show (a≤b) = ¬ (b<a) from rfl,Zsd,VE a b]
 rcases NP a b with h | h | h <;> rw [h] <;> decide
abbrev tb (s:ByteArray):List UInt8:=s.data.toList
theorem qp (s:ByteArray):Me (tb s)=s:=by cases s;rfl
abbrev Pf (l:List ByteArray):List (List UInt8):=(l.map tb).mergeSort fun x y=>decide (x≤y)
def BN (l:List ByteArray):List ByteArray:=(Lib.compact (Pf l)).map Me
theorem OD (l:List ByteArray):GL GZ (BN l) l:=by
 have hs:=List.pairwise_mergeSort (le:=fun x y:List UInt8=>decide (x≤y)) (fun a b d h1 h2=>by
  simp only [decide_eq_true_eq] at *
  rw [aU] at *
  intro h
  rcases NP a b with k | k | k
  ·rcases NP b d with m | m | m
   ·rw [aR a b d k m] at h;exact absurd h (by decide)
   ·rw [← (O4 b d).1 m,k] at h;exact absurd h (by decide)
   ·exact h2 m
  ·rw [(O4 a b).1 k] at h;exact h2 h
  ·exact h1 k) (fun a b=>by
  simp only [Bool.or_eq_true,decide_eq_true_eq]
  rw [aU,aU,VE a b]
  rcases NP a b with k | k | k <;> rw [k] <;> decide) (l.map tb)
 have h:=oB (le:=fun a b:List UInt8=>¬ Lib.compareBytes a b=1) (fun a=>by rw [(O4 a a).2 rfl];decide) (fun a b d h1 h2 h=>by
  rcases NP a b with k | k | k
  ·rcases NP b d with m | m | m
   ·rw [aR a b d k m] at h;exact absurd h (by decide)
   ·rw [← (O4 b d).1 m,k] at h;exact absurd h (by decide)
   ·exact h2 m
  ·rw [(O4 a b).1 k] at h;exact h2 h
  ·exact h1 k) (fun a b h1 h2=>by
  rw [VE a b] at h2
  rcases NP a b with k | k | k
  ·rw [k] at h2;exact absurd rfl h2
  ·exact (O4 a b).1 k
  ·exact absurd k h1) (hs.imp fun h=>(aU _ _).1 (Ak h))
 constructor
 ·unfold MG BN
  rw [List.pairwise_map]
  refine h.1.imp fun {a b} LZ=>?_
  show Lib.compareBytes a b = -1
  rcases NP a b with k | k | k
  ·exact k
  ·exact absurd ((O4 a b).1 k) LZ.2
  ·exact absurd k LZ.1
 ·intro x
  unfold BN
  rw [List.mem_map]
  constructor
  ·rintro ⟨b,hb,rfl⟩
   obtain ⟨s,hs,rfl⟩:=List.mem_map.1 (List.mem_mergeSort.1 ((h.2 b).1 hb))
   rw [qp];exact hs
  ·intro hx
   exact ⟨tb x,(h.2 _).2 (List.mem_mergeSort.2 (List.mem_map.2 ⟨x,hx,rfl⟩)),qp x⟩
theorem Zjn {β:Type} [Inhabited β] [DecidableEq β] (z:List β):(Lib.compact z).length≤z.length:=by
 unfold Lib.compact Lib.compactUpTo
 rw [Ai]
 exact Nat.le_trans (List.length_filter_le _ _) (by rw [List.length_range];exact Ah _)
theorem MU (l:List ByteArray):(BN l).length≤l.length:=by
 unfold BN
 rw [Ai]
 have:=Zjn (Pf l)
 rwa [List.length_mergeSort,Ai] at this
theorem Za3 (x y:ByteArray):cmp_Less_string x y=decide (GZ x y = -1):=by
 unfold cmp_Less_string
 have:cmp_isNaN_string x=false:=by
  show (!(Cn x x))=false
  rw [KY rfl];rfl
 rw [this,Wq]
 rfl
theorem Zb3 (d:List ByteArray) (hl:d.length<1000000000) (hd:MG GZ d) {k:Nat} (hk:k<d.length):∀ (g i j n:Nat),g=j-i→i≤k→k≤j→j≤d.length→g<n→
  Ea.l0 (Ea.t1 fu) n d d[k] (d.length:Int) (i:Int) (j:Int)=some ((k:Int),true):=by
 intro g
 induction g using Nat.strongRecOn with
 | ind g ih=>
 intro i j n hg hi hj Nl hn
 obtain ⟨n,rfl⟩:∃ m,n=m+1:=⟨n-1,by omega⟩
 show Ea.S0 Ea.S1 (Ea.l0 (Ea.t1 fu) n) _ _ _ _ _=_
 unfold Ea.S0
 by_cases Lg:i<j
 ·have hh:IntKind.wrap .i64 (BH .u64 (IntKind.wrap .u64 (AQ .i64 (i:Int) (j:Int))) 1)=(((i+j) / 2:Nat):Int):=by
   have h1:IntKind.wrap .u64 ((i:Int)+(j:Int))=((i+j:Nat):Int):=by rw [Ew];omega
   have h2:=Mp ((i+j:Nat):Int) 1 (by omega)
   rw [show ((1:Nat):Int)=1 from rfl,Int.pow_succ,Int.pow_zero,Int.one_mul] at h2
   rw [Bj (by omega),h1,h2,Hf (by omega)]
   omega
  have hm:(i+j) / 2<d.length:=by omega
  rw [Bl (by omega),Aa,hh,Bf (by rw [AW];omega),Aa,Bz hm,Za3,Bj (by omega)]
  by_cases AO:(i+j) / 2<k
  ·rw [Af (hd.at AO hk),Aa]
   exact ih (j-((i+j) / 2+1)) (by omega) ((i+j) / 2+1) j n rfl (by omega) hj Nl (by omega)
  ·have:¬ GZ d[(i+j) / 2] d[k] = -1:=by
    by_cases he:k=(i+j) / 2
    ·rw [show d[(i+j) / 2]=d[k] from getElem_congr_idx he.symm,Lz.self];decide
    ·exact Lz.asym (hd.at (show k<(i+j) / 2 by omega) hm)
   rw [An this,Ac]
   exact ih ((i+j) / 2-i) (by omega) i ((i+j) / 2) n rfl hi (by omega) (by omega) (by omega)
 ·have:i=k:=by omega
  subst this
  rw [AZ (by omega),Ac]
  unfold Ea.S1
  rw [Bl (by omega),Aa,Bf (by rw [AW];omega),Aa,Bz hk,KY rfl]
  rfl
theorem Yqq (d:List ByteArray) (hl:d.length<1000000000) (hd:MG GZ d) {v:ByteArray} (hv:v∈d):Ea d v=some ((idx d v:Int),true):=by
 have hk:=Qp hv
 have hg:=Vs hk
 have:=Zb3 d hl hd hk d.length 0 d.length fu (by omega) (by omega) (by omega) (by omega) (by unfold fu;omega)
 rw [hg] at this
 exact this
abbrev BT (l:List ByteArray):List Int:=Ik (BN l) l
theorem Zkn (l:List ByteArray) (hl:l.length≤65536) (lo:Nat) (t:List ByteArray) (ht:List.take (BN l).length (List.drop lo t)=BN l):∀ (d i n:Nat),d=l.length-i→i≤l.length→d<n→
  Fu.l0 n lo (BN l).length ((BT l).take i) l (l.length:Int) (i:Int) t=some (BN l,BT l):=by
 have CE:(BT l).length=l.length:=J1 _ _
 have D3:=MU l
 intro d
 induction d with
 | zero=>
  intro i n hd hi hn
  have:i=l.length:=by omega
  subst this
  obtain ⟨n,rfl⟩:∃ k,n=k+1:=⟨n-1,by omega⟩
  show Fu.S0 _ _ _ _ _ _ _ _=_
  unfold Fu.S0
  rw [AZ (by omega),Ac,ht,AF (by omega)]
 | succ d ih=>
  intro i n hd hi hn
  obtain ⟨n,rfl⟩:∃ k,n=k+1:=⟨n-1,by omega⟩
  have AO:i<l.length:=by omega
  show Fu.S0 (Fu.l0 n) _ _ _ _ _ _ _=_
  unfold Fu.S0
  rw [Bl (by omega),Aa,Bf (by rw [AW];omega),Aa,Bz AO,ht,Yqq _ (by omega) (OD l).1 (((OD l).2 _).2 (Aq AO)),Ad,B7 (by rw [Ag];omega),Aa,Bj (by omega)]
  have:=ih (i+1) n (by omega) (by omega) (by omega)
  rw [take_one (by omega),fW AO] at this
  exact this
theorem nU (l:List ByteArray) (hl:l.length≤65536) (h0:0<l.length):Fu l=some (BN l,BT l):=by
 show Fu.S (Fu.l0 fu) l=_
 unfold Fu.S
 have hc:Ko 16 l=some l:=by
  unfold Ko
  rw [Af h0,B7 (by omega)]
  rfl
 have hs:Wg l=some ((Pf l).map Me):=by
  unfold Wg
  rw [Af (by omega)]
  rfl
 have Jq:((Pf l).map Me).length=l.length:=by rw [Ai,List.length_mergeSort,Ai]
 have D3:=MU l
 have cB:((Pf l).map Me).map (fun s:ByteArray=>s.data.toList)=Pf l:=by
  rw [List.map_map]
  exact List.map_id _
 have hdd:(Lib.compact (Pf l)).length=(BN l).length:=by unfold BN;rw [Ai]
 have mU:Wh ((Pf l).map Me)=some (((BN l).length:Int),BN l++(List.replicate (l.length-(BN l).length) []).map Me):=by
  unfold Wh
  rw [Af (by omega),cB,Jq,hdd,AE]
  rfl
 rw [hc,Ad,Rc (x:=(Pf l).map Me) (by rw [Af h0];rfl) hs (by rw [Jq];simp),Ad,
  Rc (by rw [Af (by omega)];rfl) mU (by
   dsimp only
   rw [Ae,Ai,AK,Jq,Af (by omega)]
   rfl),Ad]
 dsimp only
 rw [show Int.toNat ((BN l).length:Int)=(BN l).length from rfl,AW]
 exact Zkn l hl 0 _ (by rw [List.drop_zero,List.take_left]) l.length 0 fu (by omega) (by omega) (by unfold fu;omega)
end Go.AM.Pure
end

section
/- Texts as they are, and by a dictionary: what is put, and what is taken of it. -/
namespace Go.AM.Pure
open Go.AM
def tB (s:ByteArray):List Int:=(s.size:Int) :: Bi s
def B8 (l:List ByteArray):List Int:=l.flatMap tB
def Ga (l:List ByteArray):Prop:=∀ s∈l,s.size≤32
theorem Yk (x:ByteArray) (d:List ByteArray):B8 (x :: d)=tB x++B8 d:=rfl
theorem Yj (d:List ByteArray) (x:ByteArray):B8 (d++[x])=B8 d++tB x:=by unfold B8;simp
theorem RB (s:ByteArray):(tB s).length=1+s.size:=by unfold tB;rw [Aj,DN];omega
theorem Yoq {s:ByteArray} (h:s.size≤32):∀ b∈tB s,0≤b∧b<256:=fun b hb=>by
 rcases List.mem_cons.1 hb with rfl | hb
 ·omega
 ·exact Zzm s b hb
theorem L7:∀ (d:List ByteArray),Ga d→(B8 d).length≤33*d.length
 | [],_=>by simp [B8]
 | x :: d,h=>by
  have:=L7 d fun s hs=>h s (Az _ hs)
  have h1:=RB x
  have h2:=h x (Av ..)
  rw [Yk,Ae,Aj]
  omega
theorem UW:∀ (d:List ByteArray),Ga d→∀ b∈B8 d,0≤b∧b<256
 | [],_,b,h=>by cases h
 | x :: d,hs,b,h=>by
  rw [Yk] at h
  rcases List.mem_append.1 h with h | h
  ·exact Yoq (hs x (Av ..)) b h
  ·exact UW d (fun s h=>hs s (Az _ h)) b h
theorem Ga.take {l:List ByteArray} (h:Ga l) (i:Nat):Ga (l.take i):=fun s hs=>h s (List.mem_of_mem_take hs)
theorem Ga.Kx {l:List ByteArray} (h:Ga l):Ga (BN l):=fun s hs=>h s (((OD l).2 s).1 hs)
theorem qo {l:List ByteArray} {i:Nat} (h:i<l.length):B8 l=B8 (l.take i)++(tB l[i]++B8 (l.drop (i+1))):=by
 have:l=l.take i++l[i] :: l.drop (i+1):=by rw [← List.drop_eq_getElem_cons h,List.take_append_drop]
 have h2:B8 l=B8 (l.take i++l[i] :: l.drop (i+1)):=congrArg B8 this
 rw [h2]
 unfold B8
 rw [List.flatMap_append,List.flatMap_cons]
theorem Zxp (b:Bool×List Int) (c:Int) (h:b.2.length<100000000000):XP b c=some (true,false,b.2++[c]):=by
 unfold XP
 show (bif BM (b.2.length+1) 1 then _ else _)=_
 rw [B7 (by omega)]
 rfl
theorem Zht (o:List ByteArray) (hl:o.length≤65536) (hs:Ga o):∀ (d i n:Nat) (f:Bool),d=o.length-i→i≤o.length→d<n→
  FW.l0 n o (o.length:Int) (i:Int) (f,B8 (o.take i))=some (ofBytes (B8 o),0):=by
 intro d
 induction d with
 | zero=>
  intro i n f hd hi hn
  have:i=o.length:=by omega
  subst this
  obtain ⟨n,rfl⟩:∃ k,n=k+1:=⟨n-1,by omega⟩
  show FW.S0 _ _ _ _ _=_
  unfold FW.S0
  rw [AZ (by omega),Ac,Ar,eC _ _ (UW o hs)]
  rfl
 | succ d ih=>
  intro i n f hd hi hn
  obtain ⟨n,rfl⟩:∃ k,n=k+1:=⟨n-1,by omega⟩
  have AO:i<o.length:=by omega
  have h1:=L7 (o.take i) (hs.take i)
  rw [Ag] at h1
  have h2:=hs o[i] (Aq AO)
  show FW.S0 (FW.l0 n) _ _ _ _=_
  unfold FW.S0
  rw [Bl (by omega),Aa,Bf (by rw [AW];omega),Aa,Bz AO,C6,AZ (by omega),Ac,Zxp _ _ (by show (B8 _).length<_;omega),Ad,
   Yz _ _ (by show (B8 _++[_]).length+_<_;rw [Ae,AG];omega),Ad,Bj (by omega),J4,show (o[i].size:Int) % 256=(o[i].size:Int) by omega]
  have:=ih (i+1) n false (by omega) (by omega) (by omega)
  rw [take_one AO,Yj,show B8 (o.take i)++tB o[i]=B8 (o.take i)++[(o[i].size:Int)]++Bi o[i] by unfold tB;simp] at this
  exact this
theorem dm (o:List ByteArray) (hl:o.length≤65536) (hs:Ga o):FW o=some (ofBytes (B8 o),0):=
 Zht o hl hs o.length 0 fu true (by omega) (by omega) (by unfold fu;omega)
theorem Ysj {s:ByteArray} {a b r:List Int} (hs:Bi s=a++(b++r)):cutS s (a.length:Int) ((a.length+b.length:Nat):Int)=ofBytes b:=by
 have:=oG s a.length (a.length+b.length)
 rw [hs,List.drop_left,Nat.add_sub_cancel_left,List.take_left] at this
 rw [← Q9 (cutS s _ _),this]
structure TextAt (s:ByteArray) (p:Nat) (t:ByteArray):Prop where
 at0:byteAt s (p:Int)=(t.size:Int)
 fit:p+1+t.size≤s.size
 cut:cutS s ((p+1:Nat):Int) ((p+1+t.size:Nat):Int)=t
theorem fX {s t:ByteArray} {pre rest:List Int} (hs:Bi s=pre++(tB t++rest)):TextAt s pre.length t where
 at0:=Rg hs (i:=pre.length) (by rw [Aw (Ah _),Nat.sub_self];rfl)
 fit:=by
  have:=congrArg List.length hs
  rw [DN,Ae,Ae,RB] at this
  omega
 cut:=by
  have h2:Bi s=(pre++[(t.size:Int)])++(Bi t++rest):=by rw [hs];unfold tB;simp
  have:=Ysj h2
  rw [Ae,AG,DN] at this
  rw [this,Q9]
theorem Zyp (l:List ByteArray) (hl:l.length≤65536) (Ds:Ga l):∀ (d i n:Nat) (s:ByteArray),d=l.length-i→i≤l.length→d<n→Bi s=B8 (l.drop i)→
  DU.l0 (DU.t1 fu) n s (l.length:Int) (l.take i)=some (l,0):=by
 intro d
 induction d with
 | zero=>
  intro i n s hd hi hn hs
  have:i=l.length:=by omega
  subst this
  obtain ⟨n,rfl⟩:∃ k,n=k+1:=⟨n-1,by omega⟩
  rw [List.drop_length] at hs
  have he:s=eB:=LH.2 (by rw [← DN,hs];rfl)
  show DU.S0 DU.S1 _ _ _ _=_
  unfold DU.S0
  rw [KY he,Bool.not_true,Ac,Ar]
  unfold DU.S1
  rw [AW,Cu rfl,Ac]
 | succ d ih=>
  intro i n s hd hi hn hs
  obtain ⟨n,rfl⟩:∃ k,n=k+1:=⟨n-1,by omega⟩
  have AO:i<l.length:=by omega
  rw [List.drop_eq_getElem_cons AO,Yk] at hs
  have ht:=fX (pre:=[]) (t:=l[i]) (rest:=B8 (l.drop (i+1))) hs
  have Xu:=Ds l[i] (Aq AO)
  have hf:=ht.fit
  have h0:=ht.at0
  have hc:=ht.cut
  rw [List.length_nil] at hf h0 hc
  have Cb:s≠eB:=fun he=>by have:=LH.1 he;omega
  have Qz:Bi (cutS s ((1+l[i].size:Nat):Int) (Bh s))=B8 (l.drop (i+1)):=by
   have:=Ma hs
   rwa [RB] at this
  have Bu:s.size≤33*l.length:=by
   have k1:=L7 (l.drop i) fun t ht=>Ds t (List.mem_of_mem_drop ht)
   rw [List.drop_eq_getElem_cons AO,Yk,← hs,DN,Aj,List.length_drop] at k1
   omega
  show DU.S0 (DU.t1 fu) (DU.l0 (DU.t1 fu) n) _ _ _=_
  unfold DU.S0
  rw [show ((0:Nat):Int)=0 from rfl] at h0
  rw [Pe Cb,Bool.not_false,Aa,C6,Bf (by omega),Aa,h0,Hf (by omega),AZ (by omega),Ac,GM (by omega),Ac,Bj (by omega),show (1:Int)+(l[i].size:Int)=((1+l[i].size:Nat):Int) by omega,Ey (by omega),Aa,B7 (by rw [Ag];omega),Aa,Ey (by omega),Aa]
  rw [C6] at Qz
  rw [show 0+1+l[i].size=1+l[i].size by omega,show ((0+1:Nat):Int)=1 from rfl] at hc
  rw [hc]
  have:=ih (i+1) n _ (by omega) (by omega) (by omega) Qz
  rw [take_one AO] at this
  exact this
theorem Zti (l:List ByteArray) (hl:l.length≤65536) (Ds:Ga l) {s:ByteArray} (hs:Bi s=B8 l):DU s (l.length:Int)=some (l,0):=
 Zyp l hl Ds l.length 0 fu s (by omega) (by omega) (by unfold fu;omega) (by rw [List.drop_zero];exact hs)
def Md (l:List ByteArray) (v:Nat):List Int:=if l.length=0 then [] else vB ((BN l).length:Int)++(B8 (BN l)++CK (BT l) v)
theorem Zhj (l:List ByteArray) (hl:l.length≤65536) (Ds:Ga l) {v:Nat} (hv:D0 (BT l)=some (v:Int)) (B1:v≤64):X5 l=some (ofBytes (Md l v),0):=by
 unfold X5 dc Md
 rw [AW,AZ (by omega),Ac]
 by_cases h0:l.length=0
 ·rw [B0 (by omega),Aa,if_pos h0]
  rfl
 ·have D3:=MU l
  have CE:(BT l).length=l.length:=J1 _ _
  have hb:(BT l).length*v≤65536*64:=Nat.mul_le_mul (by omega) B1
  have QZ:=Jy (BT l) v
  have k1:=FC ((BN l).length:Int)
  have k2:=L7 _ Ds.Kx
  rw [BU (by omega),Ac,if_neg h0,nU l hl (by omega),Ad]
  dsimp only
  rw [dm _ (by omega) Ds.Kx,Ad]
  dsimp only
  rw [Cu rfl,Ac,hv,Ad,UM (BT l) B1 (by omega) hv (Ah _),Ad,AW,OB,Ad,IC,F7]
  dsimp only
  have r1:CH (ofBytes (vB ((BN l).length:Int))) (ofBytes (B8 (BN l)))=true:=Af (by rw [Cg,Cg];omega)
  have r2:CH (ofBytes (vB ((BN l).length:Int)++B8 (BN l))) (ofBytes (CK (BT l) v))=true:=Af (by rw [Cg,Cg,Ae];omega)
  rw [r1,r2,F7,Aa,Aa,Al]
  rfl
theorem Zz2 {s t:ByteArray} {rest:List Int} (Xu:t.size≤32) (hs:Bi s=tB t++rest) (Bu:s.size<100000000):X4 s=some (t,((tB t).length:Int)):=by
 have ht:=fX (pre:=[]) hs
 have hf:=ht.fit
 have h0:=ht.at0
 have hc:=ht.cut
 rw [List.length_nil] at hf h0 hc
 have Cb:s≠eB:=fun he=>by have:=LH.1 he;omega
 rw [show ((0:Nat):Int)=0 from rfl] at h0
 rw [show 0+1+t.size=1+t.size by omega,show ((0+1:Nat):Int)=1 from rfl] at hc
 unfold X4
 rw [Pe Cb,Ac,C6,Bf (by omega),Aa,h0,Hf (by omega),AZ (by omega),Ac,GM (by omega),Ac,Bj (by omega),show (1:Int)+(t.size:Int)=((1+t.size:Nat):Int) by omega,Ey (by omega),Aa,hc,RB]
theorem Zit {D:List ByteArray} (hD:D.length≤65536) (T7:MG GZ D) (Xu:Ga D) {s:ByteArray} {pre tail:List Int} (hs:Bi s=pre++(B8 D++tail)) (Bu:s.size<100000000) {o1:ByteArray→Int→Int→Int→List ByteArray→Option (List ByteArray×List Int×Int)} {xn size:Int}:
  ∀ (d i n:Nat),d=D.length-i→i≤D.length→d<n→
  BW.l0 o1 n s xn size ((pre.length+(B8 (D.take i)).length:Nat):Int) (D.take i) (D.length:Int) (i:Int)=o1 s xn size ((pre.length+(B8 D).length:Nat):Int) D:=by
 have Js:s.size=pre.length+((B8 D).length+tail.length):=by rw [← DN,hs,Ae,Ae]
 intro d
 induction d with
 | zero=>
  intro i n hd hi hn
  have:i=D.length:=by omega
  subst this
  obtain ⟨n,rfl⟩:∃ k,n=k+1:=⟨n-1,by omega⟩
  show BW.S0 _ _ _ _ _ _ _ _ _=_
  unfold BW.S0
  rw [AZ (by omega),Ac,Ar]
 | succ d ih=>
  intro i n hd hi hn
  obtain ⟨n,rfl⟩:∃ k,n=k+1:=⟨n-1,by omega⟩
  have AO:i<D.length:=by omega
  show BW.S0 o1 (BW.l0 o1 n) _ _ _ _ _ _ _=_
  unfold BW.S0
  have KR:=qo AO
  have PC:(B8 (D.take i)).length+(tB D[i]).length≤(B8 D).length:=by rw [KR,Ae,Ae];omega
  have hcut:Bi (cutS s ((pre.length+(B8 (D.take i)).length:Nat):Int) (Bh s))=tB D[i]++(B8 (D.drop (i+1))++tail):=by
   have:=Ma (s:=s) (a:=pre++B8 (D.take i)) (rest:=tB D[i]++(B8 (D.drop (i+1))++tail)) (by rw [hs,KR];simp)
   rw [Ae] at this
   exact this
  have hv:=RB D[i]
  have Lf:(D.take i).length=i:=by rw [Ag];omega
  have JQ:AQ .i64 ((pre.length+(B8 (D.take i)).length:Nat):Int) ((tB D[i]).length:Int)=((pre.length+(B8 (D.take (i+1))).length:Nat):Int):=by
   have:(B8 (D.take (i+1))).length=(B8 (D.take i)).length+(tB D[i]).length:=by rw [take_one AO,Yj,Ae]
   rw [Bj (by omega),this]
   omega
  have Co:(cutS s ((pre.length+(B8 (D.take i)).length:Nat):Int) (Bh s)).size<100000000:=by
   rw [← DN,hcut,Ae,Ae]
   have:=congrArg List.length KR
   rw [Ae,Ae] at this
   omega
  rw [Bl (by omega),Aa,Ey (by rw [C6];omega),Aa,Zz2 (Xu _ (Aq AO)) hcut Co,Ad]
  dsimp only
  rw [BU (by omega),Ac,JQ,Bj (by omega),← take_one AO]
  have:=ih (i+1) n (by omega) (by omega) (by omega)
  rw [B7 (by omega)]
  by_cases I0:i=0
  ·rw [AZ (by omega),Ac,Aa]
   exact this
  ·have Kw:i-1<(D.take i).length:=by omega
   have hup:=T7.at (show i-1<i by omega) AO
   have hle:(IY D[i] (D.take i)[i-1] || Cn D[i] (D.take i)[i-1])=false:=by
    rw [Wq,List.getElem_take,An (Lz.asym hup),Pe (fun e=>by
     have:=(Lz.eq0 _ _).2 e
     rw [Lz.neg D[i-1] D[i],hup] at this
     exact absurd this (by decide))]
    rfl
   rw [Bl (by omega),Aa,Dn (by omega),Bf (by rw [AW,Lf];omega),Aa,show (i:Int)-1=((i-1:Nat):Int) by omega,Bz Kw,hle,Ac,Aa]
   exact this
theorem Zjt {D:List ByteArray} {P:List Int} (hP:P.length≤65536) (Nh:∀ x∈P,0≤x∧x<(D.length:Int)) {o3:List ByteArray→List Int→List Bool→Option (List ByteArray×List Int×Int)}:
  ∀ (d i n:Nat),d=P.length-i→i≤P.length→d<n→
  BW.l2 o3 n (D.length:Int) D P P (P.length:Int) (i:Int) (Eo D.length (P.take i))=o3 D P (Eo D.length P):=by
 intro d
 induction d with
 | zero=>
  intro i n hd hi hn
  have:i=P.length:=by omega
  subst this
  obtain ⟨n,rfl⟩:∃ k,n=k+1:=⟨n-1,by omega⟩
  show BW.S2 _ _ _ _ _ _ _ _ _=_
  unfold BW.S2
  rw [AZ (by omega),Ac,Ar]
 | succ d ih=>
  intro i n hd hi hn
  obtain ⟨n,rfl⟩:∃ k,n=k+1:=⟨n-1,by omega⟩
  have AO:i<P.length:=by omega
  have hx:=Nh P[i] (Aq AO)
  have Js:(Eo D.length (P.take i)).length=D.length:=by unfold Eo;simp
  show BW.S2 o3 (BW.l2 o3 n) _ _ _ _ _ _ _=_
  unfold BW.S2
  rw [Bl (by omega),Aa,Bf (by rw [AW];omega),Aa,Bz AO,AZ hx.1,Ac,GM hx.2,Ac,Bf (by rw [AW,Js];exact hx),Aa,Bj (by omega),rT _ _ _ hx.1,← take_one AO]
  exact ih (i+1) n (by omega) (by omega) (by omega)
theorem Zzp {D:List ByteArray} {P:List Int} (hP:P.length≤65536) (Nh:∀ x∈P,0≤x∧x<(D.length:Int)):∀ (d i n:Nat),d=P.length-i→i≤P.length→d<n→
  Gy.l0 n D ((P.take i).map fun x=>D.getD x.toNat eB) P (P.length:Int) (i:Int)=some (P.map fun x=>D.getD x.toNat eB):=by
 intro d
 induction d with
 | zero=>
  intro i n hd hi hn
  have:i=P.length:=by omega
  subst this
  obtain ⟨n,rfl⟩:∃ k,n=k+1:=⟨n-1,by omega⟩
  show Gy.S0 _ _ _ _ _ _=_
  unfold Gy.S0
  rw [AZ (by omega),Ac,Ar]
 | succ d ih=>
  intro i n hd hi hn
  obtain ⟨n,rfl⟩:∃ k,n=k+1:=⟨n-1,by omega⟩
  have AO:i<P.length:=by omega
  have hx:=Nh P[i] (Aq AO)
  show Gy.S0 (Gy.l0 n) _ _ _ _ _=_
  unfold Gy.S0
  rw [Bl (by omega),Aa,Bf (by rw [AW];omega),Aa,Bz AO,Bf (by rw [AW];exact hx),Aa,B7 (by rw [Ai,Ag];omega),Aa,Bj (by omega)]
  have:=ih (i+1) n (by omega) (by omega) (by omega)
  rw [take_one AO,AE] at this
  exact this
theorem og (l:List ByteArray) (hl:l.length≤65536) (Ds:Ga l) {v:Nat} (Mu:v≤64) (Jt:Wd (BT l) v) {s:ByteArray} (hs:Bi s=Md l v) (h0:0<l.length):
  BW s (l.length:Int)=some (BN l,BT l,0):=by
 have D3:=MU l
 have Hl:=OD l
 have cz:=Hl.pos h0
 have CE:(BT l).length=l.length:=J1 _ _
 have Ev:Bi s=vB ((BN l).length:Int)++(B8 (BN l)++CK (BT l) v):=by
  unfold Md at hs
  rwa [if_neg (by omega)] at hs
 have hb:(BT l).length*v≤65536*64:=Nat.mul_le_mul (by omega) Mu
 have QZ:=Jy (BT l) v
 have k1:=FC ((BN l).length:Int)
 have k2:=L7 _ Ds.Kx
 have Bu:s.size=(vB ((BN l).length:Int)).length+((B8 (BN l)).length+(CK (BT l) v).length):=by rw [← DN,Ev,Ae,Ae]
 show BW.S (BW.l0 (BW.t1 fu) fu) s _=_
 unfold BW.S
 rw [AZ (by omega),Ac,AZ (by omega),Ac,BU (by omega),Ac,OQ (by unfold BY;omega) Ev,Ad]
 dsimp only
 rw [Cu rfl,Ac,AZ (by omega),Ac,AZ (by omega),Ac]
 have QA:=Zit (D:=BN l) (by omega) Hl.1 Ds.Kx Ev (by omega) (o1:=BW.t1 fu) (xn:=(l.length:Int)) (size:=((BN l).length:Int)) (BN l).length 0 fu (by omega) (by omega) (by unfold fu;omega)
 rw [List.take_zero,show B8 []=[] from rfl,List.length_nil,Nat.add_zero] at QA
 rw [show (0:Int)=((0:Nat):Int) from rfl,QA]
 show BW.S1 (BW.l2 (BW.t3 18446744073709551615) 18446744073709551615) s _ _ _ _=_
 unfold BW.S1
 obtain ⟨v',w1,w2,w3⟩:=X6 [((BN l).length:Int)-1] (by simp)
 have PD:v'=v:=(Ypq Lz Hl h0 w3 (by omega)).unique Jt
 subst PD
 have hcut:Bi (cutS s (((vB ((BN l).length:Int)).length+(B8 (BN l)).length:Nat):Int) (Bh s))=CK (BT l) v':=by
  have:=Ma (s:=s) (a:=vB ((BN l).length:Int)++B8 (BN l)) (rest:=CK (BT l) v') (by rw [Ev,Al])
  rw [Ae] at this
  exact this
 have PE:=U6 (l:=BT l) (w:=v') Mu (by omega) (fun x hx=>by have:=Qa Hl x hx;unfold BY;omega) Jt.1 hcut
 rw [CE] at PE
 rw [Ey (by rw [C6];omega),Aa,Dn (by omega),w1,Ad,PE,Ad]
 dsimp only
 rw [Cu rfl,Ac,Cq (by omega),B7 (by show (BN l).length*1≤_;omega)]
 have iy:List.replicate (Int.toNat ((BN l).length:Int)) false=Eo (BN l).length ((BT l).take 0):=by
  unfold Eo
  rw [List.take_zero]
  symm
  rw [List.eq_replicate_iff]
  refine ⟨by simp,fun b hb=>?_⟩
  obtain ⟨k,_,rfl⟩:=List.mem_map.1 hb
  rfl
 have Kh:=Zjt (D:=BN l) (P:=BT l) (by omega) (fun x hx=>Qa Hl x hx) (o3:=BW.t3 18446744073709551615) (BT l).length 0 18446744073709551615 (by omega) (by omega) (by omega)
 rw [iy,AW]
 refine Eq.trans Kh ?_
 show BW.S3 (BN l) (BT l) (Eo (BN l).length (BT l))=_
 unfold BW.S3
 have mV:∀ b∈Eo (BN l).length (BT l),b=true:=fun b hb=>by
  unfold Eo at hb
  obtain ⟨k,hk,rfl⟩:=List.mem_map.1 hb
  exact List.any_eq_true.2 ⟨_,uc Lz Hl (List.mem_range.1 hk),Af rfl⟩
 have Yu2:(Eo (BN l).length (BT l)).length=(BN l).length:=by unfold Eo;simp
 have Mv:Q8 (Eo (BN l).length (BT l)) false=some false:=by
  unfold Q8
  have:=pA _ (by omega) mV (Eo (BN l).length (BT l)).length 0 fu (by omega) (by omega) (by unfold fu;omega)
  have h2:Gg (Eo (BN l).length (BT l)) false=some (-1):=this
  rw [h2]
  rfl
 rw [Mv]
 rfl
theorem Zyi (l:List ByteArray) (hl:l.length≤65536) (Ds:Ga l) {v:Nat} (Mu:v≤64) (Jt:Wd (BT l) v) {s:ByteArray} (hs:Bi s=Md l v):
  XX s (l.length:Int)=some (l,0):=by
 unfold XX PX
 by_cases h0:l.length=0
 ·have Hm:s=eB:=LH.2 (by rw [← DN,hs];unfold Md;rw [if_pos h0];rfl)
  have:l=[]:=AI h0
  subst this
  have h1:BW s (([]:List ByteArray).length:Int)=some ([],[],0):=by
   show BW.S _ s 0=_
   unfold BW.S
   rw [AZ (by omega),Ac,AZ (by omega),Ac,B0 rfl,Aa,KY Hm]
   rfl
  rw [h1]
  rfl
 ·have D3:=MU l
  have Hl:=OD l
  rw [og l hl Ds Mu Jt hs (by omega),Ad,Ad]
  dsimp only
  rw [Cu rfl,Ac]
  have:=Zzp (D:=BN l) (P:=BT l) (by rw [J1];exact hl) (fun x hx=>Qa Hl x hx) (BT l).length 0 fu (by omega) (by omega) (by rw [J1];unfold fu;omega)
  have h2:Gy (BN l) (BT l)=some ((BT l).map fun x=>(BN l).getD x.toNat eB):=this
  rw [h2,fb Hl eB]
  rfl
end Go.AM.Pure
end

section
/- Texts by runs of places; words by a code; blocks of any kind. -/
namespace Go.AM.Pure
open Go.AM
def TQ (l:List ByteArray):List Int:=if l.length=0 then [] else vB ((BN l).length:Int)++(B8 (BN l)++E8 (Hh (BT l)))
theorem Zvp {D:List ByteArray} (hD:D.length≤65536) (Xu:Ga D) {s:ByteArray} {pre tail:List Int} (hs:Bi s=pre++(B8 D++tail)) (Bu:s.size<100000000) {o1:ByteArray→Int→Int→Int→List ByteArray→Option (List ByteArray×Int)} {xn size:Int}:
  ∀ (d i n:Nat),d=D.length-i→i≤D.length→d<n→
  Cr.l0 o1 n s xn size ((pre.length+(B8 (D.take i)).length:Nat):Int) (D.take i) (D.length:Int) (i:Int)=o1 s xn size ((pre.length+(B8 D).length:Nat):Int) D:=by
 have Js:s.size=pre.length+((B8 D).length+tail.length):=by rw [← DN,hs,Ae,Ae]
 intro d
 induction d with
 | zero=>
  intro i n hd hi hn
  have:i=D.length:=by omega
  subst this
  obtain ⟨n,rfl⟩:∃ k,n=k+1:=⟨n-1,by omega⟩
  show Cr.S0 _ _ _ _ _ _ _ _ _=_
  unfold Cr.S0
  rw [AZ (by omega),Ac,Ar]
 | succ d ih=>
  intro i n hd hi hn
  obtain ⟨n,rfl⟩:∃ k,n=k+1:=⟨n-1,by omega⟩
  have AO:i<D.length:=by omega
  have KR:=qo AO
  have PC:=congrArg List.length KR
  rw [Ae,Ae,RB] at PC
  have ht:=fX (s:=s) (t:=D[i]) (pre:=pre++B8 (D.take i)) (rest:=B8 (D.drop (i+1))++tail) (by rw [hs,KR];simp)
  have hf:=ht.fit
  have h0:=ht.at0
  have hc:=ht.cut
  have h3:=Xu D[i] (Aq AO)
  rw [Ae] at hf h0 hc
  have JQ:(B8 (D.take (i+1))).length=(B8 (D.take i)).length+(1+D[i].size):=by rw [take_one AO,Yj,Ae,RB]
  show Cr.S0 o1 (Cr.l0 o1 n) _ _ _ _ _ _ _=_
  unfold Cr.S0
  generalize hp:pre.length+(B8 (D.take i)).length=p at hf h0 hc
  rw [Bl (by omega),Aa,C6,GM (by omega),Ac,Bf (by omega),Aa,h0,Hf (by omega),Dn (by omega),GM (by omega),Ac,Aa,Bj (a:=(p:Int)) (b:=1) (by omega),show (p:Int)+1=((p+1:Nat):Int) by omega,Bj (by omega),show ((p+1:Nat):Int)+(D[i].size:Int)=((p+1+D[i].size:Nat):Int) by omega,
   Ey (by omega),Aa,B7 (by rw [Ag];omega),Aa,hc,Bj (by omega),← take_one AO]
  have:=ih (i+1) n (by omega) (by omega) (by omega)
  rw [show pre.length+(B8 (D.take (i+1))).length=p+1+D[i].size by omega] at this
  exact this
theorem Zwp {D:List ByteArray} {P:List Int} (hP:P.length≤65536) (Nh:∀ x∈P,0≤x∧x<(D.length:Int)):∀ (d i n:Nat),d=P.length-i→i≤P.length→d<n→
  Cr.l2 n (D.length:Int) D ((P.take i).map fun x=>D.getD x.toNat eB) P (P.length:Int) (i:Int)=some (P.map fun x=>D.getD x.toNat eB,0):=by
 intro d
 induction d with
 | zero=>
  intro i n hd hi hn
  have:i=P.length:=by omega
  subst this
  obtain ⟨n,rfl⟩:∃ k,n=k+1:=⟨n-1,by omega⟩
  show Cr.S2 _ _ _ _ _ _ _=_
  unfold Cr.S2
  rw [AZ (by omega),Ac,Ar]
 | succ d ih=>
  intro i n hd hi hn
  obtain ⟨n,rfl⟩:∃ k,n=k+1:=⟨n-1,by omega⟩
  have AO:i<P.length:=by omega
  have hx:=Nh P[i] (Aq AO)
  show Cr.S2 (Cr.l2 n) _ _ _ _ _ _=_
  unfold Cr.S2
  rw [Bl (by omega),Aa,Bf (by rw [AW];omega),Aa,Bz AO,AZ hx.1,Ac,GM hx.2,Ac,Bf (by rw [AW];exact hx),Aa,B7 (by rw [Ai,Ag];omega),Aa,Bj (by omega)]
  have:=ih (i+1) n (by omega) (by omega) (by omega)
  rw [take_one AO,AE] at this
  exact this
theorem Zgj (l:List ByteArray) (hl:l.length≤65536) (Ds:Ga l) {s:ByteArray} (hs:Bi s=TQ l):Cr s (l.length:Int)=some (l,0):=by
 show Cr.S (Cr.l0 (Cr.t1 fu) fu) s _=_
 unfold Cr.S
 unfold TQ at hs
 by_cases h0:l.length=0
 ·rw [if_pos h0] at hs
  have Hm:s=eB:=LH.2 (by rw [← DN,hs];rfl)
  rw [B0 (by omega),Aa,KY Hm,AI h0]
  rfl
 ·rw [if_neg h0] at hs
  have D3:=MU l
  have Hl:=OD l
  have cz:=Hl.pos (by omega)
  have CE:(BT l).length=l.length:=J1 _ _
  have k1:=FC ((BN l).length:Int)
  have k2:=L7 _ Ds.Kx
  obtain ⟨r1,r2,r3⟩:=NF (BT l) (by omega)
  have k3:=OT (Hh (BT l))
  have k4:=JB _ _ _ r3
  rw [r2] at k4
  have Bu:s.size=(vB ((BN l).length:Int)).length+((B8 (BN l)).length+(E8 (Hh (BT l))).length):=by rw [← DN,hs,Ae,Ae]
  rw [BU (by omega),Ac,OQ (by unfold BY;omega) hs,Ad]
  dsimp only
  rw [Cu rfl,Ac,AZ (by omega),Ac,AZ (by omega),Ac]
  have QA:=Zvp (D:=BN l) (by omega) Ds.Kx hs (by omega) (o1:=Cr.t1 fu) (xn:=(l.length:Int)) (size:=((BN l).length:Int)) (BN l).length 0 fu (by omega) (by omega) (by unfold fu;omega)
  rw [List.take_zero,show B8 []=[] from rfl,List.length_nil,Nat.add_zero] at QA
  rw [show (0:Int)=((0:Nat):Int) from rfl,QA]
  show Cr.S1 (Cr.l2 18446744073709551615) s _ _ _ _=_
  unfold Cr.S1
  have hcut:Bi (cutS s (((vB ((BN l).length:Int)).length+(B8 (BN l)).length:Nat):Int) (Bh s))=E8 (Hh (BT l)):=by
   have:=Ma (s:=s) (a:=vB ((BN l).length:Int)++B8 (BN l)) (rest:=E8 (Hh (BT l))) (by rw [hs,Al])
   rw [Ae] at this
   exact this
  have ht:=dC (Hh (BT l)) r3 (by rw [r2];omega) (fun r hr=>by
   have hm:r.1∈BT l:=r2 ▸ Ve r3 r hr
   have:=Qa Hl r.1 hm
   unfold BY;omega) hcut
  rw [r2,CE] at ht
  rw [Ey (by rw [C6];omega),Aa,ht,Ad]
  dsimp only
  rw [Cu rfl,Ac,oD _ r3 (by rw [r2];omega),r2,Ad]
  dsimp only
  rw [Cu rfl,Ac]
  have:=Zwp (D:=BN l) (P:=BT l) (by omega) (fun x hx=>Qa Hl x hx) (BT l).length 0 18446744073709551615 (by omega) (by omega) (by omega)
  rw [fb Hl eB] at this
  exact this
def M1 (l:List ByteArray) (code:Int):Option (List Int):=
 if code=1 then some (B8 l)
 else if code=4 then some (Md l (C2 (BT l)))
 else if code=2 then some (TQ l)
 else none
theorem Zbk (l:List ByteArray) (hl:l.length≤65536) (Ds:Ga l) (code:Int):SP l code=some (match M1 l code with | some b=>(ofBytes b,0) | none=>(eB,1)):=by
 have CE:(BT l).length=l.length:=J1 _ _
 unfold SP M1
 by_cases h1:code=1
 ·rw [B0 h1,Aa,if_pos h1,dm l hl Ds]
  rfl
 ·rw [BU h1,Ac,if_neg h1]
  by_cases h4:code=4
  ·obtain ⟨k1,k2,_⟩:=Ic (BT l) (by omega)
   rw [B0 h4,Aa,if_pos h4,Zhj l hl Ds k1 k2]
   rfl
  ·rw [BU h4,Ac,if_neg h4]
   by_cases h2:code=2
   ·rw [B0 h2,Aa,if_pos h2,AW]
    unfold TQ
    by_cases h0:l.length=0
    ·rw [B0 (by omega),Aa,if_pos h0]
     rfl
    ·obtain ⟨r1,r2,r3⟩:=NF (BT l) (by omega)
     have D3:=MU l
     have k1:=FC ((BN l).length:Int)
     have k2:=L7 _ Ds.Kx
     have k3:=OT (Hh (BT l))
     have k4:=JB _ _ _ r3
     rw [r2] at k4
     rw [BU (by omega),Ac,if_neg h0,nU l hl (by omega),Ad]
     dsimp only
     rw [dm _ (by omega) Ds.Kx,Ad]
     dsimp only
     rw [Cu rfl,Ac,r1,Ad,oP _ r3 (by rw [r2];omega),Ad,AW,OB,Ad,IC,F7]
     dsimp only
     have r1:CH (ofBytes (vB ((BN l).length:Int))) (ofBytes (B8 (BN l)))=true:=Af (by rw [Cg,Cg];omega)
     have r2:CH (ofBytes (vB ((BN l).length:Int)++B8 (BN l))) (ofBytes (E8 (Hh (BT l))))=true:=Af (by rw [Cg,Cg,Ae];omega)
     rw [r1,r2,F7,Aa,Aa,Al]
   ·rw [BU h2,Ac,if_neg h2]
theorem Zft {l:List ByteArray} (hl:l.length≤65536) (Ds:Ga l) {code:Int} {b:List Int} (h:M1 l code=some b):(∀ x∈b,0≤x∧x<256)∧b.length≤60*l.length+40:=by
 have CE:(BT l).length=l.length:=J1 _ _
 have D3:=MU l
 have k1:=FC ((BN l).length:Int)
 have k2:=L7 _ Ds.Kx
 unfold M1 at h
 split at h
 ·cases h
  have:=L7 l Ds
  exact ⟨UW l Ds,by omega⟩
 ·split at h
  ·cases h
   obtain ⟨_,w2,_⟩:=Ic (BT l) (by omega)
   have h3:(CK (BT l) (C2 (BT l))).length≤8*l.length:=by
    rw [Jy,CE]
    have:l.length*C2 (BT l)≤l.length*64:=Nat.mul_le_mul_left _ w2
    omega
   unfold Md
   split
   ·exact ⟨fun x hx=>(by cases hx),by simp⟩
   ·refine ⟨fun x hx=>?_,by rw [Ae,Ae];omega⟩
    rcases List.mem_append.1 hx with hx | hx
    ·exact Mh _ x hx
    ·rcases List.mem_append.1 hx with hx | hx
     ·exact UW _ Ds.Kx x hx
     ·exact SZ _ _ x hx
  ·split at h
   ·cases h
    obtain ⟨r1,r2,r3⟩:=NF (BT l) (by omega)
    have k3:=OT (Hh (BT l))
    have k4:=JB _ _ _ r3
    rw [r2] at k4
    unfold TQ
    split
    ·exact ⟨fun x hx=>(by cases hx),by simp⟩
    ·refine ⟨fun x hx=>?_,by rw [Ae,Ae];omega⟩
     rcases List.mem_append.1 hx with hx | hx
     ·exact Mh _ x hx
     ·rcases List.mem_append.1 hx with hx | hx
      ·exact UW _ Ds.Kx x hx
      ·exact YW _ x hx
   ·cases h
theorem Zck {l:List ByteArray} (hl:l.length≤65536) (Ds:Ga l) {code:Int} {b:List Int} (h:M1 l code=some b) {s:ByteArray} (hs:Bi s=b):UK s (l.length:Int) code=some (l,0):=by
 have CE:(BT l).length=l.length:=J1 _ _
 unfold M1 at h
 unfold UK
 by_cases h1:code=1
 ·rw [if_pos h1] at h
  cases h
  rw [B0 h1,Aa,Zti l hl Ds hs]
  rfl
 ·rw [if_neg h1] at h
  rw [BU h1,Ac]
  by_cases h4:code=4
  ·rw [if_pos h4] at h
   cases h
   obtain ⟨k1,k2,k3⟩:=Ic (BT l) (by omega)
   rw [BU (by omega),Ac,B0 h4,Aa,Zyi l hl Ds k2 k3 hs]
   rfl
  ·rw [if_neg h4] at h
   by_cases h2:code=2
   ·rw [if_pos h2] at h
    cases h
    rw [B0 h2,Aa,Zgj l hl Ds hs]
    rfl
   ·rw [if_neg h2] at h
    cases h
theorem Zgt (l:List ByteArray) (hl:l.length≤65536) (h:Int×Int×Int×Int) (e:Int):∀ (d i n:Nat),d=l.length-i→i≤l.length→d<n→
  CV.l1 n ((l.take i).map fun x=>((h.1,0,x):Cell)) e l (l.length:Int) (i:Int) h=some (l.map fun x=>((h.1,0,x):Cell),e):=by
 intro d
 induction d with
 | zero=>
  intro i n hd hi hn
  have:i=l.length:=by omega
  subst this
  obtain ⟨n,rfl⟩:∃ k,n=k+1:=⟨n-1,by omega⟩
  show CV.S1 _ _ _ _ _ _ _=_
  unfold CV.S1
  rw [AZ (by omega),Ac,Ar]
 | succ d ih=>
  intro i n hd hi hn
  obtain ⟨n,rfl⟩:∃ k,n=k+1:=⟨n-1,by omega⟩
  have AO:i<l.length:=by omega
  show CV.S1 (CV.l1 n) _ _ _ _ _ _=_
  unfold CV.S1
  rw [Bl (by omega),Aa,Bf (by rw [AW];omega),Aa,B7 (by rw [Ai,Ag];omega),Aa,Bz AO,Bj (by omega)]
  have:=ih (i+1) n (by omega) (by omega) (by omega)
  rw [take_one AO,AE] at this
  exact this
theorem Zpj {s:ByteArray} {l:List ByteArray} (hl:l.length≤65536) {code k n:Int} (hs:UK s n code=some (l,0)) (m:Int):CV s n (2,code,m,k)=some (l.map fun x=>((2,0,x):Cell),0):=by
 show CV.S _ (CV.l1 fu) s n _=_
 unfold CV.S
 dsimp only
 rw [BU (by omega),Ac,B0 rfl,Aa,hs,Ad]
 exact Zgt l hl (2,code,m,k) 0 l.length 0 fu (by omega) (by omega) (by unfold fu;omega)
def HD (l:List Cell) (kind code:Int):Option (List Int):=if kind=1 then LL (J6 l) code else M1 (KW l) code
theorem VC {l:List Cell} {kind:Int} (h:Hz l kind):∀ c∈Br l,(kind=1∧∃ n,c=(1,n,eB))∨(kind=2∧∃ t,c=(2,0,t)∧t.size≤32):=fun c hc=>by
 unfold Br at hc
 obtain ⟨h1,h2⟩:=List.mem_filter.1 hc
 obtain ⟨h3,h4⟩:=h.2.2.2 c h1
 rcases rP h3 with rfl | ⟨n,rfl⟩ | ⟨t,rfl,ht⟩
 ·exact absurd h2 (by decide)
 ·rcases h4 with h4 | h4
  ·exact absurd h4 (by show ¬ (1:Int)=0;decide)
  ·exact .inl ⟨h4.symm,n,rfl⟩
 ·rcases h4 with h4 | h4
  ·exact absurd h4 (by show ¬ (2:Int)=0;decide)
  ·exact .inr ⟨h4.symm,t,rfl,ht⟩
theorem U0 {l:List Cell} {kind:Int} (h:Hz l kind):Ga (KW (Br l)):=fun t ht=>by
 obtain ⟨c,hc,rfl⟩:=List.mem_map.1 ht
 rcases VC h c hc with ⟨_,n,rfl⟩ | ⟨_,t,rfl,h⟩
 ·exact Nat.zero_le _
 ·exact h
theorem dn {l:List Cell} {kind:Int} (h:Hz l kind) (code:Int):DF (Br l) kind code=some (match HD (Br l) kind code with | some b=>(ofBytes b,0) | none=>(eB,1)):=by
 have hle:=J0 l
 have h2:=h.2.1
 rw [Zqj _ (by omega)]
 unfold HD
 by_cases hk:kind=1
 ·rw [B0 hk,Aa,if_pos hk,Zij _ (by rw [Ai];omega)]
  rfl
 ·rw [BU hk,Ac,if_neg hk,Zbk _ (by rw [Ai];omega) (U0 h)]
theorem YR {l:List Cell} {kind:Int} (h:Hz l kind) {code:Int} {b:List Int} (hb:HD (Br l) kind code=some b):(∀ x∈b,0≤x∧x<256)∧b.length≤10000:=by
 have hle:=J0 l
 have h2:=h.2.1
 unfold HD at hb
 split at hb
 ·obtain ⟨h3,h4⟩:=Zy2 (by rw [Ai];omega) hb
  rw [Ai] at h4
  exact ⟨h3,by omega⟩
 ·obtain ⟨h3,h4⟩:=Zft (by rw [Ai];omega) (U0 h) hb
  rw [Ai] at h4
  exact ⟨h3,by omega⟩
theorem eF {l:List Cell} {kind code:Int} {b:List Int} (hb:HD l kind code=some b):1≤code∧code≤5:=by
 unfold HD LL M1 at hb
 repeat' split at hb
 all_goals first
  | omega
  | cases hb
theorem Yjj {l:List Cell} {kind code:Int} (h:Hz l kind) {b:List Int} (hb:HD (Br l) kind code=some b):MV l kind code=some (ofBytes (II (Ih l kind code b)),0):=by
 obtain ⟨h1,h2⟩:=YR h hb
 have hc:=eF hb
 exact oF h (by omega) (by omega) h1 (by rw [dn h,hb])
theorem Zu2 {l:List Cell} {kind code:Int} (h:Hz l kind) (hb:HD (Br l) kind code=none):MV l kind code=some (eB,1):=by
 obtain ⟨h1,h2,_,_⟩:=id h
 unfold MV
 rw [ub h,Ad,Bool.not_true,Ac,n9 l (by omega) (by omega),Ad]
 dsimp only
 rw [dn h,hb,Ad]
 rfl
theorem rB {l:List Cell} {kind code:Int} (h:Hz l kind) (B1:∀ c∈l,BY c.2.1) {b:List Int} (hb:HD (Br l) kind code=some b):
  P1 (ofBytes (II (Ih l kind code b)))=some (((kind,code,(l.length:Int),((l.length-(Br l).length:Nat):Int)),ofBytes (D6 l),ofBytes b,l),true):=by
 obtain ⟨h1,h2⟩:=YR h hb
 have hc:=eF hb
 have hle:=J0 l
 have hm:=h.2.1
 refine Zwk h (by omega) (by omega) h1 (by rw [dn h,hb]) fun s hs k=>?_
 unfold HD at hb
 rcases h.2.2.1 with rfl | rfl
 ·rw [if_pos rfl] at hb
  have h3:=Zxk (by rw [Ai];omega) (fun x hx=>by
   obtain ⟨c,hc,rfl⟩:=List.mem_map.1 hx
   unfold Br at hc
   exact B1 c (List.mem_filter.1 hc).1) hb hs
  rw [Ai] at h3
  rw [Zrj (by rw [Ai];omega) h3 (l.length:Int),List.map_map]
  congr 2
  conv=>rhs;rw [← List.map_id (Br l)]
  apply List.map_congr_left
  intro c hc
  rcases VC h c hc with ⟨_,n,rfl⟩ | ⟨h,_⟩
  ·rfl
  ·omega
 ·rw [if_neg (by omega)] at hb
  have h3:=Zck (by rw [Ai];omega) (U0 h) hb hs
  rw [Ai] at h3
  rw [Zpj (by rw [Ai];omega) h3 (l.length:Int),List.map_map]
  congr 2
  conv=>rhs;rw [← List.map_id (Br l)]
  apply List.map_congr_left
  intro c hc
  rcases VC h c hc with ⟨h,_⟩ | ⟨_,t,rfl,_⟩
  ·omega
  ·rfl
end Go.AM.Pure
end

section
/- The document's words of few bits: the same bytes as pack.Put's; which cells are nulls; plain numbers. -/
namespace Go.AM.Pure
open Go.AM
theorem Yoj (x:Int):∀ (m k n:Nat),m=k→k≤64→m<n→x % 18446744073709551616<2 ^ k→
  ∃ v:Nat,FX.l0 n ((k:Int)-1) (bitsOf x)=some (v:Int)∧v≤64∧Wd [x] v:=by
 intro m
 induction m with
 | zero=>
  intro k n hk Yc3 hn AO
  subst hk
  obtain ⟨n,rfl⟩:∃ j,n=j+1:=⟨n-1,by omega⟩
  refine ⟨0,?_,by omega,⟨fun y hy=>?_, .inl rfl⟩⟩
  ·show FX.S0 _ _ _=_
   unfold FX.S0
   rw [GM (by omega)]
   rfl
  ·rw [List.mem_singleton.1 hy];exact AO
 | succ m ih=>
  intro k n hk Yc3 hn AO
  subst hk
  obtain ⟨n,rfl⟩:∃ j,n=j+1:=⟨n-1,by omega⟩
  have hlen:=OI x
  have hb:=OP x (k:=m) (by omega)
  have hd:decide (64=(bitsOf x).length)=true:=Af hlen.symm
  have Pm:=mod_pow_succ (x % 18446744073709551616) m
  rw [Int.emod_eq_of_lt (by omega) AO,Mc x (by omega)] at Pm
  show ∃ v:Nat,FX.S0 (FX.l0 n) _ _=_∧_
  unfold FX.S0
  rw [show ((m+1:Nat):Int)-1=(m:Int) by omega,Cq (by omega),Aa,Bf (by omega),hd,AB,Aa,show Int.toNat (m:Int)=m from rfl,hb]
  have hp:=EX m
  have hr:0≤x % 18446744073709551616 % 2 ^ m∧x % 18446744073709551616 % 2 ^ m<2 ^ m:=⟨Int.emod_nonneg _ (by omega),Int.emod_lt_of_pos _ hp⟩
  by_cases Mt:bit x m=true
  ·rw [Mt,if_pos rfl] at Pm
   rw [Mt,Aa,Bj (by omega)]
   refine ⟨m+1,by rw [Int.natCast_add];rfl,by omega,⟨fun y hy=>?_, .inr ⟨x,List.mem_singleton.2 rfl,?_⟩⟩⟩
   ·rw [List.mem_singleton.1 hy];exact AO
   ·rw [Nat.add_sub_cancel];omega
  ·rw [Bool.not_eq_true] at Mt
   rw [Mt] at Pm
   rw [Mt,Ac,Dn (by omega)]
   exact ih m n rfl (by omega) (by omega) (by
    rw [if_neg (by decide)] at Pm
    omega)
theorem Zzj (x:Int):∃ v:Nat,FX x=some (v:Int)∧v≤64∧Wd [x] v:=by
 unfold FX FX.S
 rw [SR,Ad]
 exact Yoj x 64 64 fu rfl (by omega) (by unfold fu;omega) (by rw [show (2:Int) ^ 64=18446744073709551616 from rfl];omega)
theorem Ypj {l:List Int} {x:Int} {w v:Nat} (h:Wd l w) (k:Wd [x] v):Wd (l++[x]) (max w v):=by
 have hx:=k.1 x (List.mem_singleton.2 rfl)
 have pw:∀ a b:Nat,a≤b→(2:Int) ^ a≤2 ^ b:=fun a b h=>by
  have:=Nat.pow_le_pow_right (show 0<2 by omega) h
  exact_mod_cast this
 constructor
 ·intro y hy
  rcases List.mem_append.1 hy with hy | hy
  ·have:=h.1 y hy
   have:=pw w (max w v) (by omega)
   omega
  ·rw [List.mem_singleton.1 hy]
   have:=pw v (max w v) (by omega)
   omega
 ·by_cases hwv:v≤w
  ·rw [show max w v=w by omega]
   rcases h.2 with h2 | ⟨y,hy,h2⟩
   ·exact .inl h2
   ·exact .inr ⟨y,List.mem_append_left _ hy,h2⟩
  ·rw [show max w v=v by omega]
   rcases k.2 with h2 | ⟨y,hy,h2⟩
   ·omega
   ·rw [List.mem_singleton.1 hy] at h2
    exact .inr ⟨x,by simp,h2⟩
theorem Yqj (l:List Int) (hl:l.length≤65536):∀ (d i n w:Nat),d=l.length-i→i≤l.length→d<n→w≤64→Wd (l.take i) w→
  ∃ v:Nat,FJ.l0 n l (w:Int) (i:Int)=some (v:Int)∧Wd l v:=by
 intro d
 induction d with
 | zero=>
  intro i n w hd hi hn hw h
  have:i=l.length:=by omega
  subst this
  obtain ⟨n,rfl⟩:∃ k,n=k+1:=⟨n-1,by omega⟩
  rw [Ar] at h
  refine ⟨w,?_,h⟩
  show FJ.S0 _ _ _ _=_
  unfold FJ.S0
  rw [AW,AZ (by omega),Ac]
 | succ d ih=>
  intro i n w hd hi hn hw h
  obtain ⟨n,rfl⟩:∃ k,n=k+1:=⟨n-1,by omega⟩
  have AO:i<l.length:=by omega
  obtain ⟨v,h1,h2,h3⟩:=Zzj l[i]
  show ∃ u:Nat,FJ.S0 (FJ.l0 n) _ _ _=_∧_
  unfold FJ.S0
  have hm:EM (w:Int) (v:Int)=((max w v:Nat):Int):=by unfold EM;split <;> omega
  rw [AW,Bl (by omega),Aa,Bf (by omega),Aa,Bz AO,h1,Ad,hm,Bj (by omega)]
  exact ih (i+1) n (max w v) (by omega) (by omega) (by omega) (by omega) (by rw [take_one AO];exact Ypj h h3)
theorem XY (l:List Int) (hl:l.length≤65536):FJ l=some (C2 l:Int):=by
 obtain ⟨v,h1,h2⟩:=Yqj l hl l.length 0 fu 0 (by omega) (by omega) (by unfold fu;omega) (by omega) ⟨fun y hy=>by simp at hy, .inl rfl⟩
 rw [h2.unique (Ic l hl).2.2] at h1
 exact h1
theorem pF:∀ (n:Nat) (s:List Bool),s=[]→DQ n s=List.replicate n 0
 | 0,_,_=>rfl
 | n+1,s,h=>by
  subst h
  rw [P5,List.replicate_succ]
  congr 1
  exact pF n _ rfl
theorem Zet (n:Nat) (A:List Bool) (b:Bool) (h:A.length<8*n):
  DQ n (A++[b])=if b=true then (DQ n A).set (A.length / 8) ((DQ n A).getD (A.length / 8) 0+2 ^ (A.length % 8)) else DQ n A:=by
 have hlen:=LA n A
 have hk:A.length / 8<n:=by omega
 have base:∀ j,j<n→(DQ n (A++[b])).getD j 0=if j=A.length / 8∧b=true then (DQ n A).getD j 0+2 ^ (A.length % 8) else (DQ n A).getD j 0:=by
  intro j hj
  rw [Ax,Ax,Tf n _ j hj,Tf n _ j hj]
  show numOf _=if _ then numOf _+_ else numOf _
  rcases Nat.lt_trichotomy j (A.length / 8) with AO | heq | hgt
  ·rw [if_neg (by omega),List.drop_append_of_le_length (by omega),List.take_append_of_le_length (by rw [List.length_drop];omega)]
  ·rw [List.drop_append_of_le_length (by omega)]
   have D3:(A.drop (8*j)).length=A.length % 8:=by rw [List.length_drop];omega
   rw [AF (by rw [Ae,D3,AG];omega),AF (l:=A.drop (8*j)) (by omega),Yr,D3]
   by_cases hb:b=true
   ·rw [if_pos (⟨heq,hb⟩:j=A.length / 8∧b=true)]
    simp [hb]
   ·rw [if_neg (fun h:j=A.length / 8∧b=true=>hb h.2)]
    simp [hb]
  ·rw [if_neg (by omega),List.drop_eq_nil_of_le (by rw [Ae,AG];omega),List.drop_eq_nil_of_le (by omega)]
 apply List.ext_getElem
 ·split
  ·rw [LA,List.length_set,LA]
  ·rw [LA,LA]
 ·intro j h1 h2
  have hj:j<n:=by rwa [LA] at h1
  have hb:=base j hj
  rw [Ax,Ap h1] at hb
  have hb:(DQ n (A++[b]))[j]=_:=hb
  rw [hb]
  have hg:(DQ n A).getD j 0=(DQ n A)[j]'(by rw [hlen];exact hj):=by rw [Ax,Ap (by rw [hlen];exact hj)];rfl
  by_cases Xg:b=true
  ·subst Xg
   simp only [if_pos]
   rw [List.getElem_set]
   by_cases Oe:A.length / 8=j
   ·rw [if_pos (⟨Oe.symm,trivial⟩:j=A.length / 8∧True),if_pos Oe,Oe]
   ·rw [if_neg (fun h:j=A.length / 8∧True=>Oe h.1.symm),if_neg Oe,hg]
  ·simp only [if_neg Xg]
   rw [if_neg (fun h=>Xg h.2),hg]
theorem Ysx {a:Int} {k:Nat} (hk:k<8) (h0:0≤a) (h1:a<2 ^ k):EI .u8 a (Er .u8 1 (k:Int))=a+2 ^ k:=by
 have:∀ k:Fin 8,∀ a:Fin 256,(a.val:Int)<2 ^ k.val→EI .u8 (a.val:Int) (Er .u8 1 (k.val:Int))=(a.val:Int)+2 ^ k.val:=by decide +kernel
 have h2:(2:Int) ^ k≤2 ^ 8:=by
  have:=Nat.pow_le_pow_right (show 0<2 by omega) (show k≤8 by omega)
  exact_mod_cast this
 rw [show (2:Int) ^ 8=256 from rfl] at h2
 have:=this ⟨k,hk⟩ ⟨a.toNat,by omega⟩
 simp only [show ((a.toNat:Nat):Int)=a by omega] at this
 exact this h1
theorem Zog (a:Nat) (h:a<1000000000000):FE .i64 (a:Int) 8=((a / 8:Nat):Int):=by
 unfold FE
 rw [show Int.tdiv (a:Int) 8=((a / 8:Nat):Int) from rfl]
 exact Hf (by omega)
theorem Yd3 (a:Nat):Po (a:Int) 8=((a % 8:Nat):Int):=rfl
theorem Yrj {l:List Int} {i k:Nat} (hi:i<l.length):wb l[i] (k+1)=wb l[i] k++[bit l[i] k]:=by
 unfold wb
 rw [List.range_succ,AE]
 rfl
theorem Zrp (l:List Int) {w:Nat} (hw:w≤64) (hl:l.length≤65536) {i:Nat} (hi:i<l.length) {o0:List Int→Int→Int→List Int→Option (ByteArray×Int)}:∀ (d k n:Nat),d=w-k→k≤w→d<n→
  CQ.l1 o0 n l (w:Int) (i:Int) (k:Int) (DQ ((l.length*w+7) / 8) (FF (l.take i) w++wb l[i] k))=o0 l (w:Int) ((i:Int)+1) (DQ ((l.length*w+7) / 8) (FF (l.take (i+1)) w)):=by
 intro d
 induction d with
 | zero=>
  intro k n hd hk hn
  have:k=w:=by omega
  subst this
  obtain ⟨n,rfl⟩:∃ j,n=j+1:=⟨n-1,by omega⟩
  show CQ.S1 _ _ _ _ _ _ _=_
  unfold CQ.S1
  rw [AZ (by omega),Ac,Bj (by omega),take_one hi,Yy]
 | succ d ih=>
  intro k n hd hk hn
  obtain ⟨n,rfl⟩:∃ j,n=j+1:=⟨n-1,by omega⟩
  have mP:k<w:=by omega
  have Oi:(FF (l.take i) w++wb l[i] k).length=i*w+k:=by rw [Ae,Rs,Kq,Ag];congr 2;omega
  have h1:i*w+w≤l.length*w:=by
   have:=AJ w (show i+1≤l.length by omega)
   rw [Nat.succ_mul] at this
   exact this
  have h2:l.length*w≤65536*64:=Nat.mul_le_mul hl hw
  have DY:i*w+k<8*((l.length*w+7) / 8):=by omega
  have Zrd:=Zet ((l.length*w+7) / 8) (FF (l.take i) w++wb l[i] k) (bit l[i] k) (by omega)
  rw [Al,← Yrj hi,Oi] at Zrd
  have hlen:=LA ((l.length*w+7) / 8) (FF (l.take i) w++wb l[i] k)
  have FI:AQ .i64 (Cj .i64 (i:Int) (w:Int)) (k:Int)=((i*w+k:Nat):Int):=by
   have e1:Cj .i64 (i:Int) (w:Int)=((i*w:Nat):Int):=by
    rw [show Cj .i64 (i:Int) (w:Int)=IntKind.wrap .i64 ((i:Int)*(w:Int)) from rfl,← Int.natCast_mul]
    exact Hf (by omega)
   rw [e1,Bj (by omega)];omega
  show CQ.S1 o0 (CQ.l1 o0 n) _ _ _ _ _=_
  unfold CQ.S1
  rw [Bl (by omega),Aa,AW,Bf (by omega),Aa,Cq (by omega),Aa,Bz hi,Zmd _ _ (by omega),FI,Zog _ (by omega),Yd3,AW,hlen,Bf (by omega),Cq (by omega),Bj (by omega)]
  have Gs:=ih (k+1) n (by omega) (by omega) (by omega)
  rw [Zrd] at Gs
  by_cases hb:bit l[i] k=true
  ·rw [if_pos hb] at Gs
   rw [hb]
   simp only [Aa]
   have JR:(DQ ((l.length*w+7) / 8) (FF (l.take i) w++wb l[i] k)).getD ((i*w+k) / 8) 0=numOf (((FF (l.take i) w++wb l[i] k).drop (8*((i*w+k) / 8))).take 8):=by
    rw [Ax,Tf _ _ _ (by omega)]
    rfl
   have Gc:=Lu (((FF (l.take i) w++wb l[i] k).drop (8*((i*w+k) / 8))).take 8)
   have FP:(((FF (l.take i) w++wb l[i] k).drop (8*((i*w+k) / 8))).take 8).length=(i*w+k) % 8:=by rw [Ag,List.length_drop,Oi];omega
   rw [FP] at Gc
   rw [show Int.toNat (((i*w+k) / 8:Nat):Int)=(i*w+k) / 8 from rfl,Ysx (by omega) (by rw [JR];exact Gc.1) (by rw [JR];exact Gc.2)]
   exact Gs
  ·rw [if_neg hb] at Gs
   rw [Bool.not_eq_true] at hb
   rw [hb,Ac]
   exact Gs
theorem Zsp (l:List Int) {w:Nat} (hw:w≤64) (hl:l.length≤65536):∀ (d i n:Nat),d=l.length-i→i≤l.length→70<n→
  CQ.l0 (n+d) l (w:Int) (i:Int) (DQ ((l.length*w+7) / 8) (FF (l.take i) w))=some (ofBytes (CK l w),0):=by
 intro d
 induction d with
 | zero=>
  intro i n hd hi hn
  have:i=l.length:=by omega
  subst this
  obtain ⟨n,rfl⟩:∃ k,n=k+1:=⟨n-1,by omega⟩
  show CQ.S0 _ _ _ _ _=_
  unfold CQ.S0
  rw [AW,AZ (by omega),Ac,Ar]
  rfl
 | succ d ih=>
  intro i n hd hi hn
  have AO:i<l.length:=by omega
  show CQ.S0 (CQ.l1 (CQ.l0 (n+d)) (n+d)) _ _ _ _=_
  unfold CQ.S0
  rw [AW,Bl (by omega),Aa]
  have:=Zrp l hw hl AO (o0:=CQ.l0 (n+d)) w 0 (n+d) (by omega) (by omega) (by omega)
  rw [tV,Ay] at this
  rw [show (0:Int)=((0:Nat):Int) from rfl,this]
  exact ih (i+1) n (by omega) (by omega) (by omega)
theorem Zak (n w:Nat) (hn:n≤65536) (hw:w≤64):PY (n:Int) (w:Int)=(((n*w+7) / 8:Nat):Int):=by
 unfold PY
 by_cases h0:n=0
 ·subst h0
  rw [Bl (by omega),Aa,Nat.zero_mul]
  rfl
 ·rw [AZ (by omega),Ac,AZ (by omega),Ac]
  by_cases h1:w=0
  ·subst h1
   rw [Bl (by omega),Aa,Nat.mul_zero]
   rfl
  ·have h2:n*w≤65536*64:=Nat.mul_le_mul hn hw
   have e1:Cj .i64 (n:Int) (w:Int)=((n*w:Nat):Int):=by
    rw [show Cj .i64 (n:Int) (w:Int)=IntKind.wrap .i64 ((n:Int)*(w:Int)) from rfl,← Int.natCast_mul]
    exact Hf (by omega)
   rw [AZ (by omega),Ac,AZ (by omega),Ac,e1,Bj (by omega),show ((n*w:Nat):Int)+7=((n*w+7:Nat):Int) by omega,Zog _ (by omega)]
theorem Yc (l:List Int) {w:Nat} (hw:w≤64) (hl:l.length≤65536) (hvw:C2 l≤w):CQ l (w:Int)=some (ofBytes (CK l w),0):=by
 have h2:l.length*w≤65536*64:=Nat.mul_le_mul hl hw
 show CQ.S (CQ.l0 fu) l (w:Int)=_
 unfold CQ.S
 rw [AZ (by omega),Ac,AZ (by omega),Ac,AW,AZ (by omega),Ac,XY l hl,Ad,AZ (by omega),Ac,Zak _ _ hl hw]
 dsimp only
 rw [Cq (by omega),B7 (by show (l.length*w+7) / 8*1≤_;omega)]
 have:=Zsp l hw hl l.length 0 (fu-l.length) (by omega) (by omega) (by unfold fu;omega)
 rw [show fu-l.length+l.length=fu by unfold fu;omega,List.take_zero,show FF [] w=[] from rfl,pF _ _ rfl] at this
 exact this
theorem nX (p:List Int) (hl:p.length≤65536):UH p=some (ofBytes (CK p (C2 p))):=by
 unfold UH
 rw [XY p hl,Ad,Yc p (Ic p hl).2.1 hl (Ah _)]
 rfl
theorem Ztp (l:List Cell) (c:Cell):D2 (l++[c])=D2 l++[if CO c then 1 else 0]:=by unfold D2;rw [AE];rfl
theorem Zcm (l:List Cell) (hl:l.length≤65536):∀ (d i n:Nat),d=l.length-i→i≤l.length→d<n→
  DG.l0 (DG.t1 fu) n l (Br (l.take i)) (D2 (l.take i)) (i:Int)=DG.S1 l (Br l) (D2 l):=by
 intro d
 induction d with
 | zero=>
  intro i n hd hi hn
  have:i=l.length:=by omega
  subst this
  obtain ⟨n,rfl⟩:∃ k,n=k+1:=⟨n-1,by omega⟩
  show DG.S0 DG.S1 _ _ _ _ _=_
  unfold DG.S0
  rw [AW,AZ (by omega),Ac,Ar]
 | succ d ih=>
  intro i n hd hi hn
  obtain ⟨n,rfl⟩:∃ k,n=k+1:=⟨n-1,by omega⟩
  have AO:i<l.length:=by omega
  have h1:=J0 (l.take i)
  rw [Ag] at h1
  have Gs:=ih (i+1) n (by omega) (by omega) (by omega)
  rw [take_one AO,UO,Ztp] at Gs
  show DG.S0 (DG.t1 fu) (DG.l0 (DG.t1 fu) n) _ _ _ _=_
  unfold DG.S0
  rw [AW,Bl (by omega),Aa,Bf (by omega),Aa,Bz AO,B7 (by rw [Ib,Ag];omega),Aa,Aa,Aa,B7 (by omega),Aa,Bj (by omega)]
  by_cases hz:CO l[i]=true
  ·have JS:l[i].1=0:=Ak (show decide (l[i].1=0)=true from hz)
   rw [if_pos hz,if_pos hz,Ay] at Gs
   rw [B0 JS,Aa]
   exact Gs
  ·have JS:¬ l[i].1=0:=fun h=>hz (Af h)
   rw [if_neg hz,if_neg hz] at Gs
   rw [BU JS,Ac]
   exact Gs
theorem Zup (l:List Cell) (hl:l.length≤65536):C2 (D2 l)≤1:=by
 obtain ⟨_,_,h1,h2⟩:=Ic (D2 l) (by rw [Ib];exact hl)
 rcases h2 with h2 | ⟨x,hx,h2⟩
 ·omega
 ·have hx:=U5 x hx
  by_cases h:C2 (D2 l)≤1
  ·exact h
  ·have:(2:Int) ^ 1≤2 ^ (C2 (D2 l)-1):=by
    have:=Nat.pow_le_pow_right (show 0<2 by omega) (show 1≤C2 (D2 l)-1 by omega)
    exact_mod_cast this
   rw [show (2:Int) ^ 1=2 from rfl] at this
   omega
theorem od (l:List Cell) (hl:l.length≤65536):DG l=some (ofBytes (D6 l),Br l):=by
 have h:=Zcm l hl l.length 0 fu (by omega) (by omega) (by unfold fu;omega)
 rw [List.take_zero] at h
 refine Eq.trans (show DG l=_ from h) ?_
 have hle:=J0 l
 unfold DG.S1 D6
 rw [AW,AW]
 by_cases hf:(Br l).length=l.length
 ·rw [B0 (by omega),Aa,(qf hf).2]
  rfl
 ·have Nd:l.any CO=true:=by
   cases ha:l.any CO with
   | true=>rfl
   | false=>
    exfalso
    apply hf
    unfold Br
    rw [List.filter_eq_self.2 fun c hc=>by
     have:=List.any_eq_false.1 ha c hc
     simpa using this]
  rw [BU (by omega),Ac,Nd,if_pos rfl,show (1:Int)=((1:Nat):Int) from rfl,Yc (D2 l) (by omega) (by rw [Ib];exact hl) (Zup l hl)]
  rfl
theorem Zin (l:List Cell) (hl:l.length≤65536):∀ (d i n:Nat),d=l.length-i→i≤l.length→d<n→
  GC.l0 n l (J6 (l.take i)) (i:Int)=some (J6 l):=by
 intro d
 induction d with
 | zero=>
  intro i n hd hi hn
  have:i=l.length:=by omega
  subst this
  obtain ⟨n,rfl⟩:∃ k,n=k+1:=⟨n-1,by omega⟩
  show GC.S0 _ _ _ _=_
  unfold GC.S0
  rw [AW,AZ (by omega),Ac,Ar]
 | succ d ih=>
  intro i n hd hi hn
  obtain ⟨n,rfl⟩:∃ k,n=k+1:=⟨n-1,by omega⟩
  have AO:i<l.length:=by omega
  have Gs:=ih (i+1) n (by omega) (by omega) (by omega)
  rw [take_one AO,show J6 (l.take i++[l[i]])=J6 (l.take i)++[l[i].2.1] from AE] at Gs
  show GC.S0 (GC.l0 n) _ _ _=_
  unfold GC.S0
  rw [AW,Bl (by omega),Aa,Bf (by omega),Aa,Bz AO,B7 (by rw [Ai,Ag];omega),Aa,Bj (by omega)]
  exact Gs
theorem Zvk (l:List Cell) (hl:l.length≤65536):GC l=some (J6 l):=Zin l hl l.length 0 fu (by omega) (by omega) (by unfold fu;omega)
theorem Zdm (l:List Cell) (hl:l.length≤65536):∀ (d i n:Nat),d=l.length-i→i≤l.length→d<n→
  GB.l0 n l (KW (l.take i)) (i:Int)=some (KW l):=by
 intro d
 induction d with
 | zero=>
  intro i n hd hi hn
  have:i=l.length:=by omega
  subst this
  obtain ⟨n,rfl⟩:∃ k,n=k+1:=⟨n-1,by omega⟩
  show GB.S0 _ _ _ _=_
  unfold GB.S0
  rw [AW,AZ (by omega),Ac,Ar]
 | succ d ih=>
  intro i n hd hi hn
  obtain ⟨n,rfl⟩:∃ k,n=k+1:=⟨n-1,by omega⟩
  have AO:i<l.length:=by omega
  have Gs:=ih (i+1) n (by omega) (by omega) (by omega)
  rw [take_one AO,show KW (l.take i++[l[i]])=KW (l.take i)++[l[i].2.2] from AE] at Gs
  show GB.S0 (GB.l0 n) _ _ _=_
  unfold GB.S0
  rw [AW,Bl (by omega),Aa,Bf (by omega),Aa,Bz AO,B7 (by rw [Ai,Ag];omega),Aa,Bj (by omega)]
  exact Gs
theorem Zyj (l:List Cell) (hl:l.length≤65536):GB l=some (KW l):=Zdm l hl l.length 0 fu (by omega) (by omega) (by unfold fu;omega)
end Go.AM.Pure
end
