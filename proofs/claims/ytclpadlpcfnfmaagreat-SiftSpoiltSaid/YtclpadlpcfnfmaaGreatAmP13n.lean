import Derived.Test.YtclpadlpcfnfmaaGreatAmP13
section
/- What a dictionary is: the distinct values, rising, and of each value its place; of texts by dict.Of. -/
namespace Go.AM.Pure
open Go.AM
section
variable {α : Type} {c : α -> α -> Int}
def NN (c:α->α->Int) (d:List α):Prop:=d.Pairwise λ a b=>c a b = -1
def Ie (c:α->α->Int) (d l:List α):Prop:=NN c d/\∀ x,x∈d↔x∈l
theorem NN.at {d:List α} (h:NN c d) {i j:Nat} (Mh:i<j) (hj:j<d.length):c (d[i]'Ad) d[j] = -1:=List.pairwise_iff_getElem.1 h i j Ad hj Mh
theorem Ord3.self (o:Ord3 c) (a:α):c a a=0:=(o.eq0 a a).2 rfl
theorem Ord3.asym (o:Ord3 c) {a b:α} (h:c a b = -1):¬ c b a = -1:=by rw [o.neg,h];decide
theorem wa (o:Ord3 c):∀ {d e:List α},NN c d->NN c e->(∀ x,x∈d↔x∈e)->d=e
 | [],[],_,_,_=>rfl
 | [],b :: e,_,_,h=>absurd ((h b).2 (AI ..)) Ah
 | a :: d,[],_,_,h=>absurd ((h a).1 (AI ..)) Ah
 | a :: d,b :: e,h1,h2,h=>by
  obtain ⟨p1,p2⟩:=List.pairwise_cons.1 h1;obtain ⟨q1,q2⟩:=List.pairwise_cons.1 h2;have MV:a=b:=by
   rcases List.mem_cons.1 ((h a).1 (AI ..)) with x | x
   ·exact x
   ·rcases List.mem_cons.1 ((h b).2 (AI ..)) with y | y
    ·exact y.symm
    ·exact absurd (q1 a x) (o.asym (p1 b y))
  subst MV;have:d=e:=wa o p2 q2 λ x=>by
   constructor
   ·intro hx;rcases List.mem_cons.1 ((h x).1 (AP _ hx)) with y | y
    ·have:=p1 x hx;rw [y,o.self] at this;exact absurd this Af
    ·exact y
   ·intro hx;rcases List.mem_cons.1 ((h x).2 (AP _ hx)) with y | y
    ·have:=q1 x hx;rw [y,o.self] at this;exact absurd this Af
    ·exact y
  rw [this]
theorem Ie.uniq (o:Ord3 c) {d e l:List α} (h:Ie c d l) (k:Ie c e l):d=e:=wa o h.1 k.1 λ x=>(h.2 x).trans (k.2 x).symm
theorem Ie.pos {d l:List α} (h:Ie c d l) (h0:0<l.length):0<d.length:=List.length_pos_of_mem ((h.2 _).2 (Ay h0))
variable [DecidableEq α]
def idx (d:List α) (v:α):Nat:=d.idxOf v
theorem Rv {d:List α} {v:α} (h:v∈d):idx d v<d.length:=List.idxOf_lt_length_iff.2 h
theorem WZ {d:List α} {v:α} (h:idx d v<d.length):d[idx d v]=v:=List.getElem_idxOf h
def IZ (d l:List α):List Int:=l.map λ v=>(idx d v:Int)
theorem JZ (d l:List α):(IZ d l).length=l.length:=by unfold IZ;rw [Av]
theorem Nb {d l:List α} (h:Ie c d l):∀ x∈IZ d l,0<=x/\x<(d.length:Int):=λ x hx=>by
 unfold IZ at hx;obtain ⟨v,hv,rfl⟩:=List.mem_map.1 hx;have:=Rv ((h.2 v).2 hv);omega
omit [DecidableEq α] in
theorem NN.inj (o:Ord3 c) {d:List α} (h:NN c d) {i j:Nat} (hi:i<d.length) (hj:j<d.length) (he:d[i]=d[j]):i=j:=by
 rcases Nat.lt_trichotomy i j with k | k | k
 ·have:=h.at k hj;rw [he,o.self] at this;exact absurd this Af
 ·exact k
 ·have:=h.at k hi;rw [he,o.self] at this;exact absurd this Af
theorem yp (o:Ord3 c) {d l:List α} (h:Ie c d l) {k:Nat} (hk:k<d.length):(k:Int)∈IZ d l:=by
 have h1:=Rv (Ay hk);refine List.mem_map.2 ⟨_,(h.2 _).1 (Ay hk),?_⟩;have h2:=WZ h1;rw [h.1.inj o h1 hk h2]
theorem Zef (o:Ord3 c) {d l:List α} (h:Ie c d l) (h0:0<l.length) {v:Nat} (hw:Wd [(d.length:Int)-1] v) (hl:d.length<=65536):Wd (IZ d l) v:=by
 have TG:=h.pos h0;obtain ⟨h1,h2⟩:=hw;have h1:=h1 _ (List.mem_singleton.2 rfl);constructor
 ·intro x hx;have:=Nb h x hx;omega
 ·rcases h2 with h2 | ⟨x,hx,h2⟩
  ·exact .inl h2
  ·have hx:=List.mem_singleton.1 hx;subst hx;right;have:=yp o h (k:=d.length-1) Ad;refine ⟨_,this,?_⟩;rw [show ((d.length-1:Nat):Int)=(d.length:Int)-1 by omega];exact h2
theorem WI {d l:List α} (h:Ie c d l) (z:α):(IZ d l).map (λ x=>d.getD x.toNat z)=l:=by
 unfold IZ;rw [List.map_map]
 conv=>rhs;rw [<- List.map_id l]
 apply List.map_congr_left;intro v hv;have hk:=Rv ((h.2 v).2 hv);show d.getD (((idx d v:Nat):Int)).toNat z=v;rw [show (((idx d v:Nat):Int)).toNat=idx d v from rfl,AK,AD hk];exact WZ hk
theorem jH {d l:List α} {i:Nat} (h:i<l.length):(IZ d l)[i]'(by rw [JZ];exact h)=(idx d l[i]:Int):=by
 have h2:(IZ d l)[i]? = some (idx d l[i]:Int):=by
  unfold IZ;rw [List.getElem?_map,AD h,Option.map_some]
 rw [AD (by rw [JZ];exact h)] at h2;exact Option.some.inj h2
end
theorem Zsm:∀ a b:List UInt8,a<b↔Lib.compareBytes a b = -1
 | [],[]=>by simp [Lib.compareBytes]
 | [],_ :: _=>by simp [Lib.compareBytes]
 | _ :: _,[]=>by simp [Lib.compareBytes]
 | a :: x,b :: y=>by
  rw [List.cons_lt_cons_iff,Zsm x y,show Lib.compareBytes (a :: x) (b :: y)=if a<b then -1 else if b<a then 1 else Lib.compareBytes x y from rfl];by_cases h:a<b
  ·simp [h]
  ·by_cases k:b<a
   ·have:¬ a=b:=by rintro rfl;exact absurd k (UInt8.lt_irrefl _)
    simp [h,k,this]
   ·have:a=b:=UInt8.le_antisymm (UInt8.not_lt.1 k) (UInt8.not_lt.1 h);subst this;simp only [h,if_neg,not_false_eq_true,false_or,true_and]
theorem df (a b:List UInt8):a<=b↔¬ Lib.compareBytes a b=1:=by
 rw [show (a<=b) = ¬ (b<a) from rfl,Zsm,Xd a b];rcases O0 a b with h | h | h <;> rw [h] <;> decide
abbrev tb (s:ByteArray):List UInt8:=s.data.toList
theorem uw (s:ByteArray):Nf (tb s)=s:=by cases s;rfl
abbrev Qs (l:List ByteArray):List (List UInt8):=(l.map tb).mergeSort λ x y=>decide (x<=y)
def BO (l:List ByteArray):List ByteArray:=(Lib.compact (Qs l)).map Nf
theorem N1 (l:List ByteArray):Ie Ir (BO l) l:=by
 have hs:=List.pairwise_mergeSort (le:=λ x y:List UInt8=>decide (x<=y)) (λ a b d h1 h2=>by
  simp only [decide_eq_true_eq] at *;rw [df] at *;intro h;rcases O0 a b with k | k | k
  ·rcases O0 b d with m | m | m
   ·rw [c8 a b d k m] at h;exact absurd h Af
   ·rw [<- (Qh b d).1 m,k] at h;exact absurd h Af
   ·exact h2 m
  ·rw [(Qh a b).1 k] at h;exact h2 h
  ·exact h1 k) (λ a b=>by
  simp only [Bool.or_eq_true,decide_eq_true_eq];rw [df,df,Xd a b]
  rcases O0 a b with k | k | k <;> rw [k] <;> decide) (l.map tb)
 have h:=rZ (le:=λ a b:List UInt8=>¬ Lib.compareBytes a b=1) (λ a=>by rw [(Qh a a).2 rfl];decide) (λ a b d h1 h2 h=>by
  rcases O0 a b with k | k | k
  ·rcases O0 b d with m | m | m
   ·rw [c8 a b d k m] at h;exact absurd h Af
   ·rw [<- (Qh b d).1 m,k] at h;exact absurd h Af
   ·exact h2 m
  ·rw [(Qh a b).1 k] at h;exact h2 h
  ·exact h1 k) (λ a b h1 h2=>by
  rw [Xd a b] at h2;rcases O0 a b with k | k | k
  ·rw [k] at h2;exact absurd rfl h2
  ·exact (Qh a b).1 k
  ·exact absurd k h1) (hs.imp λ h=>(df _ _).1 (Az h))
 constructor
 ·unfold NN BO;rw [List.pairwise_map];refine h.1.imp λ {a b} MV=>?_
  show Lib.compareBytes a b = -1;rcases O0 a b with k | k | k
  ·exact k
  ·exact absurd ((Qh a b).1 k) MV.2
  ·exact absurd k MV.1
 ·intro x;unfold BO;rw [List.mem_map];constructor
  ·rintro ⟨b,hb,rfl⟩;obtain ⟨s,hs,rfl⟩:=List.mem_map.1 (List.mem_mergeSort.1 ((h.2 b).1 hb));rw [uw];exact hs
  ·intro hx;exact ⟨tb x,(h.2 _).2 (List.mem_mergeSort.2 (List.mem_map.2 ⟨x,hx,rfl⟩)),uw x⟩
theorem Znw {β:Type} [Inhabited β] [DecidableEq β] (z:List β):(Lib.compact z).length<=z.length:=by
 unfold Lib.compact Lib.compactUpTo;rw [Av];exact Nat.le_trans (List.length_filter_le _ _) (by rw [List.length_range];exact Au _)
theorem Mx (l:List ByteArray):(BO l).length<=l.length:=by
 unfold BO;rw [Av];have:=Znw (Qs l)
 rwa [List.length_mergeSort,Av] at this
theorem Yzd (x y:ByteArray):cmp_Less_string x y=decide (Ir x y = -1):=by
 unfold cmp_Less_string;have:cmp_isNaN_string x=false:=by
  show (!(Cz x x))=false;rw [Gp rfl];rfl
 rw [this,c9];rfl
theorem Yae (d:List ByteArray) (hl:d.length<1000000000) (hd:NN Ir d) {k:Nat} (hk:k<d.length):∀ (g i j n:Nat),g=j-i->i<=k->k<=j->j<=d.length->g<n->
  EI.l0 (EI.t1 fu) n d d[k] (d.length:Int) (i:Int) (j:Int)=some ((k:Int),true):=by
 intro g;induction g using Nat.strongRecOn with
 | ind g ih=>
 intro i j n hg hi hj Ov hn;obtain ⟨n,rfl⟩:=Aa n;show EI.S0 EI.S1 (EI.l0 (EI.t1 fu) n) _ _ _ _ _=_;unfold EI.S0;by_cases Mh:i<j
 ·have hh:IntKind.wrap .i64 (B7 .u64 (IntKind.wrap .u64 (A7 .i64 (i:Int) (j:Int))) 1)=(((i+j) / 2:Nat):Int):=by
   have h1:IntKind.wrap .u64 ((i:Int)+(j:Int))=((i+j:Nat):Int):=by rw [E6];omega
   have h2:=Ns ((i+j:Nat):Int) 1 Ad;rw [show ((1:Nat):Int)=1 from rfl,Int.pow_succ,Int.pow_zero,Int.one_mul] at h2;rw [Bk,h1,h2,FH];omega
  have hm:(i+j) / 2<d.length:=Ad
  rw [Bw,Ak,hh,Bq,Ak,BE hm,Yzd,Bk];by_cases AY:(i+j) / 2<k
  ·rw [Aq (hd.at AY hk),Ak];exact ih (j-((i+j) / 2+1)) Ad ((i+j) / 2+1) j n rfl Ad hj Ov Ad
  ·have:¬ Ir d[(i+j) / 2] d[k] = -1:=by
    by_cases he:k=(i+j) / 2
    ·rw [show d[(i+j) / 2]=d[k] from getElem_congr_idx he.symm,MB.self];decide
    ·exact MB.asym (hd.at (show k<(i+j) / 2 by omega) hm)
   rw [Ax this,Al];exact ih ((i+j) / 2-i) Ad i ((i+j) / 2) n rfl hi Ad Ad Ad
 ·have:i=k:=Ad
  subst this;rw [Be,Al];unfold EI.S1;rw [Bw,Ak,Bq,Ak,BE hk,Gp rfl];rfl
theorem Ys3 (d:List ByteArray) (hl:d.length<1000000000) (hd:NN Ir d) {v:ByteArray} (hv:v∈d):EI d v=some ((idx d v:Int),true):=by
 have hk:=Rv hv;have hg:=WZ hk;have:=Yae d hl hd hk d.length 0 d.length fu Ad Ad Ad Ad Ae;rw [hg] at this;exact this
abbrev BW (l:List ByteArray):List Int:=IZ (BO l) l
theorem Zow (l:List ByteArray) (hl:l.length<=65536) (lo:Nat) (t:List ByteArray) (ht:List.take (BO l).length (List.drop lo t)=BO l):∀ (d i n:Nat),d=l.length-i->i<=l.length->d<n->
  Gh.l0 n lo (BO l).length ((BW l).take i) l (l.length:Int) (i:Int) t=some (BO l,BW l):=by
 have CT:(BW l).length=l.length:=JZ _ _;have Ej:=Mx l;intro d;induction d with
 | zero=>
  intro i n hd hi hn;have:i=l.length:=Ad
  subst this;obtain ⟨n,rfl⟩:=Aa n;show Gh.S0 _ _ _ _ _ _ _ _=_;unfold Gh.S0;rw [Be,Al,ht,AL Ad]
 | succ d ih=>
  intro i n hd hi hn;obtain ⟨n,rfl⟩:=Aa n;have AY:i<l.length:=Ad
  show Gh.S0 (Gh.l0 n) _ _ _ _ _ _ _=_;unfold Gh.S0;rw [Bw,Ak,Bq,Ak,BE AY,ht,Ys3 _ Ad (N1 l).1 (((N1 l).2 _).2 (Ay AY)),An,Cp (by rw [Ar];omega),Ak,Bk];have:=ih (i+1) n Ad Ad Ad;rw [take_one Ad,jH AY] at this;exact this
theorem rz (l:List ByteArray) (hl:l.length<=65536) (h0:0<l.length):Gh l=some (BO l,BW l):=by
 show Gh.S (Gh.l0 fu) l=_;unfold Gh.S;have hc:Lp 16 l=some l:=by
  unfold Lp;rw [Aq h0,Cp Ad];rfl
 have hs:XS l=some ((Qs l).map Nf):=by
  unfold XS;rw [Aq Ad];rfl
 have Lg:((Qs l).map Nf).length=l.length:=by rw [Av,List.length_mergeSort,Av]
 have Ej:=Mx l;have e9:((Qs l).map Nf).map (λ s:ByteArray=>s.data.toList)=Qs l:=by
  rw [List.map_map];exact List.map_id _
 have hdd:(Lib.compact (Qs l)).length=(BO l).length:=by unfold BO;rw [Av]
 have qm:XT ((Qs l).map Nf)=some (((BO l).length:Int),BO l++(List.replicate (l.length-(BO l).length) []).map Nf):=by
  unfold XT;rw [Aq Ad,e9,Lg,hdd,AG];rfl
 rw [hc,An,Sk (x:=(Qs l).map Nf) (by rw [Aq h0];rfl) hs (by rw [Lg];simp),An,
  Sk (by rw [Aq Ad];rfl) qm (by
   dsimp only;rw [Ap,Av,AO,Lg,Aq Ad]
   rfl),An]
 dsimp only;rw [show Int.toNat ((BO l).length:Int)=(BO l).length from rfl,Ba];exact Zow l hl 0 _ (by rw [List.drop_zero,List.take_left]) l.length 0 fu Ad Ad Ae
end Go.AM.Pure
end

section
/- Texts as they are, and by a dictionary: what is put, and what is taken of it. -/
namespace Go.AM.Pure
open Go.AM
def tB (s:ByteArray):List Int:=(s.size:Int) :: Bu s
def Cd (l:List ByteArray):List Int:=l.flatMap tB
def Et (l:List ByteArray):Prop:=∀ s∈l,s.size<=32
theorem Wm (x:ByteArray) (d:List ByteArray):Cd (x :: d)=tB x++Cd d:=rfl
theorem Wl (d:List ByteArray) (x:ByteArray):Cd (d++[x])=Cd d++tB x:=by unfold Cd;simp
theorem O1 (s:ByteArray):(tB s).length=1+s.size:=by unfold tB;rw [Aw,C6];omega
theorem Yr3 {s:ByteArray} (h:s.size<=32):∀ b∈tB s,0<=b/\b<256:=λ b hb=>by
 rcases List.mem_cons.1 hb with rfl | hb
 ·omega
 ·exact Zsv s b hb
theorem Lk:∀ (d:List ByteArray),Et d->(Cd d).length<=33*d.length
 | [],_=>by simp [Cd]
 | x :: d,h=>by
  have:=Lk d λ s hs=>h s (AP _ hs)
  have h1:=O1 x;have h2:=h x (AI ..);rw [Wm,Ap,Aw];omega
theorem Ws:∀ (d:List ByteArray),Et d->∀ b∈Cd d,0<=b/\b<256
 | [],_,b,h=>by cases h
 | x :: d,hs,b,h=>by
  rw [Wm] at h;rcases List.mem_append.1 h with h | h
  ·exact Yr3 (hs x (AI ..)) b h
  ·exact Ws d (λ s h=>hs s (AP _ h)) b h
theorem Et.take {l:List ByteArray} (h:Et l) (i:Nat):Et (l.take i):=λ s hs=>h s (List.mem_of_mem_take hs)
theorem Et.JC {l:List ByteArray} (h:Et l):Et (BO l):=λ s hs=>h s (((N1 l).2 s).1 hs)
theorem ix {l:List ByteArray} {i:Nat} (h:i<l.length):Cd l=Cd (l.take i)++(tB l[i]++Cd (l.drop (i+1))):=by
 have:l=l.take i++l[i] :: l.drop (i+1):=by rw [<- List.drop_eq_getElem_cons h,List.take_append_drop]
 have h2:Cd l=Cd (l.take i++l[i] :: l.drop (i+1)):=congrArg Cd this;rw [h2];unfold Cd;rw [List.flatMap_append,List.flatMap_cons]
theorem Zrz (b:Bool×List Int) (c:Int) (h:b.2.length<100000000000):Zj b c=some (true,false,b.2++[c]):=by
 unfold Zj;show (bif B1 (b.2.length+1) 1 then _ else _)=_;rw [Cp Ad];rfl
theorem Zm3 (o:List ByteArray) (hl:o.length<=65536) (hs:Et o):∀ (d i n:Nat) (f:Bool),d=o.length-i->i<=o.length->d<n->
  GO.l0 n o (o.length:Int) (i:Int) (f,Cd (o.take i))=some (ofBytes (Cd o),0):=by
 intro d;induction d with
 | zero=>
  intro i n f hd hi hn;have:i=o.length:=Ad
  subst this;obtain ⟨n,rfl⟩:=Aa n;show GO.S0 _ _ _ _ _=_;unfold GO.S0;rw [Be,Al,AB,ir _ _ (Ws o hs)];rfl
 | succ d ih=>
  intro i n f hd hi hn;obtain ⟨n,rfl⟩:=Aa n;have AY:i<o.length:=Ad
  have h1:=Lk (o.take i) (hs.take i);rw [Ar] at h1;have h2:=hs o[i] (Ay AY);show GO.S0 (GO.l0 n) _ _ _ _=_;unfold GO.S0
  rw [Bw,Ak,Bq,Ak,BE AY,Cc,Be,Al,Zrz _ _ (by show (Cd _).length<_;omega),An,
   ZZ _ _ (by show (Cd _++[_]).length+_<_;rw [Ap,AN];omega),An,Bk,KZ,show (o[i].size:Int) % 256=(o[i].size:Int) by omega]
  have:=ih (i+1) n false Ad Ad Ad;rw [take_one AY,Wl,show Cd (o.take i)++tB o[i]=Cd (o.take i)++[(o[i].size:Int)]++Bu o[i] by unfold tB;simp] at this;exact this
theorem fR (o:List ByteArray) (hl:o.length<=65536) (hs:Et o):GO o=some (ofBytes (Cd o),0):=
 Zm3 o hl hs o.length 0 fu true Ad Ad Ae
theorem Ymw {s:ByteArray} {a b r:List Int} (hs:Bu s=a++(b++r)):cutS s (a.length:Int) ((a.length+b.length:Nat):Int)=ofBytes b:=by
 have:=gq s a.length (a.length+b.length);rw [hs,List.drop_left,Nat.add_sub_cancel_left,List.take_left] at this;rw [<- LQ (cutS s _ _),this]
structure TextAt (s:ByteArray) (p:Nat) (t:ByteArray):Prop where
 at0:byteAt s (p:Int)=(t.size:Int)
 fit:p+1+t.size<=s.size
 cut:cutS s ((p+1:Nat):Int) ((p+1+t.size:Nat):Int)=t
theorem aT {s t:ByteArray} {pre rest:List Int} (hs:Bu s=pre++(tB t++rest)):TextAt s pre.length t where
 at0:=NZ hs (i:=pre.length) (by rw [AJ (Au _),Nat.sub_self];rfl)
 fit:=by
  have:=congrArg List.length hs;rw [C6,Ap,Ap,O1] at this;omega
 cut:=by
  have h2:Bu s=(pre++[(t.size:Int)])++(Bu t++rest):=by rw [hs];unfold tB;simp
  have:=Ymw h2;rw [Ap,AN,C6] at this;rw [this,LQ]
theorem Zsz (l:List ByteArray) (hl:l.length<=65536) (CL:Et l):∀ (d i n:Nat) (s:ByteArray),d=l.length-i->i<=l.length->d<n->Bu s=Cd (l.drop i)->
  Dm.l0 (Dm.t1 fu) n s (l.length:Int) (l.take i)=some (l,0):=by
 intro d;induction d with
 | zero=>
  intro i n s hd hi hn hs;have:i=l.length:=Ad
  subst this;obtain ⟨n,rfl⟩:=Aa n;rw [List.drop_length] at hs;have he:s=eB:=Gx.2 (by rw [<- C6,hs];rfl);show Dm.S0 Dm.S1 _ _ _ _=_;unfold Dm.S0;rw [Gp he,Bool.not_true,Al,AB];unfold Dm.S1;rw [Ba,Cs rfl,Al]
 | succ d ih=>
  intro i n s hd hi hn hs;obtain ⟨n,rfl⟩:=Aa n;have AY:i<l.length:=Ad
  rw [List.drop_eq_getElem_cons AY,Wm] at hs;have ht:=aT (pre:=[]) (t:=l[i]) (rest:=Cd (l.drop (i+1))) hs;have TI:=CL l[i] (Ay AY);have hf:=ht.fit;have h0:=ht.at0;have hc:=ht.cut;rw [List.length_nil] at hf h0 hc;have Cg:s≠eB:=λ he=>by have:=Gx.1 he;omega
  have RD:Bu (cutS s ((1+l[i].size:Nat):Int) (Bg s))=Cd (l.drop (i+1)):=by
   have:=JX hs
   rwa [O1] at this
  have BL:s.size<=33*l.length:=by
   have k1:=Lk (l.drop i) λ t ht=>CL t (List.mem_of_mem_drop ht)
   rw [List.drop_eq_getElem_cons AY,Wm,<- hs,C6,Aw,List.length_drop] at k1;omega
  show Dm.S0 (Dm.t1 fu) (Dm.l0 (Dm.t1 fu) n) _ _ _=_;unfold Dm.S0;rw [show ((0:Nat):Int)=0 from rfl] at h0;rw [K6 Cg,Bool.not_false,Ak,Cc,Bq,Ak,h0,FH,Be,Al,Gc,Al,Bk,show (1:Int)+(l[i].size:Int)=((1+l[i].size:Nat):Int) by omega,Dg Ad,Ak,Cp (by rw [Ar];omega),Ak,Dg Ad,Ak];rw [Cc] at RD;rw [show 0+1+l[i].size=1+l[i].size by omega,show ((0+1:Nat):Int)=1 from rfl] at hc;rw [hc];have:=ih (i+1) n _ Ad Ad Ad RD;rw [take_one AY] at this;exact this
theorem Ztr (l:List ByteArray) (hl:l.length<=65536) (CL:Et l) {s:ByteArray} (hs:Bu s=Cd l):Dm s (l.length:Int)=some (l,0):=
 Zsz l hl CL l.length 0 fu s Ad Ad Ae (by rw [List.drop_zero];exact hs)
def Lo (l:List ByteArray) (v:Nat):List Int:=if l.length=0 then [] else vB ((BO l).length:Int)++(Cd (BO l)++CR (BW l) v)
theorem Zes (l:List ByteArray) (hl:l.length<=65536) (CL:Et l) {v:Nat} (hv:Ez (BW l)=some (v:Int)) (BH:v<=64):Zu l=some (ofBytes (Lo l v),0):=by
 unfold Zu fJ Lo;rw [Ba,Be,Al];by_cases h0:l.length=0
 ·rw [Ci,Ak,if_pos h0];rfl
 ·have Ej:=Mx l;have CT:(BW l).length=l.length:=JZ _ _;have hb:(BW l).length*v<=65536*64:=Nat.mul_le_mul Ad BH;have NJ:=I8 (BW l) v;have k1:=Fs ((BO l).length:Int);have k2:=Lk _ CL.JC;rw [Ca,Al,if_neg h0,rz l hl Ad,An];dsimp only;rw [fR _ Ad CL.JC,An];dsimp only;rw [Cs rfl,Al,hv,An,Wk (BW l) BH Ad hv (Au _),An,Ba,PL,An,Jn,GV];dsimp only;have r1:Dh (ofBytes (vB ((BO l).length:Int))) (ofBytes (Cd (BO l)))=true:=Aq (by rw [CE,CE];omega);have r2:Dh (ofBytes (vB ((BO l).length:Int)++Cd (BO l))) (ofBytes (CR (BW l) v))=true:=Aq (by rw [CE,CE,Ap];omega);rw [r1,r2,GV,Ak,Ak,AA];rfl
theorem Yyd {s t:ByteArray} {rest:List Int} (TI:t.size<=32) (hs:Bu s=tB t++rest) (BL:s.size<100000000):Ub s=some (t,((tB t).length:Int)):=by
 have ht:=aT (pre:=[]) hs;have hf:=ht.fit;have h0:=ht.at0;have hc:=ht.cut;rw [List.length_nil] at hf h0 hc;have Cg:s≠eB:=λ he=>by have:=Gx.1 he;omega
 rw [show ((0:Nat):Int)=0 from rfl] at h0;rw [show 0+1+t.size=1+t.size by omega,show ((0+1:Nat):Int)=1 from rfl] at hc;unfold Ub;rw [K6 Cg,Al,Cc,Bq,Ak,h0,FH,Be,Al,Gc,Al,Bk,show (1:Int)+(t.size:Int)=((1+t.size:Nat):Int) by omega,Dg Ad,Ak,hc,O1]
theorem Zn3 {D:List ByteArray} (hD:D.length<=65536) (Vw:NN Ir D) (TI:Et D) {s:ByteArray} {pre tail:List Int} (hs:Bu s=pre++(Cd D++tail)) (BL:s.size<100000000) {o1:ByteArray->Int->Int->Int->List ByteArray->Option (List ByteArray×List Int×Int)} {xn size:Int}:
  ∀ (d i n:Nat),d=D.length-i->i<=D.length->d<n->
  BX.l0 o1 n s xn size ((pre.length+(Cd (D.take i)).length:Nat):Int) (D.take i) (D.length:Int) (i:Int)=o1 s xn size ((pre.length+(Cd D).length:Nat):Int) D:=by
 have Jf:s.size=pre.length+((Cd D).length+tail.length):=by rw [<- C6,hs,Ap,Ap]
 intro d;induction d with
 | zero=>
  intro i n hd hi hn;have:i=D.length:=Ad
  subst this;obtain ⟨n,rfl⟩:=Aa n;show BX.S0 _ _ _ _ _ _ _ _ _=_;unfold BX.S0;rw [Be,Al,AB]
 | succ d ih=>
  intro i n hd hi hn;obtain ⟨n,rfl⟩:=Aa n;have AY:i<D.length:=Ad
  show BX.S0 o1 (BX.l0 o1 n) _ _ _ _ _ _ _=_;unfold BX.S0;have Ja:=ix AY;have MX:(Cd (D.take i)).length+(tB D[i]).length<=(Cd D).length:=by rw [Ja,Ap,Ap];omega
  have hcut:Bu (cutS s ((pre.length+(Cd (D.take i)).length:Nat):Int) (Bg s))=tB D[i]++(Cd (D.drop (i+1))++tail):=by
   have:=JX (s:=s) (a:=pre++Cd (D.take i)) (rest:=tB D[i]++(Cd (D.drop (i+1))++tail)) (by rw [hs,Ja];simp);rw [Ap] at this;exact this
  have hv:=O1 D[i];have LA:(D.take i).length=i:=by rw [Ar];omega
  have JL:A7 .i64 ((pre.length+(Cd (D.take i)).length:Nat):Int) ((tB D[i]).length:Int)=((pre.length+(Cd (D.take (i+1))).length:Nat):Int):=by
   have:(Cd (D.take (i+1))).length=(Cd (D.take i)).length+(tB D[i]).length:=by rw [take_one AY,Wl,Ap]
   rw [Bk,this];omega
  have CM:(cutS s ((pre.length+(Cd (D.take i)).length:Nat):Int) (Bg s)).size<100000000:=by
   rw [<- C6,hcut,Ap,Ap];have:=congrArg List.length Ja;rw [Ap,Ap] at this;omega
  rw [Bw,Ak,Dg (by rw [Cc];omega),Ak,Yyd (TI _ (Ay AY)) hcut CM,An];dsimp only;rw [Ca,Al,JL,Bk,<- take_one AY];have:=ih (i+1) n Ad Ad Ad;rw [Cp Ad];by_cases JM:i=0
  ·rw [Be,Al,Ak];exact this
  ·have JB:i-1<(D.take i).length:=Ad
   have hup:=Vw.at (show i-1<i by omega) AY;have hle:(KK D[i] (D.take i)[i-1] || Cz D[i] (D.take i)[i-1])=false:=by
    rw [c9,List.getElem_take,Ax (MB.asym hup),K6 (λ e=>by
     have:=(MB.eq0 _ _).2 e;rw [MB.neg D[i-1] D[i],hup] at this
     exact absurd this Af)]
    rfl
   rw [Bw,Ak,CA,Bq (by rw [Ba,LA];omega),Ak,show (i:Int)-1=((i-1:Nat):Int) by omega,BE JB,hle,Al,Ak];exact this
theorem Zo3 {D:List ByteArray} {P:List Int} (hP:P.length<=65536) (KI:∀ x∈P,0<=x/\x<(D.length:Int)) {o3:List ByteArray->List Int->List Bool->Option (List ByteArray×List Int×Int)}:
  ∀ (d i n:Nat),d=P.length-i->i<=P.length->d<n->
  BX.l2 o3 n (D.length:Int) D P P (P.length:Int) (i:Int) (E0 D.length (P.take i))=o3 D P (E0 D.length P):=by
 intro d;induction d with
 | zero=>
  intro i n hd hi hn;have:i=P.length:=Ad
  subst this;obtain ⟨n,rfl⟩:=Aa n;show BX.S2 _ _ _ _ _ _ _ _ _=_;unfold BX.S2;rw [Be,Al,AB]
 | succ d ih=>
  intro i n hd hi hn;obtain ⟨n,rfl⟩:=Aa n;have AY:i<P.length:=Ad
  have hx:=KI P[i] (Ay AY);have Jf:(E0 D.length (P.take i)).length=D.length:=by unfold E0;simp
  show BX.S2 o3 (BX.l2 o3 n) _ _ _ _ _ _ _=_;unfold BX.S2;rw [Bw,Ak,Bq,Ak,BE AY,Be hx.1,Al,Gc hx.2,Al,Bq (by rw [Ba,Jf];exact hx),Ak,Bk,vV _ _ _ hx.1,<- take_one AY];exact ih (i+1) n Ad Ad Ad
theorem Ztz {D:List ByteArray} {P:List Int} (hP:P.length<=65536) (KI:∀ x∈P,0<=x/\x<(D.length:Int)):∀ (d i n:Nat),d=P.length-i->i<=P.length->d<n->
  FC.l0 n D ((P.take i).map λ x=>D.getD x.toNat eB) P (P.length:Int) (i:Int)=some (P.map λ x=>D.getD x.toNat eB):=by
 intro d;induction d with
 | zero=>
  intro i n hd hi hn;have:i=P.length:=Ad
  subst this;obtain ⟨n,rfl⟩:=Aa n;show FC.S0 _ _ _ _ _ _=_;unfold FC.S0;rw [Be,Al,AB]
 | succ d ih=>
  intro i n hd hi hn;obtain ⟨n,rfl⟩:=Aa n;have AY:i<P.length:=Ad
  have hx:=KI P[i] (Ay AY);show FC.S0 (FC.l0 n) _ _ _ _ _=_;unfold FC.S0;rw [Bw,Ak,Bq,Ak,BE AY,Bq (by rw [Ba];exact hx),Ak,Cp (by rw [Av,Ar];omega),Ak,Bk];have:=ih (i+1) n Ad Ad Ad;rw [take_one AY,AG] at this;exact this
theorem rN (l:List ByteArray) (hl:l.length<=65536) (CL:Et l) {v:Nat} (Nx:v<=64) (Jg:Wd (BW l) v) {s:ByteArray} (hs:Bu s=Lo l v) (h0:0<l.length):
  BX s (l.length:Int)=some (BO l,BW l,0):=by
 have Ej:=Mx l;have Fl:=N1 l;have TG:=Fl.pos h0;have CT:(BW l).length=l.length:=JZ _ _;have E3:Bu s=vB ((BO l).length:Int)++(Cd (BO l)++CR (BW l) v):=by
  unfold Lo at hs
  rwa [if_neg Ad] at hs
 have hb:(BW l).length*v<=65536*64:=Nat.mul_le_mul Ad Nx;have NJ:=I8 (BW l) v;have k1:=Fs ((BO l).length:Int);have k2:=Lk _ CL.JC;have BL:s.size=(vB ((BO l).length:Int)).length+((Cd (BO l)).length+(CR (BW l) v).length):=by rw [<- C6,E3,Ap,Ap]
 show BX.S (BX.l0 (BX.t1 fu) fu) s _=_;unfold BX.S;rw [Be,Al,Be,Al,Ca,Al,M8 (by unfold BN;omega) E3,An];dsimp only;rw [Cs rfl,Al,Be,Al,Be,Al];have Of:=Zn3 (D:=BO l) Ad Fl.1 CL.JC E3 Ad (o1:=BX.t1 fu) (xn:=(l.length:Int)) (size:=((BO l).length:Int)) (BO l).length 0 fu Ad Ad Ae;rw [List.take_zero,show Cd []=[] from rfl,List.length_nil,Nat.add_zero] at Of;rw [show (0:Int)=((0:Nat):Int) from rfl,Of];show BX.S1 (BX.l2 (BX.t3 18446744073709551615) 18446744073709551615) s _ _ _ _=_;unfold BX.S1;obtain ⟨v',w1,w2,w3⟩:=Sf [((BO l).length:Int)-1] Ah;have Pt:v'=v:=(Zef MB Fl h0 w3 Ad).unique Jg;subst Pt;have hcut:Bu (cutS s (((vB ((BO l).length:Int)).length+(Cd (BO l)).length:Nat):Int) (Bg s))=CR (BW l) v':=by
  have:=JX (s:=s) (a:=vB ((BO l).length:Int)++Cd (BO l)) (rest:=CR (BW l) v') (by rw [E3,AA]);rw [Ap] at this;exact this
 have LJ:=Sx (l:=BW l) (w:=v') Nx Ad (λ x hx=>by have:=Nb Fl x hx;unfold BN;omega) Jg.1 hcut;rw [CT] at LJ;rw [Dg (by rw [Cc];omega),Ak,CA,w1,An,LJ,An];dsimp only;rw [Cs rfl,Al,CH,Cp (by show (BO l).length*1<=_;omega)];have lr:List.replicate (Int.toNat ((BO l).length:Int)) false=E0 (BO l).length ((BW l).take 0):=by
  unfold E0;rw [List.take_zero];symm;rw [List.eq_replicate_iff];refine ⟨Ah,λ b hb=>?_⟩;obtain ⟨k,_,rfl⟩:=List.mem_map.1 hb;rfl
 have KJ:=Zo3 (D:=BO l) (P:=BW l) Ad (λ x hx=>Nb Fl x hx) (o3:=BX.t3 18446744073709551615) (BW l).length 0 18446744073709551615 Ad Ad Ad;rw [lr,Ba];refine Eq.trans KJ ?_;show BX.S3 (BO l) (BW l) (E0 (BO l).length (BW l))=_;unfold BX.S3;have qn:∀ b∈E0 (BO l).length (BW l),b=true:=λ b hb=>by
  unfold E0 at hb;obtain ⟨k,hk,rfl⟩:=List.mem_map.1 hb;exact List.any_eq_true.2 ⟨_,yp MB Fl (List.mem_range.1 hk),Aq rfl⟩
 have Xvf:(E0 (BO l).length (BW l)).length=(BO l).length:=by unfold E0;simp
 have Ny:PF (E0 (BO l).length (BW l)) false=some false:=by
  unfold PF;have:=s9 _ Ad qn (E0 (BO l).length (BW l)).length 0 fu Ad Ad Ae;have h2:FA (E0 (BO l).length (BW l)) false=some (-1):=this;rw [h2];rfl
 rw [Ny];rfl
theorem Zxr (l:List ByteArray) (hl:l.length<=65536) (CL:Et l) {v:Nat} (Nx:v<=64) (Jg:Wd (BW l) v) {s:ByteArray} (hs:Bu s=Lo l v):
  Ua s (l.length:Int)=some (l,0):=by
 unfold Ua PI;by_cases h0:l.length=0
 ·have Gt:s=eB:=Gx.2 (by rw [<- C6,hs];unfold Lo;rw [if_pos h0];rfl);have:l=[]:=AU h0;subst this;have h1:BX s (([]:List ByteArray).length:Int)=some ([],[],0):=by
   show BX.S _ s 0=_;unfold BX.S;rw [Be,Al,Be,Al,Ci rfl,Ak,Gp Gt];rfl
  rw [h1];rfl
 ·have Ej:=Mx l;have Fl:=N1 l;rw [rN l hl CL Nx Jg hs Ad,An,An];dsimp only;rw [Cs rfl,Al];have:=Ztz (D:=BO l) (P:=BW l) (by rw [JZ];exact hl) (λ x hx=>Nb Fl x hx) (BW l).length 0 fu Ad Ad (by rw [JZ];unfold fu;omega);have h2:FC (BO l) (BW l)=some ((BW l).map λ x=>(BO l).getD x.toNat eB):=this;rw [h2,WI Fl eB];rfl
end Go.AM.Pure
end

section
/- Texts by runs of places; words by a code; blocks of any kind. -/
namespace Go.AM.Pure
open Go.AM
def RF (l:List ByteArray):List Int:=if l.length=0 then [] else vB ((BO l).length:Int)++(Cd (BO l)++Fi (GA (BW l)))
theorem Zpz {D:List ByteArray} (hD:D.length<=65536) (TI:Et D) {s:ByteArray} {pre tail:List Int} (hs:Bu s=pre++(Cd D++tail)) (BL:s.size<100000000) {o1:ByteArray->Int->Int->Int->List ByteArray->Option (List ByteArray×Int)} {xn size:Int}:
  ∀ (d i n:Nat),d=D.length-i->i<=D.length->d<n->
  Co.l0 o1 n s xn size ((pre.length+(Cd (D.take i)).length:Nat):Int) (D.take i) (D.length:Int) (i:Int)=o1 s xn size ((pre.length+(Cd D).length:Nat):Int) D:=by
 have Jf:s.size=pre.length+((Cd D).length+tail.length):=by rw [<- C6,hs,Ap,Ap]
 intro d;induction d with
 | zero=>
  intro i n hd hi hn;have:i=D.length:=Ad
  subst this;obtain ⟨n,rfl⟩:=Aa n;show Co.S0 _ _ _ _ _ _ _ _ _=_;unfold Co.S0;rw [Be,Al,AB]
 | succ d ih=>
  intro i n hd hi hn;obtain ⟨n,rfl⟩:=Aa n;have AY:i<D.length:=Ad
  have Ja:=ix AY;have MX:=congrArg List.length Ja;rw [Ap,Ap,O1] at MX;have ht:=aT (s:=s) (t:=D[i]) (pre:=pre++Cd (D.take i)) (rest:=Cd (D.drop (i+1))++tail) (by rw [hs,Ja];simp);have hf:=ht.fit;have h0:=ht.at0;have hc:=ht.cut;have h3:=TI D[i] (Ay AY);rw [Ap] at hf h0 hc;have JL:(Cd (D.take (i+1))).length=(Cd (D.take i)).length+(1+D[i].size):=by rw [take_one AY,Wl,Ap,O1]
  show Co.S0 o1 (Co.l0 o1 n) _ _ _ _ _ _ _=_;unfold Co.S0;generalize hp:pre.length+(Cd (D.take i)).length=p at hf h0 hc
  rw [Bw,Ak,Cc,Gc,Al,Bq,Ak,h0,FH,CA,Gc,Al,Ak,Bk (a:=(p:Int)) (b:=1) Ad,show (p:Int)+1=((p+1:Nat):Int) by omega,Bk,show ((p+1:Nat):Int)+(D[i].size:Int)=((p+1+D[i].size:Nat):Int) by omega,
   Dg Ad,Ak,Cp (by rw [Ar];omega),Ak,hc,Bk,<- take_one AY]
  have:=ih (i+1) n Ad Ad Ad;rw [show pre.length+(Cd (D.take (i+1))).length=p+1+D[i].size by omega] at this;exact this
theorem Zqz {D:List ByteArray} {P:List Int} (hP:P.length<=65536) (KI:∀ x∈P,0<=x/\x<(D.length:Int)):∀ (d i n:Nat),d=P.length-i->i<=P.length->d<n->
  Co.l2 n (D.length:Int) D ((P.take i).map λ x=>D.getD x.toNat eB) P (P.length:Int) (i:Int)=some (P.map λ x=>D.getD x.toNat eB,0):=by
 intro d;induction d with
 | zero=>
  intro i n hd hi hn;have:i=P.length:=Ad
  subst this;obtain ⟨n,rfl⟩:=Aa n;show Co.S2 _ _ _ _ _ _ _=_;unfold Co.S2;rw [Be,Al,AB]
 | succ d ih=>
  intro i n hd hi hn;obtain ⟨n,rfl⟩:=Aa n;have AY:i<P.length:=Ad
  have hx:=KI P[i] (Ay AY);show Co.S2 (Co.l2 n) _ _ _ _ _ _=_;unfold Co.S2;rw [Bw,Ak,Bq,Ak,BE AY,Be hx.1,Al,Gc hx.2,Al,Bq (by rw [Ba];exact hx),Ak,Cp (by rw [Av,Ar];omega),Ak,Bk];have:=ih (i+1) n Ad Ad Ad;rw [take_one AY,AG] at this;exact this
theorem Zds (l:List ByteArray) (hl:l.length<=65536) (CL:Et l) {s:ByteArray} (hs:Bu s=RF l):Co s (l.length:Int)=some (l,0):=by
 show Co.S (Co.l0 (Co.t1 fu) fu) s _=_;unfold Co.S;unfold RF at hs;by_cases h0:l.length=0
 ·rw [if_pos h0] at hs;have Gt:s=eB:=Gx.2 (by rw [<- C6,hs];rfl);rw [Ci,Ak,Gp Gt,AU h0];rfl
 ·rw [if_neg h0] at hs;have Ej:=Mx l;have Fl:=N1 l;have TG:=Fl.pos Ad;have CT:(BW l).length=l.length:=JZ _ _;have k1:=Fs ((BO l).length:Int);have k2:=Lk _ CL.JC;obtain ⟨r1,r2,r3⟩:=N7 (BW l) Ad;have k3:=OQ (GA (BW l));have k4:=Jq _ _ _ r3;rw [r2] at k4;have BL:s.size=(vB ((BO l).length:Int)).length+((Cd (BO l)).length+(Fi (GA (BW l))).length):=by rw [<- C6,hs,Ap,Ap]
  rw [Ca,Al,M8 (by unfold BN;omega) hs,An];dsimp only;rw [Cs rfl,Al,Be,Al,Be,Al];have Of:=Zpz (D:=BO l) Ad CL.JC hs Ad (o1:=Co.t1 fu) (xn:=(l.length:Int)) (size:=((BO l).length:Int)) (BO l).length 0 fu Ad Ad Ae;rw [List.take_zero,show Cd []=[] from rfl,List.length_nil,Nat.add_zero] at Of;rw [show (0:Int)=((0:Nat):Int) from rfl,Of];show Co.S1 (Co.l2 18446744073709551615) s _ _ _ _=_;unfold Co.S1;have hcut:Bu (cutS s (((vB ((BO l).length:Int)).length+(Cd (BO l)).length:Nat):Int) (Bg s))=Fi (GA (BW l)):=by
   have:=JX (s:=s) (a:=vB ((BO l).length:Int)++Cd (BO l)) (rest:=Fi (GA (BW l))) (by rw [hs,AA]);rw [Ap] at this;exact this
  have ht:=Zy (GA (BW l)) r3 (by rw [r2];omega) (λ r hr=>by
   have hm:r.1∈BW l:=r2 ▸ UA r3 r hr;have:=Nb Fl r.1 hm
   unfold BN;omega) hcut
  rw [r2,CT] at ht;rw [Dg (by rw [Cc];omega),Ak,ht,An];dsimp only;rw [Cs rfl,Al,Wg _ r3 (by rw [r2];omega),r2,An];dsimp only;rw [Cs rfl,Al];have:=Zqz (D:=BO l) (P:=BW l) Ad (λ x hx=>Nb Fl x hx) (BW l).length 0 18446744073709551615 Ad Ad Ad;rw [WI Fl eB] at this;exact this
def MH (l:List ByteArray) (code:Int):Option (List Int):=
 if code=1 then some (Cd l)
 else if code=4 then some (Lo l (CF (BW l)))
 else if code=2 then some (RF l)
 else none
theorem Zvs (l:List ByteArray) (hl:l.length<=65536) (CL:Et l) (code:Int):Uf l code=some (match MH l code with | some b=>(ofBytes b,0) | none=>(eB,1)):=by
 have CT:(BW l).length=l.length:=JZ _ _;unfold Uf MH;by_cases h1:code=1
 ·rw [Ci h1,Ak,if_pos h1,fR l hl CL];rfl
 ·rw [Ca h1,Al,if_neg h1];by_cases h4:code=4
  ·obtain ⟨k1,k2,_⟩:=GU (BW l) Ad;rw [Ci h4,Ak,if_pos h4,Zes l hl CL k1 k2];rfl
  ·rw [Ca h4,Al,if_neg h4];by_cases h2:code=2
   ·rw [Ci h2,Ak,if_pos h2,Ba];unfold RF;by_cases h0:l.length=0
    ·rw [Ci,Ak,if_pos h0];rfl
    ·obtain ⟨r1,r2,r3⟩:=N7 (BW l) Ad;have Ej:=Mx l;have k1:=Fs ((BO l).length:Int);have k2:=Lk _ CL.JC;have k3:=OQ (GA (BW l));have k4:=Jq _ _ _ r3;rw [r2] at k4;rw [Ca,Al,if_neg h0,rz l hl Ad,An];dsimp only;rw [fR _ Ad CL.JC,An];dsimp only;rw [Cs rfl,Al,r1,An,sx _ r3 (by rw [r2];omega),An,Ba,PL,An,Jn,GV];dsimp only;have r1:Dh (ofBytes (vB ((BO l).length:Int))) (ofBytes (Cd (BO l)))=true:=Aq (by rw [CE,CE];omega);have r2:Dh (ofBytes (vB ((BO l).length:Int)++Cd (BO l))) (ofBytes (Fi (GA (BW l))))=true:=Aq (by rw [CE,CE,Ap];omega);rw [r1,r2,GV,Ak,Ak,AA]
   ·rw [Ca h2,Al,if_neg h2]
theorem Zk3 {l:List ByteArray} (hl:l.length<=65536) (CL:Et l) {code:Int} {b:List Int} (h:MH l code=some b):(∀ x∈b,0<=x/\x<256)/\b.length<=60*l.length+40:=by
 have CT:(BW l).length=l.length:=JZ _ _;have Ej:=Mx l;have k1:=Fs ((BO l).length:Int);have k2:=Lk _ CL.JC;unfold MH at h;split at h
 ·cases h;have:=Lk l CL;exact ⟨Ws l CL,Ad⟩
 ·split at h
  ·cases h;obtain ⟨_,w2,_⟩:=GU (BW l) Ad;have h3:(CR (BW l) (CF (BW l))).length<=8*l.length:=by
    rw [I8,CT];have:l.length*CF (BW l)<=l.length*64:=Nat.mul_le_mul_left _ w2;omega
   unfold Lo;split
   ·exact ⟨λ x hx=>(by cases hx),by simp⟩
   ·refine ⟨λ x hx=>?_,by rw [Ap,Ap];omega⟩;rcases List.mem_append.1 hx with hx | hx
    ·exact Nj _ x hx
    ·rcases List.mem_append.1 hx with hx | hx
     ·exact Ws _ CL.JC x hx
     ·exact Sv _ _ x hx
  ·split at h
   ·cases h;obtain ⟨r1,r2,r3⟩:=N7 (BW l) Ad;have k3:=OQ (GA (BW l));have k4:=Jq _ _ _ r3;rw [r2] at k4;unfold RF;split
    ·exact ⟨λ x hx=>(by cases hx),by simp⟩
    ·refine ⟨λ x hx=>?_,by rw [Ap,Ap];omega⟩;rcases List.mem_append.1 hx with hx | hx
     ·exact Nj _ x hx
     ·rcases List.mem_append.1 hx with hx | hx
      ·exact Ws _ CL.JC x hx
      ·exact aB _ x hx
   ·cases h
theorem Zws {l:List ByteArray} (hl:l.length<=65536) (CL:Et l) {code:Int} {b:List Int} (h:MH l code=some b) {s:ByteArray} (hs:Bu s=b):Sm s (l.length:Int) code=some (l,0):=by
 have CT:(BW l).length=l.length:=JZ _ _;unfold MH at h;unfold Sm;by_cases h1:code=1
 ·rw [if_pos h1] at h;cases h;rw [Ci h1,Ak,Ztr l hl CL hs];rfl
 ·rw [if_neg h1] at h;rw [Ca h1,Al];by_cases h4:code=4
  ·rw [if_pos h4] at h;cases h;obtain ⟨k1,k2,k3⟩:=GU (BW l) Ad;rw [Ca,Al,Ci h4,Ak,Zxr l hl CL k2 k3 hs];rfl
  ·rw [if_neg h4] at h;by_cases h2:code=2
   ·rw [if_pos h2] at h;cases h;rw [Ci h2,Ak,Zds l hl CL hs];rfl
   ·rw [if_neg h2] at h;cases h
theorem Zl3 (l:List ByteArray) (hl:l.length<=65536) (h:Int×Int×Int×Int) (e:Int):∀ (d i n:Nat),d=l.length-i->i<=l.length->d<n->
  CO.l1 n ((l.take i).map λ x=>((h.1,0,x):Cell)) e l (l.length:Int) (i:Int) h=some (l.map λ x=>((h.1,0,x):Cell),e):=by
 intro d;induction d with
 | zero=>
  intro i n hd hi hn;have:i=l.length:=Ad
  subst this;obtain ⟨n,rfl⟩:=Aa n;show CO.S1 _ _ _ _ _ _ _=_;unfold CO.S1;rw [Be,Al,AB]
 | succ d ih=>
  intro i n hd hi hn;obtain ⟨n,rfl⟩:=Aa n;have AY:i<l.length:=Ad
  show CO.S1 (CO.l1 n) _ _ _ _ _ _=_;unfold CO.S1;rw [Bw,Ak,Bq,Ak,Cp (by rw [Av,Ar];omega),Ak,BE AY,Bk];have:=ih (i+1) n Ad Ad Ad;rw [take_one AY,AG] at this;exact this
theorem Zks {s:ByteArray} {l:List ByteArray} (hl:l.length<=65536) {code k n:Int} (hs:Sm s n code=some (l,0)) (m:Int):CO s n (2,code,m,k)=some (l.map λ x=>((2,0,x):Cell),0):=by
 show CO.S _ (CO.l1 fu) s n _=_;unfold CO.S;dsimp only;rw [Ca,Al,Ci rfl,Ak,hs,An];exact Zl3 l hl (2,code,m,k) 0 l.length 0 fu Ad Ad Ae
def GX (l:List Cell) (kind code:Int):Option (List Int):=if kind=1 then Lu (Jv l) code else MH (Ky l) code
theorem SJ {l:List Cell} {kind:Int} (h:Hn l kind):∀ c∈Bv l,(kind=1/\∃ n,c=(1,n,eB))\/(kind=2/\∃ t,c=(2,0,t)/\t.size<=32):=λ c hc=>by
 unfold Bv at hc;obtain ⟨h1,h2⟩:=List.mem_filter.1 hc;obtain ⟨h3,h4⟩:=h.2.2.2 c h1;rcases jf h3 with rfl | ⟨n,rfl⟩ | ⟨t,rfl,ht⟩
 ·exact absurd h2 Af
 ·rcases h4 with h4 | h4
  ·exact absurd h4 (by show ¬ (1:Int)=0;decide)
  ·exact .inl ⟨h4.symm,n,rfl⟩
 ·rcases h4 with h4 | h4
  ·exact absurd h4 (by show ¬ (2:Int)=0;decide)
  ·exact .inr ⟨h4.symm,t,rfl,ht⟩
theorem Us {l:List Cell} {kind:Int} (h:Hn l kind):Et (Ky (Bv l)):=λ t ht=>by
 obtain ⟨c,hc,rfl⟩:=List.mem_map.1 ht;rcases SJ h c hc with ⟨_,n,rfl⟩ | ⟨_,t,rfl,h⟩
 ·exact Nat.zero_le _
 ·exact h
theorem fU {l:List Cell} {kind:Int} (h:Hn l kind) (code:Int):Ee (Bv l) kind code=some (match GX (Bv l) kind code with | some b=>(ofBytes b,0) | none=>(eB,1)):=by
 have hle:=Jp l;have h2:=h.2.1;rw [Zls _ Ad];unfold GX;by_cases hk:kind=1
 ·rw [Ci hk,Ak,if_pos hk,Zfs _ (by rw [Av];omega)];rfl
 ·rw [Ca hk,Al,if_neg hk,Zvs _ (by rw [Av];omega) (Us h)]
theorem WG {l:List Cell} {kind:Int} (h:Hn l kind) {code:Int} {b:List Int} (hb:GX (Bv l) kind code=some b):(∀ x∈b,0<=x/\x<256)/\b.length<=10000:=by
 have hle:=Jp l;have h2:=h.2.1;unfold GX at hb;split at hb
 ·obtain ⟨h3,h4⟩:=vY (by rw [Av];omega) hb;rw [Av] at h4;exact ⟨h3,Ad⟩
 ·obtain ⟨h3,h4⟩:=Zk3 (by rw [Av];omega) (Us h) hb;rw [Av] at h4;exact ⟨h3,Ad⟩
theorem Z0 {l:List Cell} {kind code:Int} {b:List Int} (hb:GX l kind code=some b):1<=code/\code<=5:=by
 unfold GX Lu MH at hb
 repeat' split at hb
 all_goals first
  | omega
  | cases hb
theorem yk {l:List Cell} {kind code:Int} (h:Hn l kind) {b:List Int} (hb:GX (Bv l) kind code=some b):M6 l kind code=some (ofBytes (Gy (Fv l kind code b)),0):=by
 obtain ⟨h1,h2⟩:=WG h hb;have hc:=Z0 hb;exact sd h Ad Ad h1 (by rw [fU h,hb])
theorem vW {l:List Cell} {kind code:Int} (h:Hn l kind) (hb:GX (Bv l) kind code=none):M6 l kind code=some (eB,1):=by
 obtain ⟨h1,h2,_,_⟩:=id h;unfold M6;rw [yo h,An,Bool.not_true,Al,rH l Ad Ad,An];dsimp only;rw [fU h,hb,An];rfl
theorem vG {l:List Cell} {kind code:Int} (h:Hn l kind) (BH:∀ c∈l,BN c.2.1) {b:List Int} (hb:GX (Bv l) kind code=some b):
  OK (ofBytes (Gy (Fv l kind code b)))=some (((kind,code,(l.length:Int),((l.length-(Bv l).length:Nat):Int)),ofBytes (C1 l),ofBytes b,l),true):=by
 obtain ⟨h1,h2⟩:=WG h hb;have hc:=Z0 hb;have hle:=Jp l;have hm:=h.2.1;refine Zqt h Ad Ad h1 (by rw [fU h,hb]) λ s hs k=>?_
 unfold GX at hb;rcases h.2.2.1 with rfl | rfl
 ·rw [if_pos rfl] at hb
  have h3:=rT (by rw [Av];omega) (λ x hx=>by
   obtain ⟨c,hc,rfl⟩:=List.mem_map.1 hx;unfold Bv at hc
   exact BH c (List.mem_filter.1 hc).1) hb hs
  rw [Av] at h3;rw [Zms (by rw [Av];omega) h3 (l.length:Int),List.map_map];congr 2
  conv=>rhs;rw [<- List.map_id (Bv l)]
  apply List.map_congr_left;intro c hc;rcases SJ h c hc with ⟨_,n,rfl⟩ | ⟨h,_⟩
  ·rfl
  ·omega
 ·rw [if_neg Ad] at hb;have h3:=Zws (by rw [Av];omega) (Us h) hb hs;rw [Av] at h3;rw [Zks (by rw [Av];omega) h3 (l.length:Int),List.map_map];congr 2
  conv=>rhs;rw [<- List.map_id (Bv l)]
  apply List.map_congr_left;intro c hc;rcases SJ h c hc with ⟨h,_⟩ | ⟨_,t,rfl,_⟩
  ·omega
  ·rfl
end Go.AM.Pure
end

section
/- The document's words of few bits: the same bytes as pack.Put's; which cells are nulls; plain numbers. -/
namespace Go.AM.Pure
open Go.AM
theorem Yiw (x:Int):∀ (m k n:Nat),m=k->k<=64->m<n->x % 18446744073709551616<2 ^ k->
  ∃ v:Nat,GP.l0 n ((k:Int)-1) (bitsOf x)=some (v:Int)/\v<=64/\Wd [x] v:=by
 intro m;induction m with
 | zero=>
  intro k n hk Xeg hn AY;subst hk;obtain ⟨n,rfl⟩:=Aa n;refine ⟨0,?_,Ad,⟨λ y hy=>?_, .inl rfl⟩⟩
  ·show GP.S0 _ _ _=_;unfold GP.S0;rw [Gc];rfl
  ·rw [List.mem_singleton.1 hy];exact AY
 | succ m ih=>
  intro k n hk Xeg hn AY;subst hk;obtain ⟨n,rfl⟩:=Aa n;have hlen:=PR x;have hb:=P1 x (k:=m) Ad;have hd:decide (64=(bitsOf x).length)=true:=Aq hlen.symm;have Qx:=mod_pow_succ (x % 18446744073709551616) m;rw [Int.emod_eq_of_lt Ad AY,Nd x Ad] at Qx;show ∃ v:Nat,GP.S0 (GP.l0 n) _ _=_/\_;unfold GP.S0;rw [show ((m+1:Nat):Int)-1=(m:Int) by omega,CH,Ak,Bq,hd,AH,Ak,show Int.toNat (m:Int)=m from rfl,hb];have hp:=Fe m;have hr:0<=x % 18446744073709551616 % 2 ^ m/\x % 18446744073709551616 % 2 ^ m<2 ^ m:=⟨Int.emod_nonneg _ Ad,Int.emod_lt_of_pos _ hp⟩;by_cases KG:bit x m=true
  ·rw [KG,if_pos rfl] at Qx;rw [KG,Ak,Bk];refine ⟨m+1,by rw [Int.natCast_add];rfl,Ad,⟨λ y hy=>?_, .inr ⟨x,List.mem_singleton.2 rfl,?_⟩⟩⟩
   ·rw [List.mem_singleton.1 hy];exact AY
   ·rw [Nat.add_sub_cancel];omega
  ·rw [Bool.not_eq_true] at KG;rw [KG] at Qx;rw [KG,Al,CA]
   exact ih m n rfl Ad Ad (by
    rw [if_neg Af] at Qx
    omega)
theorem Zus (x:Int):∃ v:Nat,GP x=some (v:Int)/\v<=64/\Wd [x] v:=by
 unfold GP GP.S;rw [Ug,An];exact Yiw x 64 64 fu rfl Ad Ae (by rw [show (2:Int) ^ 64=18446744073709551616 from rfl];omega)
theorem Yjw {l:List Int} {x:Int} {w v:Nat} (h:Wd l w) (k:Wd [x] v):Wd (l++[x]) (max w v):=by
 have hx:=k.1 x (List.mem_singleton.2 rfl);have pw:∀ a b:Nat,a<=b->(2:Int) ^ a<=2 ^ b:=λ a b h=>by
  have:=Nat.pow_le_pow_right (show 0<2 by omega) h;exact_mod_cast this
 constructor
 ·intro y hy;rcases List.mem_append.1 hy with hy | hy
  ·have:=h.1 y hy;have:=pw w (max w v) Ad;omega
  ·rw [List.mem_singleton.1 hy];have:=pw v (max w v) Ad;omega
 ·by_cases hwv:v<=w
  ·rw [show max w v=w by omega];rcases h.2 with h2 | ⟨y,hy,h2⟩
   ·exact .inl h2
   ·exact .inr ⟨y,List.mem_append_left _ hy,h2⟩
  ·rw [show max w v=v by omega];rcases k.2 with h2 | ⟨y,hy,h2⟩
   ·omega
   ·rw [List.mem_singleton.1 hy] at h2;exact .inr ⟨x,Ah,h2⟩
theorem Ykw (l:List Int) (hl:l.length<=65536):∀ (d i n w:Nat),d=l.length-i->i<=l.length->d<n->w<=64->Wd (l.take i) w->
  ∃ v:Nat,Gi.l0 n l (w:Int) (i:Int)=some (v:Int)/\Wd l v:=by
 intro d;induction d with
 | zero=>
  intro i n w hd hi hn hw h;have:i=l.length:=Ad
  subst this;obtain ⟨n,rfl⟩:=Aa n;rw [AB] at h;refine ⟨w,?_,h⟩;show Gi.S0 _ _ _ _=_;unfold Gi.S0;rw [Ba,Be,Al]
 | succ d ih=>
  intro i n w hd hi hn hw h;obtain ⟨n,rfl⟩:=Aa n;have AY:i<l.length:=Ad
  obtain ⟨v,h1,h2,h3⟩:=Zus l[i];show ∃ u:Nat,Gi.S0 (Gi.l0 n) _ _ _=_/\_;unfold Gi.S0;have hm:FT (w:Int) (v:Int)=((max w v:Nat):Int):=by unfold FT;split <;> omega
  rw [Ba,Bw,Ak,Bq,Ak,BE AY,h1,An,hm,Bk];exact ih (i+1) n (max w v) Ad Ad Ad Ad (by rw [take_one AY];exact Yjw h h3)
theorem Wa (l:List Int) (hl:l.length<=65536):Gi l=some (CF l:Int):=by
 obtain ⟨v,h1,h2⟩:=Ykw l hl l.length 0 fu 0 Ad Ad Ae Ad ⟨λ y hy=>by simp at hy, .inl rfl⟩;rw [h2.unique (GU l hl).2.2] at h1;exact h1
theorem tv:∀ (n:Nat) (s:List Bool),s=[]->Ep n s=List.replicate n 0
 | 0,_,_=>rfl
 | n+1,s,h=>by
  subst h;rw [Q9,List.replicate_succ];congr 1;exact tv n _ rfl
theorem Zj3 (n:Nat) (A:List Bool) (b:Bool) (h:A.length<8*n):
  Ep n (A++[b])=if b=true then (Ep n A).set (A.length / 8) ((Ep n A).getD (A.length / 8) 0+2 ^ (A.length % 8)) else Ep n A:=by
 have hlen:=MC n A;have hk:A.length / 8<n:=Ad
 have base:∀ j,j<n->(Ep n (A++[b])).getD j 0=if j=A.length / 8/\b=true then (Ep n A).getD j 0+2 ^ (A.length % 8) else (Ep n A).getD j 0:=by
  intro j hj;rw [AK,AK,SB n _ j hj,SB n _ j hj];show numOf _=if _ then numOf _+_ else numOf _
  rcases Nat.lt_trichotomy j (A.length / 8) with AY | heq | hgt
  ·rw [if_neg Ad,List.drop_append_of_le_length Ad,List.take_append_of_le_length (by rw [List.length_drop];omega)]
  ·rw [List.drop_append_of_le_length Ad];have Ej:(A.drop (8*j)).length=A.length % 8:=by rw [List.length_drop];omega
   rw [AL (by rw [Ap,Ej,AN];omega),AL (l:=A.drop (8*j)) Ad,Wq,Ej];by_cases hb:b=true
   ·rw [if_pos (⟨heq,hb⟩:j=A.length / 8/\b=true)];simp [hb]
   ·rw [if_neg (λ h:j=A.length / 8/\b=true=>hb h.2)];simp [hb]
  ·rw [if_neg Ad,List.drop_eq_nil_of_le (by rw [Ap,AN];omega),List.drop_eq_nil_of_le Ad]
 apply List.ext_getElem
 ·split
  ·rw [MC,List.length_set,MC]
  ·rw [MC,MC]
 ·intro j h1 h2;have hj:j<n:=by rwa [MC] at h1
  have hb:=base j hj;rw [AK,AD h1] at hb;have hb:(Ep n (A++[b]))[j]=_:=hb;rw [hb];have hg:(Ep n A).getD j 0=(Ep n A)[j]'(by rw [hlen];exact hj):=by rw [AK,AD (by rw [hlen];exact hj)];rfl
  by_cases YR:b=true
  ·subst YR;simp only [if_pos];rw [List.getElem_set];by_cases QK:A.length / 8=j
   ·rw [if_pos (⟨QK.symm,trivial⟩:j=A.length / 8/\True),if_pos QK,QK]
   ·rw [if_neg (λ h:j=A.length / 8/\True=>QK h.1.symm),if_neg QK,hg]
  ·simp only [if_neg YR];rw [if_neg (λ h=>YR h.2),hg]
theorem Xta {a:Int} {k:Nat} (hk:k<8) (h0:0<=a) (h1:a<2 ^ k):Fa .u8 a (EN .u8 1 (k:Int))=a+2 ^ k:=by
 have:∀ k:Fin 8,∀ a:Fin 256,(a.val:Int)<2 ^ k.val->Fa .u8 (a.val:Int) (EN .u8 1 (k.val:Int))=(a.val:Int)+2 ^ k.val:=by decide +kernel
 have h2:(2:Int) ^ k<=2 ^ 8:=by
  have:=Nat.pow_le_pow_right (show 0<2 by omega) (show k<=8 by omega);exact_mod_cast this
 rw [show (2:Int) ^ 8=256 from rfl] at h2;have:=this ⟨k,hk⟩ ⟨a.toNat,Ad⟩;simp only [show ((a.toNat:Nat):Int)=a by omega] at this;exact this h1
theorem YB (a:Nat) (h:a<1000000000000):GB .i64 (a:Int) 8=((a / 8:Nat):Int):=by
 unfold GB;rw [show Int.tdiv (a:Int) 8=((a / 8:Nat):Int) from rfl];exact FH Ad
theorem eg (a:Nat):Ol (a:Int) 8=((a % 8:Nat):Int):=rfl
theorem Ylw {l:List Int} {i k:Nat} (hi:i<l.length):wb l[i] (k+1)=wb l[i] k++[bit l[i] k]:=by
 unfold wb;rw [List.range_succ,AG];rfl
theorem Zlz (l:List Int) {w:Nat} (hw:w<=64) (hl:l.length<=65536) {i:Nat} (hi:i<l.length) {o0:List Int->Int->Int->List Int->Option (ByteArray×Int)}:∀ (d k n:Nat),d=w-k->k<=w->d<n->
  Dn.l1 o0 n l (w:Int) (i:Int) (k:Int) (Ep ((l.length*w+7) / 8) (Ge (l.take i) w++wb l[i] k))=o0 l (w:Int) ((i:Int)+1) (Ep ((l.length*w+7) / 8) (Ge (l.take (i+1)) w)):=by
 intro d;induction d with
 | zero=>
  intro k n hd hk hn;have:k=w:=Ad
  subst this;obtain ⟨n,rfl⟩:=Aa n;show Dn.S1 _ _ _ _ _ _ _=_;unfold Dn.S1;rw [Be,Al,Bk,take_one hi,ZX]
 | succ d ih=>
  intro k n hd hk hn;obtain ⟨n,rfl⟩:=Aa n;have qj:k<w:=Ad
  have OB:(Ge (l.take i) w++wb l[i] k).length=i*w+k:=by rw [Ap,Re,Lr,Ar];congr 2;omega
  have h1:i*w+w<=l.length*w:=by
   have:=AT w (show i+1<=l.length by omega);rw [Nat.succ_mul] at this;exact this
  have h2:l.length*w<=65536*64:=Nat.mul_le_mul hl hw;have Ei:i*w+k<8*((l.length*w+7) / 8):=by omega
  have Zrm:=Zj3 ((l.length*w+7) / 8) (Ge (l.take i) w++wb l[i] k) (bit l[i] k) Ad;rw [AA,<- Ylw hi,OB] at Zrm;have hlen:=MC ((l.length*w+7) / 8) (Ge (l.take i) w++wb l[i] k);have Il:A7 .i64 (CI .i64 (i:Int) (w:Int)) (k:Int)=((i*w+k:Nat):Int):=by
   have e1:CI .i64 (i:Int) (w:Int)=((i*w:Nat):Int):=by
    rw [show CI .i64 (i:Int) (w:Int)=IntKind.wrap .i64 ((i:Int)*(w:Int)) from rfl,<- Int.natCast_mul];exact FH Ad
   rw [e1,Bk];omega
  show Dn.S1 o0 (Dn.l1 o0 n) _ _ _ _ _=_;unfold Dn.S1;rw [Bw,Ak,Ba,Bq,Ak,CH,Ak,BE hi,oa _ _ Ad,Il,YB _ Ad,eg,Ba,hlen,Bq,CH,Bk];have Ed:=ih (k+1) n Ad Ad Ad;rw [Zrm] at Ed;by_cases hb:bit l[i] k=true
  ·rw [if_pos hb] at Ed;rw [hb];simp only [Ak];have KO:(Ep ((l.length*w+7) / 8) (Ge (l.take i) w++wb l[i] k)).getD ((i*w+k) / 8) 0=numOf (((Ge (l.take i) w++wb l[i] k).drop (8*((i*w+k) / 8))).take 8):=by
    rw [AK,SB _ _ _ Ad];rfl
   have FY:=Lj (((Ge (l.take i) w++wb l[i] k).drop (8*((i*w+k) / 8))).take 8);have Hs:(((Ge (l.take i) w++wb l[i] k).drop (8*((i*w+k) / 8))).take 8).length=(i*w+k) % 8:=by rw [Ar,List.length_drop,OB];omega
   rw [Hs] at FY;rw [show Int.toNat (((i*w+k) / 8:Nat):Int)=(i*w+k) / 8 from rfl,Xta Ad (by rw [KO];exact FY.1) (by rw [KO];exact FY.2)];exact Ed
  ·rw [if_neg hb] at Ed;rw [Bool.not_eq_true] at hb;rw [hb,Al];exact Ed
theorem Zmz (l:List Int) {w:Nat} (hw:w<=64) (hl:l.length<=65536):∀ (d i n:Nat),d=l.length-i->i<=l.length->70<n->
  Dn.l0 (n+d) l (w:Int) (i:Int) (Ep ((l.length*w+7) / 8) (Ge (l.take i) w))=some (ofBytes (CR l w),0):=by
 intro d;induction d with
 | zero=>
  intro i n hd hi hn;have:i=l.length:=Ad
  subst this;obtain ⟨n,rfl⟩:=Aa n;show Dn.S0 _ _ _ _ _=_;unfold Dn.S0;rw [Ba,Be,Al,AB];rfl
 | succ d ih=>
  intro i n hd hi hn;have AY:i<l.length:=Ad
  show Dn.S0 (Dn.l1 (Dn.l0 (n+d)) (n+d)) _ _ _ _=_;unfold Dn.S0;rw [Ba,Bw,Ak];have:=Zlz l hw hl AY (o0:=Dn.l0 (n+d)) w 0 (n+d) Ad Ad Ad;rw [ye,AE] at this;rw [show (0:Int)=((0:Nat):Int) from rfl,this];exact ih (i+1) n Ad Ad Ad
theorem rJ (n w:Nat) (hn:n<=65536) (hw:w<=64):PJ (n:Int) (w:Int)=(((n*w+7) / 8:Nat):Int):=by
 unfold PJ;by_cases h0:n=0
 ·subst h0;rw [Bw,Ak,Nat.zero_mul];rfl
 ·rw [Be,Al,Be,Al];by_cases h1:w=0
  ·subst h1;rw [Bw,Ak,Nat.mul_zero];rfl
  ·have h2:n*w<=65536*64:=Nat.mul_le_mul hn hw;have e1:CI .i64 (n:Int) (w:Int)=((n*w:Nat):Int):=by
    rw [show CI .i64 (n:Int) (w:Int)=IntKind.wrap .i64 ((n:Int)*(w:Int)) from rfl,<- Int.natCast_mul];exact FH Ad
   rw [Be,Al,Be,Al,e1,Bk,show ((n*w:Nat):Int)+7=((n*w+7:Nat):Int) by omega,YB _ Ad]
theorem Wh (l:List Int) {w:Nat} (hw:w<=64) (hl:l.length<=65536) (hvw:CF l<=w):Dn l (w:Int)=some (ofBytes (CR l w),0):=by
 have h2:l.length*w<=65536*64:=Nat.mul_le_mul hl hw;show Dn.S (Dn.l0 fu) l (w:Int)=_;unfold Dn.S;rw [Be,Al,Be,Al,Ba,Be,Al,Wa l hl,An,Be,Al,rJ _ _ hl hw];dsimp only;rw [CH,Cp (by show (l.length*w+7) / 8*1<=_;omega)];have:=Zmz l hw hl l.length 0 (fu-l.length) Ad Ad Ae;rw [show fu-l.length+l.length=fu by unfold fu;omega,List.take_zero,show Ge [] w=[] from rfl,tv _ _ rfl] at this;exact this
theorem rC (p:List Int) (hl:p.length<=65536):Wf p=some (ofBytes (CR p (CF p))):=by
 unfold Wf;rw [Wa p hl,An,Wh p (GU p hl).2.1 hl (Au _)];rfl
theorem Znz (l:List Cell) (c:Cell):Eh (l++[c])=Eh l++[if Db c then 1 else 0]:=by unfold Eh;rw [AG];rfl
theorem Zvu (l:List Cell) (hl:l.length<=65536):∀ (d i n:Nat),d=l.length-i->i<=l.length->d<n->
  Ef.l0 (Ef.t1 fu) n l (Bv (l.take i)) (Eh (l.take i)) (i:Int)=Ef.S1 l (Bv l) (Eh l):=by
 intro d;induction d with
 | zero=>
  intro i n hd hi hn;have:i=l.length:=Ad
  subst this;obtain ⟨n,rfl⟩:=Aa n;show Ef.S0 Ef.S1 _ _ _ _ _=_;unfold Ef.S0;rw [Ba,Be,Al,AB]
 | succ d ih=>
  intro i n hd hi hn;obtain ⟨n,rfl⟩:=Aa n;have AY:i<l.length:=Ad
  have h1:=Jp (l.take i);rw [Ar] at h1;have Ed:=ih (i+1) n Ad Ad Ad;rw [take_one AY,Uk,Znz] at Ed;show Ef.S0 (Ef.t1 fu) (Ef.l0 (Ef.t1 fu) n) _ _ _ _=_;unfold Ef.S0;rw [Ba,Bw,Ak,Bq,Ak,BE AY,Cp (by rw [Ip,Ar];omega),Ak,Ak,Ak,Cp Ad,Ak,Bk];by_cases hz:Db l[i]=true
  ·have FZ:l[i].1=0:=Az (show decide (l[i].1=0)=true from hz);rw [if_pos hz,if_pos hz,AE] at Ed;rw [Ci FZ,Ak];exact Ed
  ·have FZ:¬ l[i].1=0:=λ h=>hz (Aq h)
   rw [if_neg hz,if_neg hz] at Ed;rw [Ca FZ,Al];exact Ed
theorem Zoz (l:List Cell) (hl:l.length<=65536):CF (Eh l)<=1:=by
 obtain ⟨_,_,h1,h2⟩:=GU (Eh l) (by rw [Ip];exact hl);rcases h2 with h2 | ⟨x,hx,h2⟩
 ·omega
 ·have hx:=Wz x hx;by_cases h:CF (Eh l)<=1
  ·exact h
  ·have:(2:Int) ^ 1<=2 ^ (CF (Eh l)-1):=by
    have:=Nat.pow_le_pow_right (show 0<2 by omega) (show 1<=CF (Eh l)-1 by omega);exact_mod_cast this
   rw [show (2:Int) ^ 1=2 from rfl] at this;omega
theorem rL (l:List Cell) (hl:l.length<=65536):Ef l=some (ofBytes (C1 l),Bv l):=by
 have h:=Zvu l hl l.length 0 fu Ad Ad Ae;rw [List.take_zero] at h;refine Eq.trans (show Ef l=_ from h) ?_;have hle:=Jp l;unfold Ef.S1 C1;rw [Ba,Ba];by_cases hf:(Bv l).length=l.length
 ·rw [Ci,Ak,(tZ hf).2];rfl
 ·have On:l.any Db=true:=by
   cases ha:l.any Db with
   | true=>rfl
   | false=>
    exfalso;apply hf;unfold Bv
    rw [List.filter_eq_self.2 λ c hc=>by
     have:=List.any_eq_false.1 ha c hc
     simpa using this]
  rw [Ca,Al,On,if_pos rfl,show (1:Int)=((1:Nat):Int) from rfl,Wh (Eh l) Ad (by rw [Ip];exact hl) (Zoz l hl)];rfl
theorem Zmw (l:List Cell) (hl:l.length<=65536):∀ (d i n:Nat),d=l.length-i->i<=l.length->d<n->
  HH.l0 n l (Jv (l.take i)) (i:Int)=some (Jv l):=by
 intro d;induction d with
 | zero=>
  intro i n hd hi hn;have:i=l.length:=Ad
  subst this;obtain ⟨n,rfl⟩:=Aa n;show HH.S0 _ _ _ _=_;unfold HH.S0;rw [Ba,Be,Al,AB]
 | succ d ih=>
  intro i n hd hi hn;obtain ⟨n,rfl⟩:=Aa n;have AY:i<l.length:=Ad
  have Ed:=ih (i+1) n Ad Ad Ad;rw [take_one AY,show Jv (l.take i++[l[i]])=Jv (l.take i)++[l[i].2.1] from AG] at Ed;show HH.S0 (HH.l0 n) _ _ _=_;unfold HH.S0;rw [Ba,Bw,Ak,Bq,Ak,BE AY,Cp (by rw [Av,Ar];omega),Ak,Bk];exact Ed
theorem Zpt (l:List Cell) (hl:l.length<=65536):HH l=some (Jv l):=Zmw l hl l.length 0 fu Ad Ad Ae
theorem Zwu (l:List Cell) (hl:l.length<=65536):∀ (d i n:Nat),d=l.length-i->i<=l.length->d<n->
  HD.l0 n l (Ky (l.take i)) (i:Int)=some (Ky l):=by
 intro d;induction d with
 | zero=>
  intro i n hd hi hn;have:i=l.length:=Ad
  subst this;obtain ⟨n,rfl⟩:=Aa n;show HD.S0 _ _ _ _=_;unfold HD.S0;rw [Ba,Be,Al,AB]
 | succ d ih=>
  intro i n hd hi hn;obtain ⟨n,rfl⟩:=Aa n;have AY:i<l.length:=Ad
  have Ed:=ih (i+1) n Ad Ad Ad;rw [take_one AY,show Ky (l.take i++[l[i]])=Ky (l.take i)++[l[i].2.2] from AG] at Ed;show HD.S0 (HD.l0 n) _ _ _=_;unfold HD.S0;rw [Ba,Bw,Ak,Bq,Ak,BE AY,Cp (by rw [Av,Ar];omega),Ak,Bk];exact Ed
theorem Zts (l:List Cell) (hl:l.length<=65536):HD l=some (Ky l):=Zwu l hl l.length 0 fu Ad Ad Ae
end Go.AM.Pure
end
