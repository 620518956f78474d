import Derived.Test.YtlamhllcnbcbbaaGreatAmP13
section
/- What a dictionary is: the distinct values, rising, and of each value its place; of texts by dict.Of. -/
namespace Go.AM.Pure
open Go.AM
section
variable {α : Type} {c : α → α → Int}
def Inc (c:α→α→Int) (d:List α):Prop:=d.Pairwise fun a b=>c a b = -1
def Zkf (c:α→α→Int) (d l:List α):Prop:=Inc c d∧∀ x,x∈d↔x∈l
theorem Inc.at {d:List α} (h:Inc c d) {i j:Nat} (hij:i<j) (hj:j<d.length):c (d[i]'(by omega)) d[j] = -1:=List.pairwise_iff_getElem.1 h i j (by omega) hj hij
theorem Ord3.self (o:Ord3 c) (a:α):c a a=0:=(o.eq0 a a).2 rfl
theorem Ord3.asym (o:Ord3 c) {a b:α} (h:c a b = -1):¬ c b a = -1:=by rw [o.neg,h];decide
theorem Zeh1 (o:Ord3 c):∀ {d e:List α},Inc c d→Inc c e→(∀ x,x∈d↔x∈e)→d=e
 | [],[],_,_,_=>rfl
 | [],b :: e,_,_,h=>absurd ((h b).2 (List.mem_cons_self ..)) (by simp)
 | a :: d,[],_,_,h=>absurd ((h a).1 (List.mem_cons_self ..)) (by simp)
 | a :: d,b :: e,h1,h2,h=>by
  obtain ⟨p1,p2⟩:=List.pairwise_cons.1 h1
  obtain ⟨q1,q2⟩:=List.pairwise_cons.1 h2
  have hab:a=b:=by
   rcases List.mem_cons.1 ((h a).1 (List.mem_cons_self ..)) with x | x
   ·exact x
   ·rcases List.mem_cons.1 ((h b).2 (List.mem_cons_self ..)) with y | y
    ·exact y.symm
    ·exact absurd (q1 a x) (o.asym (p1 b y))
  subst hab
  have:d=e:=Zeh1 o p2 q2 fun x=>by
   constructor
   ·intro hx
    rcases List.mem_cons.1 ((h x).1 (List.mem_cons_of_mem _ hx)) with y | y
    ·have:=p1 x hx
     rw [y,o.self] at this
     exact absurd this (by decide)
    ·exact y
   ·intro hx
    rcases List.mem_cons.1 ((h x).2 (List.mem_cons_of_mem _ hx)) with y | y
    ·have:=q1 x hx
     rw [y,o.self] at this
     exact absurd this (by decide)
    ·exact y
  rw [this]
theorem Zkf.uniq (o:Ord3 c) {d e l:List α} (h:Zkf c d l) (k:Zkf c e l):d=e:=Zeh1 o h.1 k.1 fun x=>(h.2 x).trans (k.2 x).symm
theorem Zkf.pos {d l:List α} (h:Zkf c d l) (h0:0<l.length):0<d.length:=List.length_pos_of_mem ((h.2 _).2 (List.getElem_mem h0))
variable [DecidableEq α]
def idx (d:List α) (v:α):Nat:=d.idxOf v
theorem Zmp {d:List α} {v:α} (h:v∈d):idx d v<d.length:=List.idxOf_lt_length_iff.2 h
theorem Zot {d:List α} {v:α} (h:idx d v<d.length):d[idx d v]=v:=List.getElem_idxOf h
def plc (d l:List α):List Int:=l.map fun v=>(idx d v:Int)
theorem Zfg (d l:List α):(plc d l).length=l.length:=by unfold plc;rw [List.length_map]
theorem Zlj {d l:List α} (h:Zkf c d l):∀ x∈plc d l,0≤x∧x<(d.length:Int):=fun x hx=>by
 unfold plc at hx
 obtain ⟨v,hv,rfl⟩:=List.mem_map.1 hx
 have:=Zmp ((h.2 v).2 hv)
 omega
omit [DecidableEq α] in
theorem Inc.inj (o:Ord3 c) {d:List α} (h:Inc c d) {i j:Nat} (hi:i<d.length) (hj:j<d.length) (he:d[i]=d[j]):i=j:=by
 rcases Nat.lt_trichotomy i j with k | k | k
 ·have:=h.at k hj;rw [he,o.self] at this;exact absurd this (by decide)
 ·exact k
 ·have:=h.at k hi;rw [he,o.self] at this;exact absurd this (by decide)
theorem Zeq1 (o:Ord3 c) {d l:List α} (h:Zkf c d l) {k:Nat} (hk:k<d.length):(k:Int)∈plc d l:=by
 have h1:=Zmp (List.getElem_mem hk)
 refine List.mem_map.2 ⟨_,(h.2 _).1 (List.getElem_mem hk),?_⟩
 have h2:=Zot h1
 rw [h.1.inj o h1 hk h2]
theorem Zp01 (o:Ord3 c) {d l:List α} (h:Zkf c d l) (h0:0<l.length) {v:Nat} (hw:Wd [(d.length:Int)-1] v) (hl:d.length≤65536):Wd (plc d l) v:=by
 have hdp:=h.pos h0
 obtain ⟨h1,h2⟩:=hw
 have h1:=h1 _ (List.mem_singleton.2 rfl)
 constructor
 ·intro x hx
  have:=Zlj h x hx
  omega
 ·rcases h2 with h2 | ⟨x,hx,h2⟩
  ·exact .inl h2
  ·have hx:=List.mem_singleton.1 hx
   subst hx
   right
   have:=Zeq1 o h (k:=d.length-1) (by omega)
   refine ⟨_,this,?_⟩
   rw [show ((d.length-1:Nat):Int)=(d.length:Int)-1 by omega]
   exact h2
theorem Zrw {d l:List α} (h:Zkf c d l) (z:α):(plc d l).map (fun x=>d.getD x.toNat z)=l:=by
 unfold plc
 rw [List.map_map]
 conv=>rhs;rw [← List.map_id l]
 apply List.map_congr_left
 intro v hv
 have hk:=Zmp ((h.2 v).2 hv)
 show d.getD (((idx d v:Nat):Int)).toNat z=v
 rw [show (((idx d v:Nat):Int)).toNat=idx d v from rfl,List.getD_eq_getElem?_getD,List.getElem?_eq_getElem hk]
 exact Zot hk
theorem Zec1 {d l:List α} {i:Nat} (h:i<l.length):(plc d l)[i]'(by rw [Zfg];exact h)=(idx d l[i]:Int):=by
 have h2:(plc d l)[i]? = some (idx d l[i]:Int):=by
  unfold plc
  rw [List.getElem?_map,List.getElem?_eq_getElem h,Option.map_some]
 rw [List.getElem?_eq_getElem (by rw [Zfg];exact h)] at h2
 exact Option.some.inj h2
end
theorem cb_lt:∀ a b:List UInt8,a<b↔Lib.compareBytes a b = -1
 | [],[]=>by simp [Lib.compareBytes]
 | [],_ :: _=>by simp [Lib.compareBytes]
 | _ :: _,[]=>by simp [Lib.compareBytes]
 | a :: x,b :: y=>by
  rw [List.cons_lt_cons_iff,cb_lt x y,show Lib.compareBytes (a :: x) (b :: y)=if a<b then -1 else if b<a then 1 else Lib.compareBytes x y from rfl]
  by_cases h:a<b
  ·simp [h]
  ·by_cases k:b<a
   ·have:¬ a=b:=by rintro rfl;exact absurd k (UInt8.lt_irrefl _)
    simp [h,k,this]
   ·have:a=b:=UInt8.le_antisymm (UInt8.not_lt.1 k) (UInt8.not_lt.1 h)
    subst this
    simp only [h,if_neg,not_false_eq_true,false_or,true_and]
theorem cb_le (a b:List UInt8):a≤b↔¬ Lib.compareBytes a b=1:=by
 rw [show (a≤b) = ¬ (b<a) from rfl,cb_lt,Zhz a b]
 rcases Znm a b with h | h | h <;> rw [h] <;> decide
abbrev tb (s:ByteArray):List UInt8:=s.data.toList
theorem Zwd1 (s:ByteArray):Zbk (tb s)=s:=by cases s;rfl
abbrev sortT (l:List ByteArray):List (List UInt8):=(l.map tb).mergeSort fun x y=>decide (x≤y)
def dictT (l:List ByteArray):List ByteArray:=(Lib.compact (sortT l)).map Zbk
theorem Zfh (l:List ByteArray):Zkf cmpS (dictT l) l:=by
 have hs:=List.pairwise_mergeSort (le:=fun x y:List UInt8=>decide (x≤y)) (fun a b d h1 h2=>by
  simp only [decide_eq_true_eq] at *
  rw [cb_le] at *
  intro h
  rcases Znm a b with k | k | k
  ·rcases Znm b d with m | m | m
   ·rw [cb_tr a b d k m] at h;exact absurd h (by decide)
   ·rw [← (Zeo b d).1 m,k] at h;exact absurd h (by decide)
   ·exact h2 m
  ·rw [(Zeo a b).1 k] at h;exact h2 h
  ·exact h1 k) (fun a b=>by
  simp only [Bool.or_eq_true,decide_eq_true_eq]
  rw [cb_le,cb_le,Zhz a b]
  rcases Znm a b with k | k | k <;> rw [k] <;> decide) (l.map tb)
 have h:=Zvy (le:=fun a b:List UInt8=>¬ Lib.compareBytes a b=1) (fun a=>by rw [(Zeo a a).2 rfl];decide) (fun a b d h1 h2 h=>by
  rcases Znm a b with k | k | k
  ·rcases Znm b d with m | m | m
   ·rw [cb_tr a b d k m] at h;exact absurd h (by decide)
   ·rw [← (Zeo b d).1 m,k] at h;exact absurd h (by decide)
   ·exact h2 m
  ·rw [(Zeo a b).1 k] at h;exact h2 h
  ·exact h1 k) (fun a b h1 h2=>by
  rw [Zhz a b] at h2
  rcases Znm a b with k | k | k
  ·rw [k] at h2;exact absurd rfl h2
  ·exact (Zeo a b).1 k
  ·exact absurd k h1) (hs.imp fun h=>(cb_le _ _).1 (of_decide_eq_true h))
 constructor
 ·unfold Inc dictT
  rw [List.pairwise_map]
  refine h.1.imp fun {a b} hab=>?_
  show Lib.compareBytes a b = -1
  rcases Znm a b with k | k | k
  ·exact k
  ·exact absurd ((Zeo a b).1 k) hab.2
  ·exact absurd k hab.1
 ·intro x
  unfold dictT
  rw [List.mem_map]
  constructor
  ·rintro ⟨b,hb,rfl⟩
   obtain ⟨s,hs,rfl⟩:=List.mem_map.1 (List.mem_mergeSort.1 ((h.2 b).1 hb))
   rw [Zwd1];exact hs
  ·intro hx
   exact ⟨tb x,(h.2 _).2 (List.mem_mergeSort.2 (List.mem_map.2 ⟨x,hx,rfl⟩)),Zwd1 x⟩
theorem Zdp1 {β:Type} [Inhabited β] [DecidableEq β] (z:List β):(Lib.compact z).length≤z.length:=by
 unfold Lib.compact Lib.compactUpTo
 rw [List.length_map]
 exact Nat.le_trans (List.length_filter_le _ _) (by rw [List.length_range];exact Nat.le_refl _)
theorem Zvg (l:List ByteArray):(dictT l).length≤l.length:=by
 unfold dictT
 rw [List.length_map]
 have:=Zdp1 (sortT l)
 rwa [List.length_mergeSort,List.length_map] at this
theorem Zak2 (x y:ByteArray):cmp_Less_string x y=decide (cmpS x y = -1):=by
 unfold cmp_Less_string
 have:cmp_isNaN_string x=false:=by
  show (!(eqS x x))=false
  rw [eqS_t rfl];rfl
 rw [this,ltS_d]
 rfl
theorem Zbk2 (d:List ByteArray) (hl:d.length<1000000000) (hd:Inc cmpS d) {k:Nat} (hk:k<d.length):∀ (g i j n:Nat),g=j-i→i≤k→k≤j→j≤d.length→g<n→
  Zp.l0 (Zp.t1 fu) n d d[k] (d.length:Int) (i:Int) (j:Int)=some ((k:Int),true):=by
 intro g
 induction g using Nat.strongRecOn with
 | ind g ih=>
 intro i j n hg hi hj hjl hn
 obtain ⟨n,rfl⟩:∃ m,n=m+1:=⟨n-1,by omega⟩
 show Zp.S0 Zp.S1 (Zp.l0 (Zp.t1 fu) n) _ _ _ _ _=_
 unfold Zp.S0
 by_cases hij:i<j
 ·have hh:IntKind.wrap .i64 (shrI .u64 (IntKind.wrap .u64 (addI .i64 (i:Int) (j:Int))) 1)=(((i+j) / 2:Nat):Int):=by
   have h1:IntKind.wrap .u64 ((i:Int)+(j:Int))=((i+j:Nat):Int):=by rw [Zyd];omega
   have h2:=shrU ((i+j:Nat):Int) 1 (by omega)
   rw [show ((1:Nat):Int)=1 from rfl,Int.pow_succ,Int.pow_zero,Int.one_mul] at h2
   rw [Zn (by omega),h1,h2,Zde (by omega)]
   omega
  have hm:(i+j) / 2<d.length:=by omega
  rw [lt_t (by omega),cond_true,hh,Zu (by rw [Zf];omega),cond_true,Zy hm,Zak2,Zn (by omega)]
  by_cases hlt:(i+j) / 2<k
  ·rw [decide_eq_true (hd.at hlt hk),cond_true]
   exact ih (j-((i+j) / 2+1)) (by omega) ((i+j) / 2+1) j n rfl (by omega) hj hjl (by omega)
  ·have:¬ cmpS d[(i+j) / 2] d[k] = -1:=by
    by_cases he:k=(i+j) / 2
    ·rw [show d[(i+j) / 2]=d[k] from getElem_congr_idx he.symm,Zmi.self];decide
    ·exact Zmi.asym (hd.at (show k<(i+j) / 2 by omega) hm)
   rw [decide_eq_false this,cond_false]
   exact ih ((i+j) / 2-i) (by omega) i ((i+j) / 2) n rfl hi (by omega) (by omega) (by omega)
 ·have:i=k:=by omega
  subst this
  rw [lt_f (by omega),cond_false]
  unfold Zp.S1
  rw [lt_t (by omega),cond_true,Zu (by rw [Zf];omega),cond_true,Zy hk,eqS_t rfl]
  rfl
theorem Zjc3 (d:List ByteArray) (hl:d.length<1000000000) (hd:Inc cmpS d) {v:ByteArray} (hv:v∈d):Zp d v=some ((idx d v:Int),true):=by
 have hk:=Zmp hv
 have hg:=Zot hk
 have:=Zbk2 d hl hd hk d.length 0 d.length fu (by omega) (by omega) (by omega) (by omega) (by unfold fu;omega)
 rw [hg] at this
 exact this
abbrev Zca (l:List ByteArray):List Int:=plc (dictT l) l
theorem Zep1 (l:List ByteArray) (hl:l.length≤65536) (lo:Nat) (t:List ByteArray) (ht:List.take (dictT l).length (List.drop lo t)=dictT l):∀ (d i n:Nat),d=l.length-i→i≤l.length→d<n→
  Zac.l0 n lo (dictT l).length ((Zca l).take i) l (l.length:Int) (i:Int) t=some (dictT l,Zca l):=by
 have hpl:(Zca l).length=l.length:=Zfg _ _
 have hdl:=Zvg l
 intro d
 induction d with
 | zero=>
  intro i n hd hi hn
  have:i=l.length:=by omega
  subst this
  obtain ⟨n,rfl⟩:∃ k,n=k+1:=⟨n-1,by omega⟩
  show Zac.S0 _ _ _ _ _ _ _ _=_
  unfold Zac.S0
  rw [lt_f (by omega),cond_false,ht,List.take_of_length_le (by omega)]
 | succ d ih=>
  intro i n hd hi hn
  obtain ⟨n,rfl⟩:∃ k,n=k+1:=⟨n-1,by omega⟩
  have hlt:i<l.length:=by omega
  show Zac.S0 (Zac.l0 n) _ _ _ _ _ _ _=_
  unfold Zac.S0
  rw [lt_t (by omega),cond_true,Zu (by rw [Zf];omega),cond_true,Zy hlt,ht,Zjc3 _ (by omega) (Zfh l).1 (((Zfh l).2 _).2 (List.getElem_mem hlt)),Option.bind_some,Zna (by rw [List.length_take];omega),cond_true,Zn (by omega)]
  have:=ih (i+1) n (by omega) (by omega) (by omega)
  rw [take_one (by omega),Zec1 hlt] at this
  exact this
theorem Zrq (l:List ByteArray) (hl:l.length≤65536) (h0:0<l.length):Zac l=some (dictT l,Zca l):=by
 show Zac.S (Zac.l0 fu) l=_
 unfold Zac.S
 have hc:Zli 16 l=some l:=by
  unfold Zli
  rw [decide_eq_true h0,Zna (by omega)]
  rfl
 have hs:sortS l=some ((sortT l).map Zbk):=by
  unfold sortS
  rw [decide_eq_true (by omega)]
  rfl
 have hml:((sortT l).map Zbk).length=l.length:=by rw [List.length_map,List.length_mergeSort,List.length_map]
 have hdl:=Zvg l
 have hmm:((sortT l).map Zbk).map (fun s:ByteArray=>s.data.toList)=sortT l:=by
  rw [List.map_map]
  exact List.map_id _
 have hdd:(Lib.compact (sortT l)).length=(dictT l).length:=by unfold dictT;rw [List.length_map]
 have hcp:compS ((sortT l).map Zbk)=some (((dictT l).length:Int),dictT l++(List.replicate (l.length-(dictT l).length) []).map Zbk):=by
  unfold compS
  rw [decide_eq_true (by omega),hmm,hml,hdd,List.map_append]
  rfl
 rw [hc,Option.bind_some,Zkk (x:=(sortT l).map Zbk) (by rw [decide_eq_true h0];rfl) hs (by rw [hml];simp),Option.bind_some,
  Zkk (by rw [decide_eq_true (by omega)];rfl) hcp (by
   dsimp only
   rw [List.length_append,List.length_map,List.length_replicate,hml,decide_eq_true (by omega)]
   rfl),Option.bind_some]
 dsimp only
 rw [show Int.toNat ((dictT l).length:Int)=(dictT l).length from rfl,Zf]
 exact Zep1 l hl 0 _ (by rw [List.drop_zero,List.take_left]) l.length 0 fu (by omega) (by omega) (by unfold fu;omega)
end Go.AM.Pure
end

section
/- Texts as they are, and by a dictionary: what is put, and what is taken of it. -/
namespace Go.AM.Pure
open Go.AM
def tB (s:ByteArray):List Int:=(s.size:Int) :: Zk s
def Zla (l:List ByteArray):List Int:=l.flatMap tB
def Short (l:List ByteArray):Prop:=∀ s∈l,s.size≤32
theorem Zfm (x:ByteArray) (d:List ByteArray):Zla (x :: d)=tB x++Zla d:=rfl
theorem Zgm (d:List ByteArray) (x:ByteArray):Zla (d++[x])=Zla d++tB x:=by unfold Zla;simp
theorem Zhm (s:ByteArray):(tB s).length=1+s.size:=by unfold tB;rw [List.length_cons,Zha];omega
theorem Zic3 {s:ByteArray} (h:s.size≤32):∀ b∈tB s,0≤b∧b<256:=fun b hb=>by
 rcases List.mem_cons.1 hb with rfl | hb
 ·omega
 ·exact Zlp1 s b hb
theorem Zif:∀ (d:List ByteArray),Short d→(Zla d).length≤33*d.length
 | [],_=>by simp [Zla]
 | x :: d,h=>by
  have:=Zif d fun s hs=>h s (List.mem_cons_of_mem _ hs)
  have h1:=Zhm x
  have h2:=h x (List.mem_cons_self ..)
  rw [Zfm,List.length_append,List.length_cons]
  omega
theorem Zxn:∀ (d:List ByteArray),Short d→∀ b∈Zla d,0≤b∧b<256
 | [],_,b,h=>by cases h
 | x :: d,hs,b,h=>by
  rw [Zfm] at h
  rcases List.mem_append.1 h with h | h
  ·exact Zic3 (hs x (List.mem_cons_self ..)) b h
  ·exact Zxn d (fun s h=>hs s (List.mem_cons_of_mem _ h)) b h
theorem Short.take {l:List ByteArray} (h:Short l) (i:Nat):Short (l.take i):=fun s hs=>h s (List.mem_of_mem_take hs)
theorem Short.dict {l:List ByteArray} (h:Short l):Short (dictT l):=fun s hs=>h s (((Zfh l).2 s).1 hs)
theorem Zpy {l:List ByteArray} {i:Nat} (h:i<l.length):Zla l=Zla (l.take i)++(tB l[i]++Zla (l.drop (i+1))):=by
 have:l=l.take i++l[i] :: l.drop (i+1):=by rw [← List.drop_eq_getElem_cons h,List.take_append_drop]
 have h2:Zla l=Zla (l.take i++l[i] :: l.drop (i+1)):=congrArg Zla this
 rw [h2]
 unfold Zla
 rw [List.flatMap_append,List.flatMap_cons]
theorem Zkv1 (b:Bool×List Int) (c:Int) (h:b.2.length<100000000000):Zzf b c=some (true,false,b.2++[c]):=by
 unfold Zzf
 show (bif roomB (b.2.length+1) 1 then _ else _)=_
 rw [Zna (by omega)]
 rfl
theorem Zm01 (o:List ByteArray) (hl:o.length≤65536) (hs:Short o):∀ (d i n:Nat) (f:Bool),d=o.length-i→i≤o.length→d<n→
  Zgc.l0 n o (o.length:Int) (i:Int) (f,Zla (o.take i))=some (ofBytes (Zla o),0):=by
 intro d
 induction d with
 | zero=>
  intro i n f hd hi hn
  have:i=o.length:=by omega
  subst this
  obtain ⟨n,rfl⟩:∃ k,n=k+1:=⟨n-1,by omega⟩
  show Zgc.S0 _ _ _ _ _=_
  unfold Zgc.S0
  rw [lt_f (by omega),cond_false,List.take_length,Zbz _ _ (Zxn o hs)]
  rfl
 | succ d ih=>
  intro i n f hd hi hn
  obtain ⟨n,rfl⟩:∃ k,n=k+1:=⟨n-1,by omega⟩
  have hlt:i<o.length:=by omega
  have h1:=Zif (o.take i) (hs.take i)
  rw [List.length_take] at h1
  have h2:=hs o[i] (List.getElem_mem hlt)
  show Zgc.S0 (Zgc.l0 n) _ _ _ _=_
  unfold Zgc.S0
  rw [lt_t (by omega),cond_true,Zu (by rw [Zf];omega),cond_true,Zy hlt,Zma,lt_f (by omega),cond_false,Zkv1 _ _ (by show (Zla _).length<_;omega),Option.bind_some,
   Zrs _ _ (by show (Zla _++[_]).length+_<_;rw [List.length_append,List.length_singleton];omega),Option.bind_some,Zn (by omega),Zth,show (o[i].size:Int) % 256=(o[i].size:Int) by omega]
  have:=ih (i+1) n false (by omega) (by omega) (by omega)
  rw [take_one hlt,Zgm,show Zla (o.take i)++tB o[i]=Zla (o.take i)++[(o[i].size:Int)]++Zk o[i] by unfold tB;simp] at this
  exact this
theorem Zdm (o:List ByteArray) (hl:o.length≤65536) (hs:Short o):Zgc o=some (ofBytes (Zla o),0):=
 Zm01 o hl hs o.length 0 fu true (by omega) (by omega) (by unfold fu;omega)
theorem Zyz2 {s:ByteArray} {a b r:List Int} (hs:Zk s=a++(b++r)):cutS s (a.length:Int) ((a.length+b.length:Nat):Int)=ofBytes b:=by
 have:=Zkr s a.length (a.length+b.length)
 rw [hs,List.drop_left,Nat.add_sub_cancel_left,List.take_left] at this
 rw [← Zrd (cutS s _ _),this]
structure TextAt (s:ByteArray) (p:Nat) (t:ByteArray):Prop where
 at0:byteAt s (p:Int)=(t.size:Int)
 fit:p+1+t.size≤s.size
 cut:cutS s ((p+1:Nat):Int) ((p+1+t.size:Nat):Int)=t
theorem Za4 {s t:ByteArray} {pre rest:List Int} (hs:Zk s=pre++(tB t++rest)):TextAt s pre.length t where
 at0:=Zdg hs (i:=pre.length) (by rw [List.getElem?_append_right (Nat.le_refl _),Nat.sub_self];rfl)
 fit:=by
  have:=congrArg List.length hs
  rw [Zha,List.length_append,List.length_append,Zhm] at this
  omega
 cut:=by
  have h2:Zk s=(pre++[(t.size:Int)])++(Zk t++rest):=by rw [hs];unfold tB;simp
  have:=Zyz2 h2
  rw [List.length_append,List.length_singleton,Zha] at this
  rw [this,Zrd]
theorem Zlv1 (l:List ByteArray) (hl:l.length≤65536) (hsh:Short l):∀ (d i n:Nat) (s:ByteArray),d=l.length-i→i≤l.length→d<n→Zk s=Zla (l.drop i)→
  Zea.l0 (Zea.t1 fu) n s (l.length:Int) (l.take i)=some (l,0):=by
 intro d
 induction d with
 | zero=>
  intro i n s hd hi hn hs
  have:i=l.length:=by omega
  subst this
  obtain ⟨n,rfl⟩:∃ k,n=k+1:=⟨n-1,by omega⟩
  rw [List.drop_length] at hs
  have he:s=eB:=size0.2 (by rw [← Zha,hs];rfl)
  show Zea.S0 Zea.S1 _ _ _ _=_
  unfold Zea.S0
  rw [eqS_t he,Bool.not_true,cond_false,List.take_length]
  unfold Zea.S1
  rw [Zf,ne_f rfl,cond_false]
 | succ d ih=>
  intro i n s hd hi hn hs
  obtain ⟨n,rfl⟩:∃ k,n=k+1:=⟨n-1,by omega⟩
  have hlt:i<l.length:=by omega
  rw [List.drop_eq_getElem_cons hlt,Zfm] at hs
  have ht:=Za4 (pre:=[]) (t:=l[i]) (rest:=Zla (l.drop (i+1))) hs
  have h32:=hsh l[i] (List.getElem_mem hlt)
  have hf:=ht.fit
  have h0:=ht.at0
  have hc:=ht.cut
  rw [List.length_nil] at hf h0 hc
  have hne:s≠eB:=fun he=>by have:=size0.1 he;omega
  have hrest:Zk (cutS s ((1+l[i].size:Nat):Int) (lenS s))=Zla (l.drop (i+1)):=by
   have:=Znf hs
   rwa [Zhm] at this
  have hsz:s.size≤33*l.length:=by
   have k1:=Zif (l.drop i) fun t ht=>hsh t (List.mem_of_mem_drop ht)
   rw [List.drop_eq_getElem_cons hlt,Zfm,← hs,Zha,List.length_cons,List.length_drop] at k1
   omega
  show Zea.S0 (Zea.t1 fu) (Zea.l0 (Zea.t1 fu) n) _ _ _=_
  unfold Zea.S0
  rw [show ((0:Nat):Int)=0 from rfl] at h0
  rw [eqS_f hne,Bool.not_false,cond_true,Zma,Zu (by omega),cond_true,h0,Zde (by omega),lt_f (by omega),cond_false,le_f (by omega),cond_false,Zn (by omega),show (1:Int)+(l[i].size:Int)=((1+l[i].size:Nat):Int) by omega,Zzb (by omega),cond_true,Zna (by rw [List.length_take];omega),cond_true,Zzb (by omega),cond_true]
  rw [Zma] at hrest
  rw [show 0+1+l[i].size=1+l[i].size by omega,show ((0+1:Nat):Int)=1 from rfl] at hc
  rw [hc]
  have:=ih (i+1) n _ (by omega) (by omega) (by omega) hrest
  rw [take_one hlt] at this
  exact this
theorem Zqy (l:List ByteArray) (hl:l.length≤65536) (hsh:Short l) {s:ByteArray} (hs:Zk s=Zla l):Zea s (l.length:Int)=some (l,0):=
 Zlv1 l hl hsh l.length 0 fu s (by omega) (by omega) (by unfold fu;omega) (by rw [List.drop_zero];exact hs)
def Zkj (l:List ByteArray) (v:Nat):List Int:=if l.length=0 then [] else vB ((dictT l).length:Int)++(Zla (dictT l)++packB (Zca l) v)
theorem Za7 (l:List ByteArray) (hl:l.length≤65536) (hsh:Short l) {v:Nat} (hv:Zxb (Zca l)=some (v:Int)) (h64:v≤64):Zan l=some (ofBytes (Zkj l v),0):=by
 unfold Zan Zkg Zkj
 rw [Zf,lt_f (by omega),cond_false]
 by_cases h0:l.length=0
 ·rw [eq_t (by omega),cond_true,if_pos h0]
  rfl
 ·have hdl:=Zvg l
  have hpl:(Zca l).length=l.length:=Zfg _ _
  have hb:(Zca l).length*v≤65536*64:=Nat.mul_le_mul (by omega) h64
  have hpb:=Zpe (Zca l) v
  have k1:=Zbe ((dictT l).length:Int)
  have k2:=Zif _ hsh.dict
  rw [eq_f (by omega),cond_false,if_neg h0,Zrq l hl (by omega),Option.bind_some]
  dsimp only
  rw [Zdm _ (by omega) hsh.dict,Option.bind_some]
  dsimp only
  rw [ne_f rfl,cond_false,hv,Option.bind_some,Zim (Zca l) h64 (by omega) hv (Nat.le_refl _),Option.bind_some,Zf,Zhh,Option.bind_some,Zwe,Zme]
  dsimp only
  have r1:roomS (ofBytes (vB ((dictT l).length:Int))) (ofBytes (Zla (dictT l)))=true:=decide_eq_true (by rw [Zv,Zv];omega)
  have r2:roomS (ofBytes (vB ((dictT l).length:Int)++Zla (dictT l))) (ofBytes (packB (Zca l) v))=true:=decide_eq_true (by rw [Zv,Zv,List.length_append];omega)
  rw [r1,r2,Zme,cond_true,cond_true,List.append_assoc]
  rfl
theorem Zzj2 {s t:ByteArray} {rest:List Int} (h32:t.size≤32) (hs:Zk s=tB t++rest) (hsz:s.size<100000000):Zti s=some (t,((tB t).length:Int)):=by
 have ht:=Za4 (pre:=[]) hs
 have hf:=ht.fit
 have h0:=ht.at0
 have hc:=ht.cut
 rw [List.length_nil] at hf h0 hc
 have hne:s≠eB:=fun he=>by have:=size0.1 he;omega
 rw [show ((0:Nat):Int)=0 from rfl] at h0
 rw [show 0+1+t.size=1+t.size by omega,show ((0+1:Nat):Int)=1 from rfl] at hc
 unfold Zti
 rw [eqS_f hne,cond_false,Zma,Zu (by omega),cond_true,h0,Zde (by omega),lt_f (by omega),cond_false,le_f (by omega),cond_false,Zn (by omega),show (1:Int)+(t.size:Int)=((1+t.size:Nat):Int) by omega,Zzb (by omega),cond_true,hc,Zhm]
theorem Zn01 {D:List ByteArray} (hD:D.length≤65536) (hinc:Inc cmpS D) (h32:Short D) {s:ByteArray} {pre tail:List Int} (hs:Zk s=pre++(Zla D++tail)) (hsz:s.size<100000000) {o1:ByteArray→Int→Int→Int→List ByteArray→Option (List ByteArray×List Int×Int)} {xn size:Int}:
  ∀ (d i n:Nat),d=D.length-i→i≤D.length→d<n→
  Za.l0 o1 n s xn size ((pre.length+(Zla (D.take i)).length:Nat):Int) (D.take i) (D.length:Int) (i:Int)=o1 s xn size ((pre.length+(Zla D).length:Nat):Int) D:=by
 have hsl:s.size=pre.length+((Zla D).length+tail.length):=by rw [← Zha,hs,List.length_append,List.length_append]
 intro d
 induction d with
 | zero=>
  intro i n hd hi hn
  have:i=D.length:=by omega
  subst this
  obtain ⟨n,rfl⟩:∃ k,n=k+1:=⟨n-1,by omega⟩
  show Za.S0 _ _ _ _ _ _ _ _ _=_
  unfold Za.S0
  rw [lt_f (by omega),cond_false,List.take_length]
 | succ d ih=>
  intro i n hd hi hn
  obtain ⟨n,rfl⟩:∃ k,n=k+1:=⟨n-1,by omega⟩
  have hlt:i<D.length:=by omega
  show Za.S0 o1 (Za.l0 o1 n) _ _ _ _ _ _ _=_
  unfold Za.S0
  have hsplit:=Zpy hlt
  have hil:(Zla (D.take i)).length+(tB D[i]).length≤(Zla D).length:=by rw [hsplit,List.length_append,List.length_append];omega
  have hcut:Zk (cutS s ((pre.length+(Zla (D.take i)).length:Nat):Int) (lenS s))=tB D[i]++(Zla (D.drop (i+1))++tail):=by
   have:=Znf (s:=s) (a:=pre++Zla (D.take i)) (rest:=tB D[i]++(Zla (D.drop (i+1))++tail)) (by rw [hs,hsplit];simp)
   rw [List.length_append] at this
   exact this
  have hv:=Zhm D[i]
  have htl:(D.take i).length=i:=by rw [List.length_take];omega
  have hnx:addI .i64 ((pre.length+(Zla (D.take i)).length:Nat):Int) ((tB D[i]).length:Int)=((pre.length+(Zla (D.take (i+1))).length:Nat):Int):=by
   have:(Zla (D.take (i+1))).length=(Zla (D.take i)).length+(tB D[i]).length:=by rw [take_one hlt,Zgm,List.length_append]
   rw [Zn (by omega),this]
   omega
  have hcs:(cutS s ((pre.length+(Zla (D.take i)).length:Nat):Int) (lenS s)).size<100000000:=by
   rw [← Zha,hcut,List.length_append,List.length_append]
   have:=congrArg List.length hsplit
   rw [List.length_append,List.length_append] at this
   omega
  rw [lt_t (by omega),cond_true,Zzb (by rw [Zma];omega),cond_true,Zzj2 (h32 _ (List.getElem_mem hlt)) hcut hcs,Option.bind_some]
  dsimp only
  rw [eq_f (by omega),cond_false,hnx,Zn (by omega),← take_one hlt]
  have:=ih (i+1) n (by omega) (by omega) (by omega)
  rw [Zna (by omega)]
  by_cases hi0:i=0
  ·rw [lt_f (by omega),cond_false,cond_true]
   exact this
  ·have hlt1:i-1<(D.take i).length:=by omega
   have hup:=hinc.at (show i-1<i by omega) hlt
   have hle:(ltS D[i] (D.take i)[i-1] || eqS D[i] (D.take i)[i-1])=false:=by
    rw [ltS_d,List.getElem_take,decide_eq_false (Zmi.asym hup),eqS_f (fun e=>by
     have:=(Zmi.eq0 _ _).2 e
     rw [Zmi.neg D[i-1] D[i],hup] at this
     exact absurd this (by decide))]
    rfl
   rw [lt_t (by omega),cond_true,Zqb (by omega),Zu (by rw [Zf,htl];omega),cond_true,show (i:Int)-1=((i-1:Nat):Int) by omega,Zy hlt1,hle,cond_false,cond_true]
   exact this
theorem Zo01 {D:List ByteArray} {P:List Int} (hP:P.length≤65536) (hPm:∀ x∈P,0≤x∧x<(D.length:Int)) {o3:List ByteArray→List Int→List Bool→Option (List ByteArray×List Int×Int)}:
  ∀ (d i n:Nat),d=P.length-i→i≤P.length→d<n→
  Za.l2 o3 n (D.length:Int) D P P (P.length:Int) (i:Int) (seenB D.length (P.take i))=o3 D P (seenB D.length P):=by
 intro d
 induction d with
 | zero=>
  intro i n hd hi hn
  have:i=P.length:=by omega
  subst this
  obtain ⟨n,rfl⟩:∃ k,n=k+1:=⟨n-1,by omega⟩
  show Za.S2 _ _ _ _ _ _ _ _ _=_
  unfold Za.S2
  rw [lt_f (by omega),cond_false,List.take_length]
 | succ d ih=>
  intro i n hd hi hn
  obtain ⟨n,rfl⟩:∃ k,n=k+1:=⟨n-1,by omega⟩
  have hlt:i<P.length:=by omega
  have hx:=hPm P[i] (List.getElem_mem hlt)
  have hsl:(seenB D.length (P.take i)).length=D.length:=by unfold seenB;simp
  show Za.S2 o3 (Za.l2 o3 n) _ _ _ _ _ _ _=_
  unfold Za.S2
  rw [lt_t (by omega),cond_true,Zu (by rw [Zf];omega),cond_true,Zy hlt,lt_f hx.1,cond_false,le_f hx.2,cond_false,Zu (by rw [Zf,hsl];exact hx),cond_true,Zn (by omega),Zih1 _ _ _ hx.1,← take_one hlt]
  exact ih (i+1) n (by omega) (by omega) (by omega)
theorem Zmv1 {D:List ByteArray} {P:List Int} (hP:P.length≤65536) (hPm:∀ x∈P,0≤x∧x<(D.length:Int)):∀ (d i n:Nat),d=P.length-i→i≤P.length→d<n→
  Zbb.l0 n D ((P.take i).map fun x=>D.getD x.toNat eB) P (P.length:Int) (i:Int)=some (P.map fun x=>D.getD x.toNat eB):=by
 intro d
 induction d with
 | zero=>
  intro i n hd hi hn
  have:i=P.length:=by omega
  subst this
  obtain ⟨n,rfl⟩:∃ k,n=k+1:=⟨n-1,by omega⟩
  show Zbb.S0 _ _ _ _ _ _=_
  unfold Zbb.S0
  rw [lt_f (by omega),cond_false,List.take_length]
 | succ d ih=>
  intro i n hd hi hn
  obtain ⟨n,rfl⟩:∃ k,n=k+1:=⟨n-1,by omega⟩
  have hlt:i<P.length:=by omega
  have hx:=hPm P[i] (List.getElem_mem hlt)
  show Zbb.S0 (Zbb.l0 n) _ _ _ _ _=_
  unfold Zbb.S0
  rw [lt_t (by omega),cond_true,Zu (by rw [Zf];omega),cond_true,Zy hlt,Zu (by rw [Zf];exact hx),cond_true,Zna (by rw [List.length_map,List.length_take];omega),cond_true,Zn (by omega)]
  have:=ih (i+1) n (by omega) (by omega) (by omega)
  rw [take_one hlt,List.map_append] at this
  exact this
theorem Zyf1 (l:List ByteArray) (hl:l.length≤65536) (hsh:Short l) {v:Nat} (hv64:v≤64) (hwd:Wd (Zca l) v) {s:ByteArray} (hs:Zk s=Zkj l v) (h0:0<l.length):
  Za s (l.length:Int)=some (dictT l,Zca l,0):=by
 have hdl:=Zvg l
 have hsp:=Zfh l
 have hdp:=hsp.pos h0
 have hpl:(Zca l).length=l.length:=Zfg _ _
 have hs':Zk s=vB ((dictT l).length:Int)++(Zla (dictT l)++packB (Zca l) v):=by
  unfold Zkj at hs
  rwa [if_neg (by omega)] at hs
 have hb:(Zca l).length*v≤65536*64:=Nat.mul_le_mul (by omega) hv64
 have hpb:=Zpe (Zca l) v
 have k1:=Zbe ((dictT l).length:Int)
 have k2:=Zif _ hsh.dict
 have hsz:s.size=(vB ((dictT l).length:Int)).length+((Zla (dictT l)).length+(packB (Zca l) v).length):=by rw [← Zha,hs',List.length_append,List.length_append]
 show Za.S (Za.l0 (Za.t1 fu) fu) s _=_
 unfold Za.S
 rw [lt_f (by omega),cond_false,lt_f (by omega),cond_false,eq_f (by omega),cond_false,Zwg (by unfold in64;omega) hs',Option.bind_some]
 dsimp only
 rw [ne_f rfl,cond_false,lt_f (by omega),cond_false,lt_f (by omega),cond_false]
 have hloop:=Zn01 (D:=dictT l) (by omega) hsp.1 hsh.dict hs' (by omega) (o1:=Za.t1 fu) (xn:=(l.length:Int)) (size:=((dictT l).length:Int)) (dictT l).length 0 fu (by omega) (by omega) (by unfold fu;omega)
 rw [List.take_zero,show Zla []=[] from rfl,List.length_nil,Nat.add_zero] at hloop
 rw [show (0:Int)=((0:Nat):Int) from rfl,hloop]
 show Za.S1 (Za.l2 (Za.t3 18446744073709551615) 18446744073709551615) s _ _ _ _=_
 unfold Za.S1
 obtain ⟨v',w1,w2,w3⟩:=Zsh [((dictT l).length:Int)-1] (by simp)
 have hvv:v'=v:=(Zp01 Zmi hsp h0 w3 (by omega)).unique hwd
 subst hvv
 have hcut:Zk (cutS s (((vB ((dictT l).length:Int)).length+(Zla (dictT l)).length:Nat):Int) (lenS s))=packB (Zca l) v':=by
  have:=Znf (s:=s) (a:=vB ((dictT l).length:Int)++Zla (dictT l)) (rest:=packB (Zca l) v') (by rw [hs',List.append_assoc])
  rw [List.length_append] at this
  exact this
 have hpk:=Zvk (l:=Zca l) (w:=v') hv64 (by omega) (fun x hx=>by have:=Zlj hsp x hx;unfold in64;omega) hwd.1 hcut
 rw [hpl] at hpk
 rw [Zzb (by rw [Zma];omega),cond_true,Zqb (by omega),w1,Option.bind_some,hpk,Option.bind_some]
 dsimp only
 rw [ne_f rfl,cond_false,le_t (by omega),Zna (by show (dictT l).length*1≤_;omega)]
 have hseen0:List.replicate (Int.toNat ((dictT l).length:Int)) false=seenB (dictT l).length ((Zca l).take 0):=by
  unfold seenB
  rw [List.take_zero]
  symm
  rw [List.eq_replicate_iff]
  refine ⟨by simp,fun b hb=>?_⟩
  obtain ⟨k,_,rfl⟩:=List.mem_map.1 hb
  rfl
 have hl2:=Zo01 (D:=dictT l) (P:=Zca l) (by omega) (fun x hx=>Zlj hsp x hx) (o3:=Za.t3 18446744073709551615) (Zca l).length 0 18446744073709551615 (by omega) (by omega) (by omega)
 rw [hseen0,Zf]
 refine Eq.trans hl2 ?_
 show Za.S3 (dictT l) (Zca l) (seenB (dictT l).length (Zca l))=_
 unfold Za.S3
 have hsb:∀ b∈seenB (dictT l).length (Zca l),b=true:=fun b hb=>by
  unfold seenB at hb
  obtain ⟨k,hk,rfl⟩:=List.mem_map.1 hb
  exact List.any_eq_true.2 ⟨_,Zeq1 Zmi hsp (List.mem_range.1 hk),decide_eq_true rfl⟩
 have hsbl:(seenB (dictT l).length (Zca l)).length=(dictT l).length:=by unfold seenB;simp
 have hcon:Zgd (seenB (dictT l).length (Zca l)) false=some false:=by
  unfold Zgd
  have:=Zk8 _ (by omega) hsb (seenB (dictT l).length (Zca l)).length 0 fu (by omega) (by omega) (by unfold fu;omega)
  have h2:Zpa (seenB (dictT l).length (Zca l)) false=some (-1):=this
  rw [h2]
  rfl
 rw [hcon]
 rfl
theorem Zp5 (l:List ByteArray) (hl:l.length≤65536) (hsh:Short l) {v:Nat} (hv64:v≤64) (hwd:Wd (Zca l) v) {s:ByteArray} (hs:Zk s=Zkj l v):
  Zhi s (l.length:Int)=some (l,0):=by
 unfold Zhi Zdp
 by_cases h0:l.length=0
 ·have hse:s=eB:=size0.2 (by rw [← Zha,hs];unfold Zkj;rw [if_pos h0];rfl)
  have:l=[]:=List.eq_nil_of_length_eq_zero h0
  subst this
  have h1:Za s (([]:List ByteArray).length:Int)=some ([],[],0):=by
   show Za.S _ s 0=_
   unfold Za.S
   rw [lt_f (by omega),cond_false,lt_f (by omega),cond_false,eq_t rfl,cond_true,eqS_t hse]
   rfl
  rw [h1]
  rfl
 ·have hdl:=Zvg l
  have hsp:=Zfh l
  rw [Zyf1 l hl hsh hv64 hwd hs (by omega),Option.bind_some,Option.bind_some]
  dsimp only
  rw [ne_f rfl,cond_false]
  have:=Zmv1 (D:=dictT l) (P:=Zca l) (by rw [Zfg];exact hl) (fun x hx=>Zlj hsp x hx) (Zca l).length 0 fu (by omega) (by omega) (by rw [Zfg];unfold fu;omega)
  have h2:Zbb (dictT l) (Zca l)=some ((Zca l).map fun x=>(dictT l).getD x.toNat eB):=this
  rw [h2,Zrw hsp eB]
  rfl
end Go.AM.Pure
end

section
/- Texts by runs of places; words by a code; blocks of any kind. -/
namespace Go.AM.Pure
open Go.AM
def runTB (l:List ByteArray):List Int:=if l.length=0 then [] else vB ((dictT l).length:Int)++(Zla (dictT l)++runB (runO (Zca l)))
theorem Ziv1 {D:List ByteArray} (hD:D.length≤65536) (h32:Short D) {s:ByteArray} {pre tail:List Int} (hs:Zk s=pre++(Zla D++tail)) (hsz:s.size<100000000) {o1:ByteArray→Int→Int→Int→List ByteArray→Option (List ByteArray×Int)} {xn size:Int}:
  ∀ (d i n:Nat),d=D.length-i→i≤D.length→d<n→
  Zr.l0 o1 n s xn size ((pre.length+(Zla (D.take i)).length:Nat):Int) (D.take i) (D.length:Int) (i:Int)=o1 s xn size ((pre.length+(Zla D).length:Nat):Int) D:=by
 have hsl:s.size=pre.length+((Zla D).length+tail.length):=by rw [← Zha,hs,List.length_append,List.length_append]
 intro d
 induction d with
 | zero=>
  intro i n hd hi hn
  have:i=D.length:=by omega
  subst this
  obtain ⟨n,rfl⟩:∃ k,n=k+1:=⟨n-1,by omega⟩
  show Zr.S0 _ _ _ _ _ _ _ _ _=_
  unfold Zr.S0
  rw [lt_f (by omega),cond_false,List.take_length]
 | succ d ih=>
  intro i n hd hi hn
  obtain ⟨n,rfl⟩:∃ k,n=k+1:=⟨n-1,by omega⟩
  have hlt:i<D.length:=by omega
  have hsplit:=Zpy hlt
  have hil:=congrArg List.length hsplit
  rw [List.length_append,List.length_append,Zhm] at hil
  have ht:=Za4 (s:=s) (t:=D[i]) (pre:=pre++Zla (D.take i)) (rest:=Zla (D.drop (i+1))++tail) (by rw [hs,hsplit];simp)
  have hf:=ht.fit
  have h0:=ht.at0
  have hc:=ht.cut
  have h3:=h32 D[i] (List.getElem_mem hlt)
  rw [List.length_append] at hf h0 hc
  have hnx:(Zla (D.take (i+1))).length=(Zla (D.take i)).length+(1+D[i].size):=by rw [take_one hlt,Zgm,List.length_append,Zhm]
  show Zr.S0 o1 (Zr.l0 o1 n) _ _ _ _ _ _ _=_
  unfold Zr.S0
  generalize hp:pre.length+(Zla (D.take i)).length=p at hf h0 hc
  rw [lt_t (by omega),cond_true,Zma,le_f (by omega),cond_false,Zu (by omega),cond_true,h0,Zde (by omega),Zqb (by omega),le_f (by omega),cond_false,cond_true,Zn (a:=(p:Int)) (b:=1) (by omega),show (p:Int)+1=((p+1:Nat):Int) by omega,Zn (by omega),show ((p+1:Nat):Int)+(D[i].size:Int)=((p+1+D[i].size:Nat):Int) by omega,
   Zzb (by omega),cond_true,Zna (by rw [List.length_take];omega),cond_true,hc,Zn (by omega),← take_one hlt]
  have:=ih (i+1) n (by omega) (by omega) (by omega)
  rw [show pre.length+(Zla (D.take (i+1))).length=p+1+D[i].size by omega] at this
  exact this
theorem Zjv1 {D:List ByteArray} {P:List Int} (hP:P.length≤65536) (hPm:∀ x∈P,0≤x∧x<(D.length:Int)):∀ (d i n:Nat),d=P.length-i→i≤P.length→d<n→
  Zr.l2 n (D.length:Int) D ((P.take i).map fun x=>D.getD x.toNat eB) P (P.length:Int) (i:Int)=some (P.map fun x=>D.getD x.toNat eB,0):=by
 intro d
 induction d with
 | zero=>
  intro i n hd hi hn
  have:i=P.length:=by omega
  subst this
  obtain ⟨n,rfl⟩:∃ k,n=k+1:=⟨n-1,by omega⟩
  show Zr.S2 _ _ _ _ _ _ _=_
  unfold Zr.S2
  rw [lt_f (by omega),cond_false,List.take_length]
 | succ d ih=>
  intro i n hd hi hn
  obtain ⟨n,rfl⟩:∃ k,n=k+1:=⟨n-1,by omega⟩
  have hlt:i<P.length:=by omega
  have hx:=hPm P[i] (List.getElem_mem hlt)
  show Zr.S2 (Zr.l2 n) _ _ _ _ _ _=_
  unfold Zr.S2
  rw [lt_t (by omega),cond_true,Zu (by rw [Zf];omega),cond_true,Zy hlt,lt_f hx.1,cond_false,le_f hx.2,cond_false,Zu (by rw [Zf];exact hx),cond_true,Zna (by rw [List.length_map,List.length_take];omega),cond_true,Zn (by omega)]
  have:=ih (i+1) n (by omega) (by omega) (by omega)
  rw [take_one hlt,List.map_append] at this
  exact this
theorem Zz6 (l:List ByteArray) (hl:l.length≤65536) (hsh:Short l) {s:ByteArray} (hs:Zk s=runTB l):Zr s (l.length:Int)=some (l,0):=by
 show Zr.S (Zr.l0 (Zr.t1 fu) fu) s _=_
 unfold Zr.S
 unfold runTB at hs
 by_cases h0:l.length=0
 ·rw [if_pos h0] at hs
  have hse:s=eB:=size0.2 (by rw [← Zha,hs];rfl)
  rw [eq_t (by omega),cond_true,eqS_t hse,List.eq_nil_of_length_eq_zero h0]
  rfl
 ·rw [if_neg h0] at hs
  have hdl:=Zvg l
  have hsp:=Zfh l
  have hdp:=hsp.pos (by omega)
  have hpl:(Zca l).length=l.length:=Zfg _ _
  have k1:=Zbe ((dictT l).length:Int)
  have k2:=Zif _ hsh.dict
  obtain ⟨r1,r2,r3⟩:=Zik (Zca l) (by omega)
  have k3:=Zdj (runO (Zca l))
  have k4:=Zbg _ _ _ r3
  rw [r2] at k4
  have hsz:s.size=(vB ((dictT l).length:Int)).length+((Zla (dictT l)).length+(runB (runO (Zca l))).length):=by rw [← Zha,hs,List.length_append,List.length_append]
  rw [eq_f (by omega),cond_false,Zwg (by unfold in64;omega) hs,Option.bind_some]
  dsimp only
  rw [ne_f rfl,cond_false,lt_f (by omega),cond_false,lt_f (by omega),cond_false]
  have hloop:=Ziv1 (D:=dictT l) (by omega) hsh.dict hs (by omega) (o1:=Zr.t1 fu) (xn:=(l.length:Int)) (size:=((dictT l).length:Int)) (dictT l).length 0 fu (by omega) (by omega) (by unfold fu;omega)
  rw [List.take_zero,show Zla []=[] from rfl,List.length_nil,Nat.add_zero] at hloop
  rw [show (0:Int)=((0:Nat):Int) from rfl,hloop]
  show Zr.S1 (Zr.l2 18446744073709551615) s _ _ _ _=_
  unfold Zr.S1
  have hcut:Zk (cutS s (((vB ((dictT l).length:Int)).length+(Zla (dictT l)).length:Nat):Int) (lenS s))=runB (runO (Zca l)):=by
   have:=Znf (s:=s) (a:=vB ((dictT l).length:Int)++Zla (dictT l)) (rest:=runB (runO (Zca l))) (by rw [hs,List.append_assoc])
   rw [List.length_append] at this
   exact this
  have ht:=Zmr (runO (Zca l)) r3 (by rw [r2];omega) (fun r hr=>by
   have hm:r.1∈Zca l:=r2 ▸ Zlr r3 r hr
   have:=Zlj hsp r.1 hm
   unfold in64;omega) hcut
  rw [r2,hpl] at ht
  rw [Zzb (by rw [Zma];omega),cond_true,ht,Option.bind_some]
  dsimp only
  rw [ne_f rfl,cond_false,Zuk _ r3 (by rw [r2];omega),r2,Option.bind_some]
  dsimp only
  rw [ne_f rfl,cond_false]
  have:=Zjv1 (D:=dictT l) (P:=Zca l) (by omega) (fun x hx=>Zlj hsp x hx) (Zca l).length 0 18446744073709551615 (by omega) (by omega) (by omega)
  rw [Zrw hsp eB] at this
  exact this
def wordB (l:List ByteArray) (code:Int):Option (List Int):=
 if code=1 then some (Zla l)
 else if code=4 then some (Zkj l (widN (Zca l)))
 else if code=2 then some (runTB l)
 else none
theorem Zcc1 (l:List ByteArray) (hl:l.length≤65536) (hsh:Short l) (code:Int):Zok l code=some (match wordB l code with | some b=>(ofBytes b,0) | none=>(eB,1)):=by
 have hpl:(Zca l).length=l.length:=Zfg _ _
 unfold Zok wordB
 by_cases h1:code=1
 ·rw [eq_t h1,cond_true,if_pos h1,Zdm l hl hsh]
  rfl
 ·rw [eq_f h1,cond_false,if_neg h1]
  by_cases h4:code=4
  ·obtain ⟨k1,k2,_⟩:=Zte (Zca l) (by omega)
   rw [eq_t h4,cond_true,if_pos h4,Za7 l hl hsh k1 k2]
   rfl
  ·rw [eq_f h4,cond_false,if_neg h4]
   by_cases h2:code=2
   ·rw [eq_t h2,cond_true,if_pos h2,Zf]
    unfold runTB
    by_cases h0:l.length=0
    ·rw [eq_t (by omega),cond_true,if_pos h0]
     rfl
    ·obtain ⟨r1,r2,r3⟩:=Zik (Zca l) (by omega)
     have hdl:=Zvg l
     have k1:=Zbe ((dictT l).length:Int)
     have k2:=Zif _ hsh.dict
     have k3:=Zdj (runO (Zca l))
     have k4:=Zbg _ _ _ r3
     rw [r2] at k4
     rw [eq_f (by omega),cond_false,if_neg h0,Zrq l hl (by omega),Option.bind_some]
     dsimp only
     rw [Zdm _ (by omega) hsh.dict,Option.bind_some]
     dsimp only
     rw [ne_f rfl,cond_false,r1,Option.bind_some,Zw5 _ r3 (by rw [r2];omega),Option.bind_some,Zf,Zhh,Option.bind_some,Zwe,Zme]
     dsimp only
     have r1:roomS (ofBytes (vB ((dictT l).length:Int))) (ofBytes (Zla (dictT l)))=true:=decide_eq_true (by rw [Zv,Zv];omega)
     have r2:roomS (ofBytes (vB ((dictT l).length:Int)++Zla (dictT l))) (ofBytes (runB (runO (Zca l))))=true:=decide_eq_true (by rw [Zv,Zv,List.length_append];omega)
     rw [r1,r2,Zme,cond_true,cond_true,List.append_assoc]
   ·rw [eq_f h2,cond_false,if_neg h2]
theorem Zk01 {l:List ByteArray} (hl:l.length≤65536) (hsh:Short l) {code:Int} {b:List Int} (h:wordB l code=some b):(∀ x∈b,0≤x∧x<256)∧b.length≤60*l.length+40:=by
 have hpl:(Zca l).length=l.length:=Zfg _ _
 have hdl:=Zvg l
 have k1:=Zbe ((dictT l).length:Int)
 have k2:=Zif _ hsh.dict
 unfold wordB at h
 split at h
 ·cases h
  have:=Zif l hsh
  exact ⟨Zxn l hsh,by omega⟩
 ·split at h
  ·cases h
   obtain ⟨_,w2,_⟩:=Zte (Zca l) (by omega)
   have h3:(packB (Zca l) (widN (Zca l))).length≤8*l.length:=by
    rw [Zpe,hpl]
    have:l.length*widN (Zca l)≤l.length*64:=Nat.mul_le_mul_left _ w2
    omega
   unfold Zkj
   split
   ·exact ⟨fun x hx=>(by cases hx),by simp⟩
   ·refine ⟨fun x hx=>?_,by rw [List.length_append,List.length_append];omega⟩
    rcases List.mem_append.1 hx with hx | hx
    ·exact Zzj _ x hx
    ·rcases List.mem_append.1 hx with hx | hx
     ·exact Zxn _ hsh.dict x hx
     ·exact Zxk _ _ x hx
  ·split at h
   ·cases h
    obtain ⟨r1,r2,r3⟩:=Zik (Zca l) (by omega)
    have k3:=Zdj (runO (Zca l))
    have k4:=Zbg _ _ _ r3
    rw [r2] at k4
    unfold runTB
    split
    ·exact ⟨fun x hx=>(by cases hx),by simp⟩
    ·refine ⟨fun x hx=>?_,by rw [List.length_append,List.length_append];omega⟩
     rcases List.mem_append.1 hx with hx | hx
     ·exact Zzj _ x hx
     ·rcases List.mem_append.1 hx with hx | hx
      ·exact Zxn _ hsh.dict x hx
      ·exact Zuw _ x hx
   ·cases h
theorem Zdc1 {l:List ByteArray} (hl:l.length≤65536) (hsh:Short l) {code:Int} {b:List Int} (h:wordB l code=some b) {s:ByteArray} (hs:Zk s=b):Zgj s (l.length:Int) code=some (l,0):=by
 have hpl:(Zca l).length=l.length:=Zfg _ _
 unfold wordB at h
 unfold Zgj
 by_cases h1:code=1
 ·rw [if_pos h1] at h
  cases h
  rw [eq_t h1,cond_true,Zqy l hl hsh hs]
  rfl
 ·rw [if_neg h1] at h
  rw [eq_f h1,cond_false]
  by_cases h4:code=4
  ·rw [if_pos h4] at h
   cases h
   obtain ⟨k1,k2,k3⟩:=Zte (Zca l) (by omega)
   rw [eq_f (by omega),cond_false,eq_t h4,cond_true,Zp5 l hl hsh k2 k3 hs]
   rfl
  ·rw [if_neg h4] at h
   by_cases h2:code=2
   ·rw [if_pos h2] at h
    cases h
    rw [eq_t h2,cond_true,Zz6 l hl hsh hs]
    rfl
   ·rw [if_neg h2] at h
    cases h
theorem Zl01 (l:List ByteArray) (hl:l.length≤65536) (h:Int×Int×Int×Int) (e:Int):∀ (d i n:Nat),d=l.length-i→i≤l.length→d<n→
  Zga.l1 n ((l.take i).map fun x=>((h.1,0,x):Cell)) e l (l.length:Int) (i:Int) h=some (l.map fun x=>((h.1,0,x):Cell),e):=by
 intro d
 induction d with
 | zero=>
  intro i n hd hi hn
  have:i=l.length:=by omega
  subst this
  obtain ⟨n,rfl⟩:∃ k,n=k+1:=⟨n-1,by omega⟩
  show Zga.S1 _ _ _ _ _ _ _=_
  unfold Zga.S1
  rw [lt_f (by omega),cond_false,List.take_length]
 | succ d ih=>
  intro i n hd hi hn
  obtain ⟨n,rfl⟩:∃ k,n=k+1:=⟨n-1,by omega⟩
  have hlt:i<l.length:=by omega
  show Zga.S1 (Zga.l1 n) _ _ _ _ _ _=_
  unfold Zga.S1
  rw [lt_t (by omega),cond_true,Zu (by rw [Zf];omega),cond_true,Zna (by rw [List.length_map,List.length_take];omega),cond_true,Zy hlt,Zn (by omega)]
  have:=ih (i+1) n (by omega) (by omega) (by omega)
  rw [take_one hlt,List.map_append] at this
  exact this
theorem Zf8 {s:ByteArray} {l:List ByteArray} (hl:l.length≤65536) {code k n:Int} (hs:Zgj s n code=some (l,0)) (m:Int):Zga s n (2,code,m,k)=some (l.map fun x=>((2,0,x):Cell),0):=by
 show Zga.S _ (Zga.l1 fu) s n _=_
 unfold Zga.S
 dsimp only
 rw [eq_f (by omega),cond_false,eq_t rfl,cond_true,hs,Option.bind_some]
 exact Zl01 l hl (2,code,m,k) 0 l.length 0 fu (by omega) (by omega) (by unfold fu;omega)
def valB (l:List Cell) (kind code:Int):Option (List Int):=if kind=1 then numB (numsC l) code else wordB (txtsC l) code
theorem Zoy {l:List Cell} {kind:Int} (h:MayB l kind):∀ c∈restC l,(kind=1∧∃ n,c=(1,n,eB))∨(kind=2∧∃ t,c=(2,0,t)∧t.size≤32):=fun c hc=>by
 unfold restC at hc
 obtain ⟨h1,h2⟩:=List.mem_filter.1 hc
 obtain ⟨h3,h4⟩:=h.2.2.2 c h1
 rcases Zf7 h3 with rfl | ⟨n,rfl⟩ | ⟨t,rfl,ht⟩
 ·exact absurd h2 (by decide)
 ·rcases h4 with h4 | h4
  ·exact absurd h4 (by show ¬ (1:Int)=0;decide)
  ·exact .inl ⟨h4.symm,n,rfl⟩
 ·rcases h4 with h4 | h4
  ·exact absurd h4 (by show ¬ (2:Int)=0;decide)
  ·exact .inr ⟨h4.symm,t,rfl,ht⟩
theorem Zlp {l:List Cell} {kind:Int} (h:MayB l kind):Short (txtsC (restC l)):=fun t ht=>by
 obtain ⟨c,hc,rfl⟩:=List.mem_map.1 ht
 rcases Zoy h c hc with ⟨_,n,rfl⟩ | ⟨_,t,rfl,h⟩
 ·exact Nat.zero_le _
 ·exact h
theorem Zgn {l:List Cell} {kind:Int} (h:MayB l kind) (code:Int):Zza (restC l) kind code=some (match valB (restC l) kind code with | some b=>(ofBytes b,0) | none=>(eB,1)):=by
 have hle:=Zag l
 have h2:=h.2.1
 rw [Zg8 _ (by omega)]
 unfold valB
 by_cases hk:kind=1
 ·rw [eq_t hk,cond_true,if_pos hk,Zb7 _ (by rw [List.length_map];omega)]
  rfl
 ·rw [eq_f hk,cond_false,if_neg hk,Zcc1 _ (by rw [List.length_map];omega) (Zlp h)]
theorem Zqw {l:List Cell} {kind:Int} (h:MayB l kind) {code:Int} {b:List Int} (hb:valB (restC l) kind code=some b):(∀ x∈b,0≤x∧x<256)∧b.length≤10000:=by
 have hle:=Zag l
 have h2:=h.2.1
 unfold valB at hb
 split at hb
 ·obtain ⟨h3,h4⟩:=Zgh1 (by rw [List.length_map];omega) hb
  rw [List.length_map] at h4
  exact ⟨h3,by omega⟩
 ·obtain ⟨h3,h4⟩:=Zk01 (by rw [List.length_map];omega) (Zlp h) hb
  rw [List.length_map] at h4
  exact ⟨h3,by omega⟩
theorem Zps {l:List Cell} {kind code:Int} {b:List Int} (hb:valB l kind code=some b):1≤code∧code≤5:=by
 unfold valB numB wordB at hb
 repeat' split at hb
 all_goals first
  | omega
  | cases hb
theorem Zdq1 {l:List Cell} {kind code:Int} (h:MayB l kind) {b:List Int} (hb:valB (restC l) kind code=some b):Zhg l kind code=some (ofBytes (sealB (blkT l kind code b)),0):=by
 obtain ⟨h1,h2⟩:=Zqw h hb
 have hc:=Zps hb
 exact Zty h (by omega) (by omega) h1 (by rw [Zgn h,hb])
theorem Zdh1 {l:List Cell} {kind code:Int} (h:MayB l kind) (hb:valB (restC l) kind code=none):Zhg l kind code=some (eB,1):=by
 obtain ⟨h1,h2,_,_⟩:=id h
 unfold Zhg
 rw [Zhq1 h,Option.bind_some,Bool.not_true,cond_false,Zst l (by omega) (by omega),Option.bind_some]
 dsimp only
 rw [Zgn h,hb,Option.bind_some]
 rfl
theorem Zyj2 {l:List Cell} {kind code:Int} (h:MayB l kind) (h64:∀ c∈l,in64 c.2.1) {b:List Int} (hb:valB (restC l) kind code=some b):
  Zmh (ofBytes (sealB (blkT l kind code b)))=some (((kind,code,(l.length:Int),((l.length-(restC l).length:Nat):Int)),ofBytes (maskL l),ofBytes b,l),true):=by
 obtain ⟨h1,h2⟩:=Zqw h hb
 have hc:=Zps hb
 have hle:=Zag l
 have hm:=h.2.1
 refine Zzf1 h (by omega) (by omega) h1 (by rw [Zgn h,hb]) fun s hs k=>?_
 unfold valB at hb
 rcases h.2.2.1 with rfl | rfl
 ·rw [if_pos rfl] at hb
  have h3:=Zby (by rw [List.length_map];omega) (fun x hx=>by
   obtain ⟨c,hc,rfl⟩:=List.mem_map.1 hx
   unfold restC at hc
   exact h64 c (List.mem_filter.1 hc).1) hb hs
  rw [List.length_map] at h3
  rw [Zh8 (by rw [List.length_map];omega) h3 (l.length:Int),List.map_map]
  congr 2
  conv=>rhs;rw [← List.map_id (restC l)]
  apply List.map_congr_left
  intro c hc
  rcases Zoy h c hc with ⟨_,n,rfl⟩ | ⟨h,_⟩
  ·rfl
  ·omega
 ·rw [if_neg (by omega)] at hb
  have h3:=Zdc1 (by rw [List.length_map];omega) (Zlp h) hb hs
  rw [List.length_map] at h3
  rw [Zf8 (by rw [List.length_map];omega) h3 (l.length:Int),List.map_map]
  congr 2
  conv=>rhs;rw [← List.map_id (restC l)]
  apply List.map_congr_left
  intro c hc
  rcases Zoy h c hc with ⟨h,_⟩ | ⟨_,t,rfl,_⟩
  ·omega
  ·rfl
end Go.AM.Pure
end

section
/- The document's words of few bits: the same bytes as pack.Put's; which cells are nulls; plain numbers. -/
namespace Go.AM.Pure
open Go.AM
theorem Zuz2 (x:Int):∀ (m k n:Nat),m=k→k≤64→m<n→x % 18446744073709551616<2 ^ k→
  ∃ v:Nat,Zkd.l0 n ((k:Int)-1) (bitsOf x)=some (v:Int)∧v≤64∧Wd [x] v:=by
 intro m
 induction m with
 | zero=>
  intro k n hk hk64 hn hlt
  subst hk
  obtain ⟨n,rfl⟩:∃ j,n=j+1:=⟨n-1,by omega⟩
  refine ⟨0,?_,by omega,⟨fun y hy=>?_, .inl rfl⟩⟩
  ·show Zkd.S0 _ _ _=_
   unfold Zkd.S0
   rw [le_f (by omega)]
   rfl
  ·rw [List.mem_singleton.1 hy];exact hlt
 | succ m ih=>
  intro k n hk hk64 hn hlt
  subst hk
  obtain ⟨n,rfl⟩:∃ j,n=j+1:=⟨n-1,by omega⟩
  have hlen:=Zai x
  have hb:=Zxi x (k:=m) (by omega)
  have hd:decide (64=(bitsOf x).length)=true:=decide_eq_true hlen.symm
  have hmod:=mod_pow_succ (x % 18446744073709551616) m
  rw [Int.emod_eq_of_lt (by omega) hlt,Zqi x (by omega)] at hmod
  show ∃ v:Nat,Zkd.S0 (Zkd.l0 n) _ _=_∧_
  unfold Zkd.S0
  rw [show ((m+1:Nat):Int)-1=(m:Int) by omega,le_t (by omega),cond_true,Zu (by omega),hd,Bool.true_and,cond_true,show Int.toNat (m:Int)=m from rfl,hb]
  have hp:=Zld m
  have hr:0≤x % 18446744073709551616 % 2 ^ m∧x % 18446744073709551616 % 2 ^ m<2 ^ m:=⟨Int.emod_nonneg _ (by omega),Int.emod_lt_of_pos _ hp⟩
  by_cases hbit:bit x m=true
  ·rw [hbit,if_pos rfl] at hmod
   rw [hbit,cond_true,Zn (by omega)]
   refine ⟨m+1,by rw [Int.natCast_add];rfl,by omega,⟨fun y hy=>?_, .inr ⟨x,List.mem_singleton.2 rfl,?_⟩⟩⟩
   ·rw [List.mem_singleton.1 hy];exact hlt
   ·rw [Nat.add_sub_cancel];omega
  ·rw [Bool.not_eq_true] at hbit
   rw [hbit] at hmod
   rw [hbit,cond_false,Zqb (by omega)]
   exact ih m n rfl (by omega) (by omega) (by
    rw [if_neg (by decide)] at hmod
    omega)
theorem Zac1 (x:Int):∃ v:Nat,Zkd x=some (v:Int)∧v≤64∧Wd [x] v:=by
 unfold Zkd Zkd.S
 rw [Zmk,Option.bind_some]
 exact Zuz2 x 64 64 fu rfl (by omega) (by unfold fu;omega) (by rw [show (2:Int) ^ 64=18446744073709551616 from rfl];omega)
theorem Zvz2 {l:List Int} {x:Int} {w v:Nat} (h:Wd l w) (k:Wd [x] v):Wd (l++[x]) (max w v):=by
 have hx:=k.1 x (List.mem_singleton.2 rfl)
 have pw:∀ a b:Nat,a≤b→(2:Int) ^ a≤2 ^ b:=fun a b h=>by
  have:=Nat.pow_le_pow_right (show 0<2 by omega) h
  exact_mod_cast this
 constructor
 ·intro y hy
  rcases List.mem_append.1 hy with hy | hy
  ·have:=h.1 y hy
   have:=pw w (max w v) (by omega)
   omega
  ·rw [List.mem_singleton.1 hy]
   have:=pw v (max w v) (by omega)
   omega
 ·by_cases hwv:v≤w
  ·rw [show max w v=w by omega]
   rcases h.2 with h2 | ⟨y,hy,h2⟩
   ·exact .inl h2
   ·exact .inr ⟨y,List.mem_append_left _ hy,h2⟩
  ·rw [show max w v=v by omega]
   rcases k.2 with h2 | ⟨y,hy,h2⟩
   ·omega
   ·rw [List.mem_singleton.1 hy] at h2
    exact .inr ⟨x,by simp,h2⟩
theorem Zwz2 (l:List Int) (hl:l.length≤65536):∀ (d i n w:Nat),d=l.length-i→i≤l.length→d<n→w≤64→Wd (l.take i) w→
  ∃ v:Nat,Zzc.l0 n l (w:Int) (i:Int)=some (v:Int)∧Wd l v:=by
 intro d
 induction d with
 | zero=>
  intro i n w hd hi hn hw h
  have:i=l.length:=by omega
  subst this
  obtain ⟨n,rfl⟩:∃ k,n=k+1:=⟨n-1,by omega⟩
  rw [List.take_length] at h
  refine ⟨w,?_,h⟩
  show Zzc.S0 _ _ _ _=_
  unfold Zzc.S0
  rw [Zf,lt_f (by omega),cond_false]
 | succ d ih=>
  intro i n w hd hi hn hw h
  obtain ⟨n,rfl⟩:∃ k,n=k+1:=⟨n-1,by omega⟩
  have hlt:i<l.length:=by omega
  obtain ⟨v,h1,h2,h3⟩:=Zac1 l[i]
  show ∃ u:Nat,Zzc.S0 (Zzc.l0 n) _ _ _=_∧_
  unfold Zzc.S0
  have hm:maxI (w:Int) (v:Int)=((max w v:Nat):Int):=by unfold maxI;split <;> omega
  rw [Zf,lt_t (by omega),cond_true,Zu (by omega),cond_true,Zy hlt,h1,Option.bind_some,hm,Zn (by omega)]
  exact ih (i+1) n (max w v) (by omega) (by omega) (by omega) (by omega) (by rw [take_one hlt];exact Zvz2 h h3)
theorem Zjj (l:List Int) (hl:l.length≤65536):Zzc l=some (widN l:Int):=by
 obtain ⟨v,h1,h2⟩:=Zwz2 l hl l.length 0 fu 0 (by omega) (by omega) (by unfold fu;omega) (by omega) ⟨fun y hy=>by simp at hy, .inl rfl⟩
 rw [h2.unique (Zte l hl).2.2] at h1
 exact h1
theorem Ze8:∀ (n:Nat) (s:List Bool),s=[]→chop n s=List.replicate n 0
 | 0,_,_=>rfl
 | n+1,s,h=>by
  subst h
  rw [Zqj,List.replicate_succ]
  congr 1
  exact Ze8 n _ rfl
theorem Zj01 (n:Nat) (A:List Bool) (b:Bool) (h:A.length<8*n):
  chop n (A++[b])=if b=true then (chop n A).set (A.length / 8) ((chop n A).getD (A.length / 8) 0+2 ^ (A.length % 8)) else chop n A:=by
 have hlen:=Zch n A
 have hk:A.length / 8<n:=by omega
 have base:∀ j,j<n→(chop n (A++[b])).getD j 0=if j=A.length / 8∧b=true then (chop n A).getD j 0+2 ^ (A.length % 8) else (chop n A).getD j 0:=by
  intro j hj
  rw [List.getD_eq_getElem?_getD,List.getD_eq_getElem?_getD,Zhn n _ j hj,Zhn n _ j hj]
  show numOf _=if _ then numOf _+_ else numOf _
  rcases Nat.lt_trichotomy j (A.length / 8) with hlt | heq | hgt
  ·rw [if_neg (by omega),List.drop_append_of_le_length (by omega),List.take_append_of_le_length (by rw [List.length_drop];omega)]
  ·rw [List.drop_append_of_le_length (by omega)]
   have hdl:(A.drop (8*j)).length=A.length % 8:=by rw [List.length_drop];omega
   rw [List.take_of_length_le (by rw [List.length_append,hdl,List.length_singleton];omega),List.take_of_length_le (l:=A.drop (8*j)) (by omega),Zao,hdl]
   by_cases hb:b=true
   ·rw [if_pos (⟨heq,hb⟩:j=A.length / 8∧b=true)]
    simp [hb]
   ·rw [if_neg (fun h:j=A.length / 8∧b=true=>hb h.2)]
    simp [hb]
  ·rw [if_neg (by omega),List.drop_eq_nil_of_le (by rw [List.length_append,List.length_singleton];omega),List.drop_eq_nil_of_le (by omega)]
 apply List.ext_getElem
 ·split
  ·rw [Zch,List.length_set,Zch]
  ·rw [Zch,Zch]
 ·intro j h1 h2
  have hj:j<n:=by rwa [Zch] at h1
  have hb:=base j hj
  rw [List.getD_eq_getElem?_getD,List.getElem?_eq_getElem h1] at hb
  have hb:(chop n (A++[b]))[j]=_:=hb
  rw [hb]
  have hg:(chop n A).getD j 0=(chop n A)[j]'(by rw [hlen];exact hj):=by rw [List.getD_eq_getElem?_getD,List.getElem?_eq_getElem (by rw [hlen];exact hj)];rfl
  by_cases hbt:b=true
  ·subst hbt
   simp only [if_pos]
   rw [List.getElem_set]
   by_cases hj2:A.length / 8=j
   ·rw [if_pos (⟨hj2.symm,trivial⟩:j=A.length / 8∧True),if_pos hj2,hj2]
   ·rw [if_neg (fun h:j=A.length / 8∧True=>hj2 h.1.symm),if_neg hj2,hg]
  ·simp only [if_neg hbt]
   rw [if_neg (fun h=>hbt h.2),hg]
theorem or_u8 {a:Int} {k:Nat} (hk:k<8) (h0:0≤a) (h1:a<2 ^ k):orI .u8 a (shlI .u8 1 (k:Int))=a+2 ^ k:=by
 have:∀ k:Fin 8,∀ a:Fin 256,(a.val:Int)<2 ^ k.val→orI .u8 (a.val:Int) (shlI .u8 1 (k.val:Int))=(a.val:Int)+2 ^ k.val:=by decide +kernel
 have h2:(2:Int) ^ k≤2 ^ 8:=by
  have:=Nat.pow_le_pow_right (show 0<2 by omega) (show k≤8 by omega)
  exact_mod_cast this
 rw [show (2:Int) ^ 8=256 from rfl] at h2
 have:=this ⟨k,hk⟩ ⟨a.toNat,by omega⟩
 simp only [show ((a.toNat:Nat):Int)=a by omega] at this
 exact this h1
theorem quo8 (a:Nat) (h:a<1000000000000):quoI .i64 (a:Int) 8=((a / 8:Nat):Int):=by
 unfold quoI
 rw [show Int.tdiv (a:Int) 8=((a / 8:Nat):Int) from rfl]
 exact Zde (by omega)
theorem rem8 (a:Nat):remI (a:Int) 8=((a % 8:Nat):Int):=rfl
theorem Zxz2 {l:List Int} {i k:Nat} (hi:i<l.length):wb l[i] (k+1)=wb l[i] k++[bit l[i] k]:=by
 unfold wb
 rw [List.range_succ,List.map_append]
 rfl
theorem Zev1 (l:List Int) {w:Nat} (hw:w≤64) (hl:l.length≤65536) {i:Nat} (hi:i<l.length) {o0:List Int→Int→Int→List Int→Option (ByteArray×Int)}:∀ (d k n:Nat),d=w-k→k≤w→d<n→
  Zob.l1 o0 n l (w:Int) (i:Int) (k:Int) (chop ((l.length*w+7) / 8) (strm (l.take i) w++wb l[i] k))=o0 l (w:Int) ((i:Int)+1) (chop ((l.length*w+7) / 8) (strm (l.take (i+1)) w)):=by
 intro d
 induction d with
 | zero=>
  intro k n hd hk hn
  have:k=w:=by omega
  subst this
  obtain ⟨n,rfl⟩:∃ j,n=j+1:=⟨n-1,by omega⟩
  show Zob.S1 _ _ _ _ _ _ _=_
  unfold Zob.S1
  rw [lt_f (by omega),cond_false,Zn (by omega),take_one hi,Zss]
 | succ d ih=>
  intro k n hd hk hn
  obtain ⟨n,rfl⟩:∃ j,n=j+1:=⟨n-1,by omega⟩
  have hkw:k<w:=by omega
  have hal:(strm (l.take i) w++wb l[i] k).length=i*w+k:=by rw [List.length_append,Zwk,Zji,List.length_take];congr 2;omega
  have h1:i*w+w≤l.length*w:=by
   have:=Nat.mul_le_mul_right w (show i+1≤l.length by omega)
   rw [Nat.succ_mul] at this
   exact this
  have h2:l.length*w≤65536*64:=Nat.mul_le_mul hl hw
  have hfit:i*w+k<8*((l.length*w+7) / 8):=by omega
  have hmore:=Zj01 ((l.length*w+7) / 8) (strm (l.take i) w++wb l[i] k) (bit l[i] k) (by omega)
  rw [List.append_assoc,← Zxz2 hi,hal] at hmore
  have hlen:=Zch ((l.length*w+7) / 8) (strm (l.take i) w++wb l[i] k)
  have hat:addI .i64 (mulI .i64 (i:Int) (w:Int)) (k:Int)=((i*w+k:Nat):Int):=by
   have e1:mulI .i64 (i:Int) (w:Int)=((i*w:Nat):Int):=by
    rw [show mulI .i64 (i:Int) (w:Int)=IntKind.wrap .i64 ((i:Int)*(w:Int)) from rfl,← Int.natCast_mul]
    exact Zde (by omega)
   rw [e1,Zn (by omega)];omega
  show Zob.S1 o0 (Zob.l1 o0 n) _ _ _ _ _=_
  unfold Zob.S1
  rw [lt_t (by omega),cond_true,Zf,Zu (by omega),cond_true,le_t (by omega),cond_true,Zy hi,ofBit _ _ (by omega),hat,quo8 _ (by omega),rem8,Zf,hlen,Zu (by omega),le_t (by omega),Zn (by omega)]
  have hih:=ih (k+1) n (by omega) (by omega) (by omega)
  rw [hmore] at hih
  by_cases hb:bit l[i] k=true
  ·rw [if_pos hb] at hih
   rw [hb]
   simp only [cond_true]
   have hg0:(chop ((l.length*w+7) / 8) (strm (l.take i) w++wb l[i] k)).getD ((i*w+k) / 8) 0=numOf (((strm (l.take i) w++wb l[i] k).drop (8*((i*w+k) / 8))).take 8):=by
    rw [List.getD_eq_getElem?_getD,Zhn _ _ _ (by omega)]
    rfl
   have hnb:=Zye (((strm (l.take i) w++wb l[i] k).drop (8*((i*w+k) / 8))).take 8)
   have hnl:(((strm (l.take i) w++wb l[i] k).drop (8*((i*w+k) / 8))).take 8).length=(i*w+k) % 8:=by rw [List.length_take,List.length_drop,hal];omega
   rw [hnl] at hnb
   rw [show Int.toNat (((i*w+k) / 8:Nat):Int)=(i*w+k) / 8 from rfl,or_u8 (by omega) (by rw [hg0];exact hnb.1) (by rw [hg0];exact hnb.2)]
   exact hih
  ·rw [if_neg hb] at hih
   rw [Bool.not_eq_true] at hb
   rw [hb,cond_false]
   exact hih
theorem Zfv1 (l:List Int) {w:Nat} (hw:w≤64) (hl:l.length≤65536):∀ (d i n:Nat),d=l.length-i→i≤l.length→70<n→
  Zob.l0 (n+d) l (w:Int) (i:Int) (chop ((l.length*w+7) / 8) (strm (l.take i) w))=some (ofBytes (packB l w),0):=by
 intro d
 induction d with
 | zero=>
  intro i n hd hi hn
  have:i=l.length:=by omega
  subst this
  obtain ⟨n,rfl⟩:∃ k,n=k+1:=⟨n-1,by omega⟩
  show Zob.S0 _ _ _ _ _=_
  unfold Zob.S0
  rw [Zf,lt_f (by omega),cond_false,List.take_length]
  rfl
 | succ d ih=>
  intro i n hd hi hn
  have hlt:i<l.length:=by omega
  show Zob.S0 (Zob.l1 (Zob.l0 (n+d)) (n+d)) _ _ _ _=_
  unfold Zob.S0
  rw [Zf,lt_t (by omega),cond_true]
  have:=Zev1 l hw hl hlt (o0:=Zob.l0 (n+d)) w 0 (n+d) (by omega) (by omega) (by omega)
  rw [Zkq1,List.append_nil] at this
  rw [show (0:Int)=((0:Nat):Int) from rfl,this]
  exact ih (i+1) n (by omega) (by omega) (by omega)
theorem Zmt (n w:Nat) (hn:n≤65536) (hw:w≤64):Zlg (n:Int) (w:Int)=(((n*w+7) / 8:Nat):Int):=by
 unfold Zlg
 by_cases h0:n=0
 ·subst h0
  rw [lt_t (by omega),cond_true,Nat.zero_mul]
  rfl
 ·rw [lt_f (by omega),cond_false,lt_f (by omega),cond_false]
  by_cases h1:w=0
  ·subst h1
   rw [lt_t (by omega),cond_true,Nat.mul_zero]
   rfl
  ·have h2:n*w≤65536*64:=Nat.mul_le_mul hn hw
   have e1:mulI .i64 (n:Int) (w:Int)=((n*w:Nat):Int):=by
    rw [show mulI .i64 (n:Int) (w:Int)=IntKind.wrap .i64 ((n:Int)*(w:Int)) from rfl,← Int.natCast_mul]
    exact Zde (by omega)
   rw [lt_f (by omega),cond_false,lt_f (by omega),cond_false,e1,Zn (by omega),show ((n*w:Nat):Int)+7=((n*w+7:Nat):Int) by omega,quo8 _ (by omega)]
theorem Zrk (l:List Int) {w:Nat} (hw:w≤64) (hl:l.length≤65536) (hvw:widN l≤w):Zob l (w:Int)=some (ofBytes (packB l w),0):=by
 have h2:l.length*w≤65536*64:=Nat.mul_le_mul hl hw
 show Zob.S (Zob.l0 fu) l (w:Int)=_
 unfold Zob.S
 rw [lt_f (by omega),cond_false,lt_f (by omega),cond_false,Zf,lt_f (by omega),cond_false,Zjj l hl,Option.bind_some,lt_f (by omega),cond_false,Zmt _ _ hl hw]
 dsimp only
 rw [le_t (by omega),Zna (by show (l.length*w+7) / 8*1≤_;omega)]
 have:=Zfv1 l hw hl l.length 0 (fu-l.length) (by omega) (by omega) (by unfold fu;omega)
 rw [show fu-l.length+l.length=fu by unfold fu;omega,List.take_zero,show strm [] w=[] from rfl,Ze8 _ _ rfl] at this
 exact this
theorem Zos (p:List Int) (hl:p.length≤65536):Zdl p=some (ofBytes (packB p (widN p))):=by
 unfold Zdl
 rw [Zjj p hl,Option.bind_some,Zrk p (Zte p hl).2.1 hl (Nat.le_refl _)]
 rfl
theorem Zgv1 (l:List Cell) (c:Cell):nbits (l++[c])=nbits l++[if isN c then 1 else 0]:=by unfold nbits;rw [List.map_append];rfl
theorem Zbh1 (l:List Cell) (hl:l.length≤65536):∀ (d i n:Nat),d=l.length-i→i≤l.length→d<n→
  Zpb.l0 (Zpb.t1 fu) n l (restC (l.take i)) (nbits (l.take i)) (i:Int)=Zpb.S1 l (restC l) (nbits l):=by
 intro d
 induction d with
 | zero=>
  intro i n hd hi hn
  have:i=l.length:=by omega
  subst this
  obtain ⟨n,rfl⟩:∃ k,n=k+1:=⟨n-1,by omega⟩
  show Zpb.S0 Zpb.S1 _ _ _ _ _=_
  unfold Zpb.S0
  rw [Zf,lt_f (by omega),cond_false,List.take_length]
 | succ d ih=>
  intro i n hd hi hn
  obtain ⟨n,rfl⟩:∃ k,n=k+1:=⟨n-1,by omega⟩
  have hlt:i<l.length:=by omega
  have h1:=Zag (l.take i)
  rw [List.length_take] at h1
  have hih:=ih (i+1) n (by omega) (by omega) (by omega)
  rw [take_one hlt,Ztq,Zgv1] at hih
  show Zpb.S0 (Zpb.t1 fu) (Zpb.l0 (Zpb.t1 fu) n) _ _ _ _=_
  unfold Zpb.S0
  rw [Zf,lt_t (by omega),cond_true,Zu (by omega),cond_true,Zy hlt,Zna (by rw [Zqd,List.length_take];omega),cond_true,cond_true,cond_true,Zna (by omega),cond_true,Zn (by omega)]
  by_cases hz:isN l[i]=true
  ·have hz0:l[i].1=0:=of_decide_eq_true (show decide (l[i].1=0)=true from hz)
   rw [if_pos hz,if_pos hz,List.append_nil] at hih
   rw [eq_t hz0,cond_true]
   exact hih
  ·have hz0:¬ l[i].1=0:=fun h=>hz (decide_eq_true h)
   rw [if_neg hz,if_neg hz] at hih
   rw [eq_f hz0,cond_false]
   exact hih
theorem Zhv1 (l:List Cell) (hl:l.length≤65536):widN (nbits l)≤1:=by
 obtain ⟨_,_,h1,h2⟩:=Zte (nbits l) (by rw [Zqd];exact hl)
 rcases h2 with h2 | ⟨x,hx,h2⟩
 ·omega
 ·have hx:=Zop x hx
  by_cases h:widN (nbits l)≤1
  ·exact h
  ·have:(2:Int) ^ 1≤2 ^ (widN (nbits l)-1):=by
    have:=Nat.pow_le_pow_right (show 0<2 by omega) (show 1≤widN (nbits l)-1 by omega)
    exact_mod_cast this
   rw [show (2:Int) ^ 1=2 from rfl] at this
   omega
theorem Znt (l:List Cell) (hl:l.length≤65536):Zpb l=some (ofBytes (maskL l),restC l):=by
 have h:=Zbh1 l hl l.length 0 fu (by omega) (by omega) (by unfold fu;omega)
 rw [List.take_zero] at h
 refine Eq.trans (show Zpb l=_ from h) ?_
 have hle:=Zag l
 unfold Zpb.S1 maskL
 rw [Zf,Zf]
 by_cases hf:(restC l).length=l.length
 ·rw [eq_t (by omega),cond_true,(Zde1 hf).2]
  rfl
 ·have hany:l.any isN=true:=by
   cases ha:l.any isN with
   | true=>rfl
   | false=>
    exfalso
    apply hf
    unfold restC
    rw [List.filter_eq_self.2 fun c hc=>by
     have:=List.any_eq_false.1 ha c hc
     simpa using this]
  rw [eq_f (by omega),cond_false,hany,if_pos rfl,show (1:Int)=((1:Nat):Int) from rfl,Zrk (nbits l) (by omega) (by rw [Zqd];exact hl) (Zhv1 l hl)]
  rfl
theorem Zcp1 (l:List Cell) (hl:l.length≤65536):∀ (d i n:Nat),d=l.length-i→i≤l.length→d<n→
  Zge.l0 n l (numsC (l.take i)) (i:Int)=some (numsC l):=by
 intro d
 induction d with
 | zero=>
  intro i n hd hi hn
  have:i=l.length:=by omega
  subst this
  obtain ⟨n,rfl⟩:∃ k,n=k+1:=⟨n-1,by omega⟩
  show Zge.S0 _ _ _ _=_
  unfold Zge.S0
  rw [Zf,lt_f (by omega),cond_false,List.take_length]
 | succ d ih=>
  intro i n hd hi hn
  obtain ⟨n,rfl⟩:∃ k,n=k+1:=⟨n-1,by omega⟩
  have hlt:i<l.length:=by omega
  have hih:=ih (i+1) n (by omega) (by omega) (by omega)
  rw [take_one hlt,show numsC (l.take i++[l[i]])=numsC (l.take i)++[l[i].2.1] from List.map_append] at hih
  show Zge.S0 (Zge.l0 n) _ _ _=_
  unfold Zge.S0
  rw [Zf,lt_t (by omega),cond_true,Zu (by omega),cond_true,Zy hlt,Zna (by rw [List.length_map,List.length_take];omega),cond_true,Zn (by omega)]
  exact hih
theorem Zxf1 (l:List Cell) (hl:l.length≤65536):Zge l=some (numsC l):=Zcp1 l hl l.length 0 fu (by omega) (by omega) (by unfold fu;omega)
theorem Zch1 (l:List Cell) (hl:l.length≤65536):∀ (d i n:Nat),d=l.length-i→i≤l.length→d<n→
  Zud.l0 n l (txtsC (l.take i)) (i:Int)=some (txtsC l):=by
 intro d
 induction d with
 | zero=>
  intro i n hd hi hn
  have:i=l.length:=by omega
  subst this
  obtain ⟨n,rfl⟩:∃ k,n=k+1:=⟨n-1,by omega⟩
  show Zud.S0 _ _ _ _=_
  unfold Zud.S0
  rw [Zf,lt_f (by omega),cond_false,List.take_length]
 | succ d ih=>
  intro i n hd hi hn
  obtain ⟨n,rfl⟩:∃ k,n=k+1:=⟨n-1,by omega⟩
  have hlt:i<l.length:=by omega
  have hih:=ih (i+1) n (by omega) (by omega) (by omega)
  rw [take_one hlt,show txtsC (l.take i++[l[i]])=txtsC (l.take i)++[l[i].2.2] from List.map_append] at hih
  show Zud.S0 (Zud.l0 n) _ _ _=_
  unfold Zud.S0
  rw [Zf,lt_t (by omega),cond_true,Zu (by omega),cond_true,Zy hlt,Zna (by rw [List.length_map,List.length_take];omega),cond_true,Zn (by omega)]
  exact hih
theorem Zbc1 (l:List Cell) (hl:l.length≤65536):Zud l=some (txtsC l):=Zch1 l hl l.length 0 fu (by omega) (by omega) (by unfold fu;omega)
end Go.AM.Pure
end
