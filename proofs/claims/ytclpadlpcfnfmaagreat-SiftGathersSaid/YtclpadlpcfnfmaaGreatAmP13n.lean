import Derived.Test.YtclpadlpcfnfmaaGreatAmP13
section
/- What a dictionary is: the distinct values, rising, and of each value its place; of texts by JL.Of. -/
namespace Go.AM.Pure
open Go.AM
section
variable {α : Type} {c : α → α → Int}
def Inc (c:α→α→Int) (d:List α):Prop:=d.Pairwise fun a b=>c a b = -1
def EN (c:α→α→Int) (d l:List α):Prop:=Inc c d∧∀ x,x∈d↔x∈l
theorem Inc.at {d:List α} (h:Inc c d) {i j:Nat} (hij:i<j) (hj:j<d.length):c (d[i]'(by omega)) d[j] = -1:=List.pairwise_iff_getElem.1 h i j (by omega) hj hij
theorem Ord3.self (o:Ord3 c) (a:α):c a a=0:=(o.eq0 a a).2 rfl
theorem Ord3.asym (o:Ord3 c) {a b:α} (h:c a b = -1):¬ c b a = -1:=by rw [o.neg,h];decide
theorem eG (o:Ord3 c):∀ {d e:List α},Inc c d→Inc c e→(∀ x,x∈d↔x∈e)→d=e
 | [],[],_,_,_=>rfl
 | [],b :: e,_,_,h=>absurd ((h b).2 (List.mem_cons_self ..)) (by simp)
 | a :: d,[],_,_,h=>absurd ((h a).1 (List.mem_cons_self ..)) (by simp)
 | a :: d,b :: e,h1,h2,h=>by
  obtain ⟨p1,p2⟩:=List.pairwise_cons.1 h1
  obtain ⟨q1,q2⟩:=List.pairwise_cons.1 h2
  have hab:a=b:=by
   rcases List.mem_cons.1 ((h a).1 (List.mem_cons_self ..)) with x | x
   ·exact x
   ·rcases List.mem_cons.1 ((h b).2 (List.mem_cons_self ..)) with y | y
    ·exact y.symm
    ·exact absurd (q1 a x) (o.asym (p1 b y))
  subst hab
  have:d=e:=eG o p2 q2 fun x=>by
   constructor
   ·intro hx
    rcases List.mem_cons.1 ((h x).1 (List.mem_cons_of_mem _ hx)) with y | y
    ·have:=p1 x hx
     rw [y,o.self] at this
     exact absurd this (by decide)
    ·exact y
   ·intro hx
    rcases List.mem_cons.1 ((h x).2 (List.mem_cons_of_mem _ hx)) with y | y
    ·have:=q1 x hx
     rw [y,o.self] at this
     exact absurd this (by decide)
    ·exact y
  rw [this]
theorem EN.uniq (o:Ord3 c) {d e l:List α} (h:EN c d l) (k:EN c e l):d=e:=eG o h.1 k.1 fun x=>(h.2 x).trans (k.2 x).symm
theorem EN.pos {d l:List α} (h:EN c d l) (h0:0<l.length):0<d.length:=List.length_pos_of_mem ((h.2 _).2 (List.getElem_mem h0))
variable [DecidableEq α]
def idx (d:List α) (v:α):Nat:=d.idxOf v
theorem Nl {d:List α} {v:α} (h:v∈d):idx d v<d.length:=List.idxOf_lt_length_iff.2 h
theorem Qn {d:List α} {v:α} (h:idx d v<d.length):d[idx d v]=v:=List.getElem_idxOf h
def plc (d l:List α):List Int:=l.map fun v=>(idx d v:Int)
theorem Gl (d l:List α):(plc d l).length=l.length:=by unfold plc;rw [List.length_map]
theorem Mv {d l:List α} (h:EN c d l):∀ x∈plc d l,0≤x∧x<(d.length:Int):=fun x hx=>by
 unfold plc at hx
 obtain ⟨v,hv,rfl⟩:=List.mem_map.1 hx
 have:=Nl ((h.2 v).2 hv)
 omega
omit [DecidableEq α] in
theorem Inc.inj (o:Ord3 c) {d:List α} (h:Inc c d) {i j:Nat} (hi:i<d.length) (hj:j<d.length) (he:d[i]=d[j]):i=j:=by
 rcases Nat.lt_trichotomy i j with k | k | k
 ·have:=h.at k hj;rw [he,o.self] at this;exact absurd this (by decide)
 ·exact k
 ·have:=h.at k hi;rw [he,o.self] at this;exact absurd this (by decide)
theorem kV (o:Ord3 c) {d l:List α} (h:EN c d l) {k:Nat} (hk:k<d.length):(k:Int)∈plc d l:=by
 have h1:=Nl (List.getElem_mem hk)
 refine List.mem_map.2 ⟨_,(h.2 _).1 (List.getElem_mem hk),?_⟩
 have h2:=Qn h1
 rw [h.1.inj o h1 hk h2]
theorem Zo4 (o:Ord3 c) {d l:List α} (h:EN c d l) (h0:0<l.length) {v:Nat} (hw:Wd [(d.length:Int)-1] v) (hl:d.length≤65536):Wd (plc d l) v:=by
 have hdp:=h.pos h0
 obtain ⟨h1,h2⟩:=hw
 have h1:=h1 _ (List.mem_singleton.2 rfl)
 constructor
 ·intro x hx
  have:=Mv h x hx
  omega
 ·rcases h2 with h2 | ⟨x,hx,h2⟩
  ·exact .inl h2
  ·have hx:=List.mem_singleton.1 hx
   subst hx
   right
   have:=kV o h (k:=d.length-1) (by omega)
   refine ⟨_,this,?_⟩
   rw [show ((d.length-1:Nat):Int)=(d.length:Int)-1 by omega]
   exact h2
theorem eH {d l:List α} (h:EN c d l) (z:α):(plc d l).map (fun x=>d.getD x.toNat z)=l:=by
 unfold plc
 rw [List.map_map]
 conv=>rhs;rw [← List.map_id l]
 apply List.map_congr_left
 intro v hv
 have hk:=Nl ((h.2 v).2 hv)
 show d.getD (((idx d v:Nat):Int)).toNat z=v
 rw [show (((idx d v:Nat):Int)).toNat=idx d v from rfl,List.getD_eq_getElem?_getD,List.getElem?_eq_getElem hk]
 exact Qn hk
theorem YR {d l:List α} {i:Nat} (h:i<l.length):(plc d l)[i]'(by rw [Gl];exact h)=(idx d l[i]:Int):=by
 have h2:(plc d l)[i]? = some (idx d l[i]:Int):=by
  unfold plc
  rw [List.getElem?_map,List.getElem?_eq_getElem h,Option.map_some]
 rw [List.getElem?_eq_getElem (by rw [Gl];exact h)] at h2
 exact Option.some.inj h2
end
theorem Zpu:∀ a b:List UInt8,a<b↔Lib.compareBytes a b = -1
 | [],[]=>by simp [Lib.compareBytes]
 | [],_ :: _=>by simp [Lib.compareBytes]
 | _ :: _,[]=>by simp [Lib.compareBytes]
 | a :: x,b :: y=>by
  rw [List.cons_lt_cons_iff,Zpu x y,show Lib.compareBytes (a :: x) (b :: y)=if a<b then -1 else if b<a then 1 else Lib.compareBytes x y from rfl]
  by_cases h:a<b
  ·simp [h]
  ·by_cases k:b<a
   ·have:¬ a=b:=by rintro rfl;exact absurd k (UInt8.lt_irrefl _)
    simp [h,k,this]
   ·have:a=b:=UInt8.le_antisymm (UInt8.not_lt.1 k) (UInt8.not_lt.1 h)
    subst this
    simp only [h,if_neg,not_false_eq_true,false_or,true_and]
theorem cH (a b:List UInt8):a≤b↔¬ Lib.compareBytes a b=1:=by
 rw [show (a≤b) = ¬ (b<a) from rfl,Zpu,Sg a b]
 rcases Ku a b with h | h | h <;> rw [h] <;> decide
abbrev tb (s:ByteArray):List UInt8:=s.data.toList
theorem aJ (s:ByteArray):Jc (tb s)=s:=by cases s;rfl
abbrev Oc (l:List ByteArray):List (List UInt8):=(l.map tb).mergeSort fun x y=>decide (x≤y)
def BE (l:List ByteArray):List ByteArray:=(Lib.compact (Oc l)).map Jc
theorem Ie (l:List ByteArray):EN Ik (BE l) l:=by
 have hs:=List.pairwise_mergeSort (le:=fun x y:List UInt8=>decide (x≤y)) (fun a b d h1 h2=>by
  simp only [decide_eq_true_eq] at *
  rw [cH] at *
  intro h
  rcases Ku a b with k | k | k
  ·rcases Ku b d with m | m | m
   ·rw [cE a b d k m] at h;exact absurd h (by decide)
   ·rw [← (LR b d).1 m,k] at h;exact absurd h (by decide)
   ·exact h2 m
  ·rw [(LR a b).1 k] at h;exact h2 h
  ·exact h1 k) (fun a b=>by
  simp only [Bool.or_eq_true,decide_eq_true_eq]
  rw [cH,cH,Sg a b]
  rcases Ku a b with k | k | k <;> rw [k] <;> decide) (l.map tb)
 have h:=Sk (le:=fun a b:List UInt8=>¬ Lib.compareBytes a b=1) (fun a=>by rw [(LR a a).2 rfl];decide) (fun a b d h1 h2 h=>by
  rcases Ku a b with k | k | k
  ·rcases Ku b d with m | m | m
   ·rw [cE a b d k m] at h;exact absurd h (by decide)
   ·rw [← (LR b d).1 m,k] at h;exact absurd h (by decide)
   ·exact h2 m
  ·rw [(LR a b).1 k] at h;exact h2 h
  ·exact h1 k) (fun a b h1 h2=>by
  rw [Sg a b] at h2
  rcases Ku a b with k | k | k
  ·rw [k] at h2;exact absurd rfl h2
  ·exact (LR a b).1 k
  ·exact absurd k h1) (hs.imp fun h=>(cH _ _).1 (of_decide_eq_true h))
 constructor
 ·unfold Inc BE
  rw [List.pairwise_map]
  refine h.1.imp fun {a b} hab=>?_
  show Lib.compareBytes a b = -1
  rcases Ku a b with k | k | k
  ·exact k
  ·exact absurd ((LR a b).1 k) hab.2
  ·exact absurd k hab.1
 ·intro x
  unfold BE
  rw [List.mem_map]
  constructor
  ·rintro ⟨b,hb,rfl⟩
   obtain ⟨s,hs,rfl⟩:=List.mem_map.1 (List.mem_mergeSort.1 ((h.2 b).1 hb))
   rw [aJ];exact hs
  ·intro hx
   exact ⟨tb x,(h.2 _).2 (List.mem_mergeSort.2 (List.mem_map.2 ⟨x,hx,rfl⟩)),aJ x⟩
theorem kg {β:Type} [Inhabited β] [DecidableEq β] (z:List β):(Lib.compact z).length≤z.length:=by
 unfold Lib.compact Lib.compactUpTo
 rw [List.length_map]
 exact Nat.le_trans (List.length_filter_le _ _) (by rw [List.length_range];exact Nat.le_refl _)
theorem Hb (l:List ByteArray):(BE l).length≤l.length:=by
 unfold BE
 rw [List.length_map]
 have:=kg (Oc l)
 rwa [List.length_mergeSort,List.length_map] at this
theorem Zue (x y:ByteArray):cmp_Less_string x y=decide (Ik x y = -1):=by
 unfold cmp_Less_string
 have:cmp_isNaN_string x=false:=by
  show (!(eqS x x))=false
  rw [JZ rfl];rfl
 rw [this,cF]
 rfl
theorem Zve (d:List ByteArray) (hl:d.length<1000000000) (hd:Inc Ik d) {k:Nat} (hk:k<d.length):∀ (g i j n:Nat),g=j-i→i≤k→k≤j→j≤d.length→g<n→
  Ar.l0 (Ar.t1 fu) n d d[k] (d.length:Int) (i:Int) (j:Int)=some ((k:Int),true):=by
 intro g
 induction g using Nat.strongRecOn with
 | ind g ih=>
 intro i j n hg hi hj hjl hn
 obtain ⟨n,rfl⟩:∃ m,n=m+1:=⟨n-1,by omega⟩
 show Ar.S0 Ar.S1 (Ar.l0 (Ar.t1 fu) n) _ _ _ _ _=_
 unfold Ar.S0
 by_cases hij:i<j
 ·have hh:IntKind.wrap .i64 (BG .u64 (IntKind.wrap .u64 (An .i64 (i:Int) (j:Int))) 1)=(((i+j) / 2:Nat):Int):=by
   have h1:IntKind.wrap .u64 ((i:Int)+(j:Int))=((i+j:Nat):Int):=by rw [Dj];omega
   have h2:=ND ((i+j:Nat):Int) 1 (by omega)
   rw [show ((1:Nat):Int)=1 from rfl,Int.pow_succ,Int.pow_zero,Int.one_mul] at h2
   rw [AE (by omega),h1,h2,Ez (by omega)]
   omega
  have hm:(i+j) / 2<d.length:=by omega
  rw [Bj (by omega),cond_true,hh,AA (by rw [Aq];omega),cond_true,AQ hm,Zue,AE (by omega)]
  by_cases hlt:(i+j) / 2<k
  ·rw [decide_eq_true (hd.at hlt hk),cond_true]
   exact ih (j-((i+j) / 2+1)) (by omega) ((i+j) / 2+1) j n rfl (by omega) hj hjl (by omega)
  ·have:¬ Ik d[(i+j) / 2] d[k] = -1:=by
    by_cases he:k=(i+j) / 2
    ·rw [show d[(i+j) / 2]=d[k] from getElem_congr_idx he.symm,Im.self];decide
    ·exact Im.asym (hd.at (show k<(i+j) / 2 by omega) hm)
   rw [decide_eq_false this,cond_false]
   exact ih ((i+j) / 2-i) (by omega) i ((i+j) / 2) n rfl hi (by omega) (by omega) (by omega)
 ·have:i=k:=by omega
  subst this
  rw [AJ (by omega),cond_false]
  unfold Ar.S1
  rw [Bj (by omega),cond_true,AA (by rw [Aq];omega),cond_true,AQ hk,JZ rfl]
  rfl
theorem Zp4 (d:List ByteArray) (hl:d.length<1000000000) (hd:Inc Ik d) {v:ByteArray} (hv:v∈d):Ar d v=some ((idx d v:Int),true):=by
 have hk:=Nl hv
 have hg:=Qn hk
 have:=Zve d hl hd hk d.length 0 d.length fu (by omega) (by omega) (by omega) (by omega) (by unfold fu;omega)
 rw [hg] at this
 exact this
abbrev Bc (l:List ByteArray):List Int:=plc (BE l) l
theorem kh (l:List ByteArray) (hl:l.length≤65536) (lo:Nat) (t:List ByteArray) (ht:List.take (BE l).length (List.drop lo t)=BE l):∀ (d i n:Nat),d=l.length-i→i≤l.length→d<n→
  BK.l0 n lo (BE l).length ((Bc l).take i) l (l.length:Int) (i:Int) t=some (BE l,Bc l):=by
 have hpl:(Bc l).length=l.length:=Gl _ _
 have hdl:=Hb l
 intro d
 induction d with
 | zero=>
  intro i n hd hi hn
  have:i=l.length:=by omega
  subst this
  obtain ⟨n,rfl⟩:∃ k,n=k+1:=⟨n-1,by omega⟩
  show BK.S0 _ _ _ _ _ _ _ _=_
  unfold BK.S0
  rw [AJ (by omega),cond_false,ht,List.take_of_length_le (by omega)]
 | succ d ih=>
  intro i n hd hi hn
  obtain ⟨n,rfl⟩:∃ k,n=k+1:=⟨n-1,by omega⟩
  have hlt:i<l.length:=by omega
  show BK.S0 (BK.l0 n) _ _ _ _ _ _ _=_
  unfold BK.S0
  rw [Bj (by omega),cond_true,AA (by rw [Aq];omega),cond_true,AQ hlt,ht,Zp4 _ (by omega) (Ie l).1 (((Ie l).2 _).2 (List.getElem_mem hlt)),Option.bind_some,Bg (by rw [List.length_take];omega),cond_true,AE (by omega)]
  have:=ih (i+1) n (by omega) (by omega) (by omega)
  rw [take_one (by omega),YR hlt] at this
  exact this
theorem NP (l:List ByteArray) (hl:l.length≤65536) (h0:0<l.length):BK l=some (BE l,Bc l):=by
 show BK.S (BK.l0 fu) l=_
 unfold BK.S
 have hc:Hh 16 l=some l:=by
  unfold Hh
  rw [decide_eq_true h0,Bg (by omega)]
  rfl
 have hs:Wi l=some ((Oc l).map Jc):=by
  unfold Wi
  rw [decide_eq_true (by omega)]
  rfl
 have hml:((Oc l).map Jc).length=l.length:=by rw [List.length_map,List.length_mergeSort,List.length_map]
 have hdl:=Hb l
 have hmm:((Oc l).map Jc).map (fun s:ByteArray=>s.data.toList)=Oc l:=by
  rw [List.map_map]
  exact List.map_id _
 have hdd:(Lib.compact (Oc l)).length=(BE l).length:=by unfold BE;rw [List.length_map]
 have hcp:Wk ((Oc l).map Jc)=some (((BE l).length:Int),BE l++(List.replicate (l.length-(BE l).length) []).map Jc):=by
  unfold Wk
  rw [decide_eq_true (by omega),hmm,hml,hdd,List.map_append]
  rfl
 rw [hc,Option.bind_some,Ip (x:=(Oc l).map Jc) (by rw [decide_eq_true h0];rfl) hs (by rw [hml];simp),Option.bind_some,
  Ip (by rw [decide_eq_true (by omega)];rfl) hcp (by
   dsimp only
   rw [List.length_append,List.length_map,List.length_replicate,hml,decide_eq_true (by omega)]
   rfl),Option.bind_some]
 dsimp only
 rw [show Int.toNat ((BE l).length:Int)=(BE l).length from rfl,Aq]
 exact kh l hl 0 _ (by rw [List.drop_zero,List.take_left]) l.length 0 fu (by omega) (by omega) (by unfold fu;omega)
end Go.AM.Pure
end

section
/- Texts as they are, and by a dictionary: what is put, and what is taken of it. -/
namespace Go.AM.Pure
open Go.AM
def tB (s:ByteArray):List Int:=(s.size:Int) :: Ax s
def BA (l:List ByteArray):List Int:=l.flatMap tB
def Fw (l:List ByteArray):Prop:=∀ s∈l,s.size≤32
theorem MR (x:ByteArray) (d:List ByteArray):BA (x :: d)=tB x++BA d:=rfl
theorem MS (d:List ByteArray) (x:ByteArray):BA (d++[x])=BA d++tB x:=by unfold BA;simp
theorem OG (s:ByteArray):(tB s).length=1+s.size:=by unfold tB;rw [List.length_cons,Bz];omega
theorem Zn4 {s:ByteArray} (h:s.size≤32):∀ b∈tB s,0≤b∧b<256:=fun b hb=>by
 rcases List.mem_cons.1 hb with rfl | hb
 ·omega
 ·exact jV s b hb
theorem FF:∀ (d:List ByteArray),Fw d→(BA d).length≤33*d.length
 | [],_=>by simp [BA]
 | x :: d,h=>by
  have:=FF d fun s hs=>h s (List.mem_cons_of_mem _ hs)
  have h1:=OG x
  have h2:=h x (List.mem_cons_self ..)
  rw [MR,List.length_append,List.length_cons]
  omega
theorem LW:∀ (d:List ByteArray),Fw d→∀ b∈BA d,0≤b∧b<256
 | [],_,b,h=>by cases h
 | x :: d,hs,b,h=>by
  rw [MR] at h
  rcases List.mem_append.1 h with h | h
  ·exact Zn4 (hs x (List.mem_cons_self ..)) b h
  ·exact LW d (fun s h=>hs s (List.mem_cons_of_mem _ h)) b h
theorem Fw.take {l:List ByteArray} (h:Fw l) (i:Nat):Fw (l.take i):=fun s hs=>h s (List.mem_of_mem_take hs)
theorem Fw.JL {l:List ByteArray} (h:Fw l):Fw (BE l):=fun s hs=>h s (((Ie l).2 s).1 hs)
theorem aI {l:List ByteArray} {i:Nat} (h:i<l.length):BA l=BA (l.take i)++(tB l[i]++BA (l.drop (i+1))):=by
 have:l=l.take i++l[i] :: l.drop (i+1):=by rw [← List.drop_eq_getElem_cons h,List.take_append_drop]
 have h2:BA l=BA (l.take i++l[i] :: l.drop (i+1)):=congrArg BA this
 rw [h2]
 unfold BA
 rw [List.flatMap_append,List.flatMap_cons]
theorem qB (b:Bool×List Int) (c:Int) (h:b.2.length<100000000000):Fo b c=some (true,false,b.2++[c]):=by
 unfold Fo
 show (bif Bw (b.2.length+1) 1 then _ else _)=_
 rw [Bg (by omega)]
 rfl
theorem ug (o:List ByteArray) (hl:o.length≤65536) (hs:Fw o):∀ (d i n:Nat) (f:Bool),d=o.length-i→i≤o.length→d<n→
  BS.l0 n o (o.length:Int) (i:Int) (f,BA (o.take i))=some (ofBytes (BA o),0):=by
 intro d
 induction d with
 | zero=>
  intro i n f hd hi hn
  have:i=o.length:=by omega
  subst this
  obtain ⟨n,rfl⟩:∃ k,n=k+1:=⟨n-1,by omega⟩
  show BS.S0 _ _ _ _ _=_
  unfold BS.S0
  rw [AJ (by omega),cond_false,List.take_length,Sr _ _ (LW o hs)]
  rfl
 | succ d ih=>
  intro i n f hd hi hn
  obtain ⟨n,rfl⟩:∃ k,n=k+1:=⟨n-1,by omega⟩
  have hlt:i<o.length:=by omega
  have h1:=FF (o.take i) (hs.take i)
  rw [List.length_take] at h1
  have h2:=hs o[i] (List.getElem_mem hlt)
  show BS.S0 (BS.l0 n) _ _ _ _=_
  unfold BS.S0
  rw [Bj (by omega),cond_true,AA (by rw [Aq];omega),cond_true,AQ hlt,CB,AJ (by omega),cond_false,qB _ _ (by show (BA _).length<_;omega),Option.bind_some,
   Pl _ _ (by show (BA _++[_]).length+_<_;rw [List.length_append,List.length_singleton];omega),Option.bind_some,AE (by omega),GF,show (o[i].size:Int) % 256=(o[i].size:Int) by omega]
  have:=ih (i+1) n false (by omega) (by omega) (by omega)
  rw [take_one hlt,MS,show BA (o.take i)++tB o[i]=BA (o.take i)++[(o[i].size:Int)]++Ax o[i] by unfold tB;simp] at this
  exact this
theorem Kj (o:List ByteArray) (hl:o.length≤65536) (hs:Fw o):BS o=some (ofBytes (BA o),0):=
 ug o hl hs o.length 0 fu true (by omega) (by omega) (by unfold fu;omega)
theorem Zqx {s:ByteArray} {a b r:List Int} (hs:Ax s=a++(b++r)):cutS s (a.length:Int) ((a.length+b.length:Nat):Int)=ofBytes b:=by
 have:=Sz s a.length (a.length+b.length)
 rw [hs,List.drop_left,Nat.add_sub_cancel_left,List.take_left] at this
 rw [← FT (cutS s _ _),this]
structure TextAt (s:ByteArray) (p:Nat) (t:ByteArray):Prop where
 at0:byteAt s (p:Int)=(t.size:Int)
 fit:p+1+t.size≤s.size
 cut:cutS s ((p+1:Nat):Int) ((p+1+t.size:Nat):Int)=t
theorem YQ {s t:ByteArray} {pre rest:List Int} (hs:Ax s=pre++(tB t++rest)):TextAt s pre.length t where
 at0:=Io hs (i:=pre.length) (by rw [List.getElem?_append_right (Nat.le_refl _),Nat.sub_self];rfl)
 fit:=by
  have:=congrArg List.length hs
  rw [Bz,List.length_append,List.length_append,OG] at this
  omega
 cut:=by
  have h2:Ax s=(pre++[(t.size:Int)])++(Ax t++rest):=by rw [hs];unfold tB;simp
  have:=Zqx h2
  rw [List.length_append,List.length_singleton,Bz] at this
  rw [this,FT]
theorem qC (l:List ByteArray) (hl:l.length≤65536) (hsh:Fw l):∀ (d i n:Nat) (s:ByteArray),d=l.length-i→i≤l.length→d<n→Ax s=BA (l.drop i)→
  AU.l0 (AU.t1 fu) n s (l.length:Int) (l.take i)=some (l,0):=by
 intro d
 induction d with
 | zero=>
  intro i n s hd hi hn hs
  have:i=l.length:=by omega
  subst this
  obtain ⟨n,rfl⟩:∃ k,n=k+1:=⟨n-1,by omega⟩
  rw [List.drop_length] at hs
  have he:s=eB:=KT.2 (by rw [← Bz,hs];rfl)
  show AU.S0 AU.S1 _ _ _ _=_
  unfold AU.S0
  rw [JZ he,Bool.not_true,cond_false,List.take_length]
  unfold AU.S1
  rw [Aq,Db rfl,cond_false]
 | succ d ih=>
  intro i n s hd hi hn hs
  obtain ⟨n,rfl⟩:∃ k,n=k+1:=⟨n-1,by omega⟩
  have hlt:i<l.length:=by omega
  rw [List.drop_eq_getElem_cons hlt,MR] at hs
  have ht:=YQ (pre:=[]) (t:=l[i]) (rest:=BA (l.drop (i+1))) hs
  have h32:=hsh l[i] (List.getElem_mem hlt)
  have hf:=ht.fit
  have h0:=ht.at0
  have hc:=ht.cut
  rw [List.length_nil] at hf h0 hc
  have hne:s≠eB:=fun he=>by have:=KT.1 he;omega
  have hrest:Ax (cutS s ((1+l[i].size:Nat):Int) (AX s))=BA (l.drop (i+1)):=by
   have:=GC hs
   rwa [OG] at this
  have hsz:s.size≤33*l.length:=by
   have k1:=FF (l.drop i) fun t ht=>hsh t (List.mem_of_mem_drop ht)
   rw [List.drop_eq_getElem_cons hlt,MR,← hs,Bz,List.length_cons,List.length_drop] at k1
   omega
  show AU.S0 (AU.t1 fu) (AU.l0 (AU.t1 fu) n) _ _ _=_
  unfold AU.S0
  rw [show ((0:Nat):Int)=0 from rfl] at h0
  rw [Ob hne,Bool.not_false,cond_true,CB,AA (by omega),cond_true,h0,Ez (by omega),AJ (by omega),cond_false,ID (by omega),cond_false,AE (by omega),show (1:Int)+(l[i].size:Int)=((1+l[i].size:Nat):Int) by omega,DO (by omega),cond_true,Bg (by rw [List.length_take];omega),cond_true,DO (by omega),cond_true]
  rw [CB] at hrest
  rw [show 0+1+l[i].size=1+l[i].size by omega,show ((0+1:Nat):Int)=1 from rfl] at hc
  rw [hc]
  have:=ih (i+1) n _ (by omega) (by omega) (by omega) hrest
  rw [take_one hlt] at this
  exact this
theorem Sx (l:List ByteArray) (hl:l.length≤65536) (hsh:Fw l) {s:ByteArray} (hs:Ax s=BA l):AU s (l.length:Int)=some (l,0):=
 qC l hl hsh l.length 0 fu s (by omega) (by omega) (by unfold fu;omega) (by rw [List.drop_zero];exact hs)
def Kx (l:List ByteArray) (v:Nat):List Int:=if l.length=0 then [] else vB ((BE l).length:Int)++(BA (BE l)++CQ (Bc l) v)
theorem VE (l:List ByteArray) (hl:l.length≤65536) (hsh:Fw l) {v:Nat} (hv:BN (Bc l)=some (v:Int)) (h64:v≤64):KN l=some (ofBytes (Kx l v),0):=by
 unfold KN FL Kx
 rw [Aq,AJ (by omega),cond_false]
 by_cases h0:l.length=0
 ·rw [CT (by omega),cond_true,if_pos h0]
  rfl
 ·have hdl:=Hb l
  have hpl:(Bc l).length=l.length:=Gl _ _
  have hb:(Bc l).length*v≤65536*64:=Nat.mul_le_mul (by omega) h64
  have hpb:=EF (Bc l) v
  have k1:=Eo ((BE l).length:Int)
  have k2:=FF _ hsh.JL
  rw [CE (by omega),cond_false,if_neg h0,NP l hl (by omega),Option.bind_some]
  dsimp only
  rw [Kj _ (by omega) hsh.JL,Option.bind_some]
  dsimp only
  rw [Db rfl,cond_false,hv,Option.bind_some,Kv (Bc l) h64 (by omega) hv (Nat.le_refl _),Option.bind_some,Aq,Gr,Option.bind_some,En,Ed]
  dsimp only
  have r1:CK (ofBytes (vB ((BE l).length:Int))) (ofBytes (BA (BE l)))=true:=decide_eq_true (by rw [AD,AD];omega)
  have r2:CK (ofBytes (vB ((BE l).length:Int)++BA (BE l))) (ofBytes (CQ (Bc l) v))=true:=decide_eq_true (by rw [AD,AD,List.length_append];omega)
  rw [r1,r2,Ed,cond_true,cond_true,List.append_assoc]
  rfl
theorem Zte {s t:ByteArray} {rest:List Int} (h32:t.size≤32) (hs:Ax s=tB t++rest) (hsz:s.size<100000000):KM s=some (t,((tB t).length:Int)):=by
 have ht:=YQ (pre:=[]) hs
 have hf:=ht.fit
 have h0:=ht.at0
 have hc:=ht.cut
 rw [List.length_nil] at hf h0 hc
 have hne:s≠eB:=fun he=>by have:=KT.1 he;omega
 rw [show ((0:Nat):Int)=0 from rfl] at h0
 rw [show 0+1+t.size=1+t.size by omega,show ((0+1:Nat):Int)=1 from rfl] at hc
 unfold KM
 rw [Ob hne,cond_false,CB,AA (by omega),cond_true,h0,Ez (by omega),AJ (by omega),cond_false,ID (by omega),cond_false,AE (by omega),show (1:Int)+(t.size:Int)=((1+t.size:Nat):Int) by omega,DO (by omega),cond_true,hc,OG]
theorem uh {D:List ByteArray} (hD:D.length≤65536) (hinc:Inc Ik D) (h32:Fw D) {s:ByteArray} {pre tail:List Int} (hs:Ax s=pre++(BA D++tail)) (hsz:s.size<100000000) {o1:ByteArray→Int→Int→Int→List ByteArray→Option (List ByteArray×List Int×Int)} {xn size:Int}:
  ∀ (d i n:Nat),d=D.length-i→i≤D.length→d<n→
  Aa.l0 o1 n s xn size ((pre.length+(BA (D.take i)).length:Nat):Int) (D.take i) (D.length:Int) (i:Int)=o1 s xn size ((pre.length+(BA D).length:Nat):Int) D:=by
 have hsl:s.size=pre.length+((BA D).length+tail.length):=by rw [← Bz,hs,List.length_append,List.length_append]
 intro d
 induction d with
 | zero=>
  intro i n hd hi hn
  have:i=D.length:=by omega
  subst this
  obtain ⟨n,rfl⟩:∃ k,n=k+1:=⟨n-1,by omega⟩
  show Aa.S0 _ _ _ _ _ _ _ _ _=_
  unfold Aa.S0
  rw [AJ (by omega),cond_false,List.take_length]
 | succ d ih=>
  intro i n hd hi hn
  obtain ⟨n,rfl⟩:∃ k,n=k+1:=⟨n-1,by omega⟩
  have hlt:i<D.length:=by omega
  show Aa.S0 o1 (Aa.l0 o1 n) _ _ _ _ _ _ _=_
  unfold Aa.S0
  have hsplit:=aI hlt
  have hil:(BA (D.take i)).length+(tB D[i]).length≤(BA D).length:=by rw [hsplit,List.length_append,List.length_append];omega
  have hcut:Ax (cutS s ((pre.length+(BA (D.take i)).length:Nat):Int) (AX s))=tB D[i]++(BA (D.drop (i+1))++tail):=by
   have:=GC (s:=s) (a:=pre++BA (D.take i)) (rest:=tB D[i]++(BA (D.drop (i+1))++tail)) (by rw [hs,hsplit];simp)
   rw [List.length_append] at this
   exact this
  have hv:=OG D[i]
  have htl:(D.take i).length=i:=by rw [List.length_take];omega
  have hnx:An .i64 ((pre.length+(BA (D.take i)).length:Nat):Int) ((tB D[i]).length:Int)=((pre.length+(BA (D.take (i+1))).length:Nat):Int):=by
   have:(BA (D.take (i+1))).length=(BA (D.take i)).length+(tB D[i]).length:=by rw [take_one hlt,MS,List.length_append]
   rw [AE (by omega),this]
   omega
  have hcs:(cutS s ((pre.length+(BA (D.take i)).length:Nat):Int) (AX s)).size<100000000:=by
   rw [← Bz,hcut,List.length_append,List.length_append]
   have:=congrArg List.length hsplit
   rw [List.length_append,List.length_append] at this
   omega
  rw [Bj (by omega),cond_true,DO (by rw [CB];omega),cond_true,Zte (h32 _ (List.getElem_mem hlt)) hcut hcs,Option.bind_some]
  dsimp only
  rw [CE (by omega),cond_false,hnx,AE (by omega),← take_one hlt]
  have:=ih (i+1) n (by omega) (by omega) (by omega)
  rw [Bg (by omega)]
  by_cases hi0:i=0
  ·rw [AJ (by omega),cond_false,cond_true]
   exact this
  ·have hlt1:i-1<(D.take i).length:=by omega
   have hup:=hinc.at (show i-1<i by omega) hlt
   have hle:(ltS D[i] (D.take i)[i-1] || eqS D[i] (D.take i)[i-1])=false:=by
    rw [cF,List.getElem_take,decide_eq_false (Im.asym hup),Ob (fun e=>by
     have:=(Im.eq0 _ _).2 e
     rw [Im.neg D[i-1] D[i],hup] at this
     exact absurd this (by decide))]
    rfl
   rw [Bj (by omega),cond_true,Dk (by omega),AA (by rw [Aq,htl];omega),cond_true,show (i:Int)-1=((i-1:Nat):Int) by omega,AQ hlt1,hle,cond_false,cond_true]
   exact this
theorem ui {D:List ByteArray} {P:List Int} (hP:P.length≤65536) (hPm:∀ x∈P,0≤x∧x<(D.length:Int)) {o3:List ByteArray→List Int→List Bool→Option (List ByteArray×List Int×Int)}:
  ∀ (d i n:Nat),d=P.length-i→i≤P.length→d<n→
  Aa.l2 o3 n (D.length:Int) D P P (P.length:Int) (i:Int) (Ek D.length (P.take i))=o3 D P (Ek D.length P):=by
 intro d
 induction d with
 | zero=>
  intro i n hd hi hn
  have:i=P.length:=by omega
  subst this
  obtain ⟨n,rfl⟩:∃ k,n=k+1:=⟨n-1,by omega⟩
  show Aa.S2 _ _ _ _ _ _ _ _ _=_
  unfold Aa.S2
  rw [AJ (by omega),cond_false,List.take_length]
 | succ d ih=>
  intro i n hd hi hn
  obtain ⟨n,rfl⟩:∃ k,n=k+1:=⟨n-1,by omega⟩
  have hlt:i<P.length:=by omega
  have hx:=hPm P[i] (List.getElem_mem hlt)
  have hsl:(Ek D.length (P.take i)).length=D.length:=by unfold Ek;simp
  show Aa.S2 o3 (Aa.l2 o3 n) _ _ _ _ _ _ _=_
  unfold Aa.S2
  rw [Bj (by omega),cond_true,AA (by rw [Aq];omega),cond_true,AQ hlt,AJ hx.1,cond_false,ID hx.2,cond_false,AA (by rw [Aq,hsl];exact hx),cond_true,AE (by omega),ec _ _ _ hx.1,← take_one hlt]
  exact ih (i+1) n (by omega) (by omega) (by omega)
theorem qD {D:List ByteArray} {P:List Int} (hP:P.length≤65536) (hPm:∀ x∈P,0≤x∧x<(D.length:Int)):∀ (d i n:Nat),d=P.length-i→i≤P.length→d<n→
  BM.l0 n D ((P.take i).map fun x=>D.getD x.toNat eB) P (P.length:Int) (i:Int)=some (P.map fun x=>D.getD x.toNat eB):=by
 intro d
 induction d with
 | zero=>
  intro i n hd hi hn
  have:i=P.length:=by omega
  subst this
  obtain ⟨n,rfl⟩:∃ k,n=k+1:=⟨n-1,by omega⟩
  show BM.S0 _ _ _ _ _ _=_
  unfold BM.S0
  rw [AJ (by omega),cond_false,List.take_length]
 | succ d ih=>
  intro i n hd hi hn
  obtain ⟨n,rfl⟩:∃ k,n=k+1:=⟨n-1,by omega⟩
  have hlt:i<P.length:=by omega
  have hx:=hPm P[i] (List.getElem_mem hlt)
  show BM.S0 (BM.l0 n) _ _ _ _ _=_
  unfold BM.S0
  rw [Bj (by omega),cond_true,AA (by rw [Aq];omega),cond_true,AQ hlt,AA (by rw [Aq];exact hx),cond_true,Bg (by rw [List.length_map,List.length_take];omega),cond_true,AE (by omega)]
  have:=ih (i+1) n (by omega) (by omega) (by omega)
  rw [take_one hlt,List.map_append] at this
  exact this
theorem ch (l:List ByteArray) (hl:l.length≤65536) (hsh:Fw l) {v:Nat} (hv64:v≤64) (hwd:Wd (Bc l) v) {s:ByteArray} (hs:Ax s=Kx l v) (h0:0<l.length):
  Aa s (l.length:Int)=some (BE l,Bc l,0):=by
 have hdl:=Hb l
 have hsp:=Ie l
 have hdp:=hsp.pos h0
 have hpl:(Bc l).length=l.length:=Gl _ _
 have hs':Ax s=vB ((BE l).length:Int)++(BA (BE l)++CQ (Bc l) v):=by
  unfold Kx at hs
  rwa [if_neg (by omega)] at hs
 have hb:(Bc l).length*v≤65536*64:=Nat.mul_le_mul (by omega) hv64
 have hpb:=EF (Bc l) v
 have k1:=Eo ((BE l).length:Int)
 have k2:=FF _ hsh.JL
 have hsz:s.size=(vB ((BE l).length:Int)).length+((BA (BE l)).length+(CQ (Bc l) v).length):=by rw [← Bz,hs',List.length_append,List.length_append]
 show Aa.S (Aa.l0 (Aa.t1 fu) fu) s _=_
 unfold Aa.S
 rw [AJ (by omega),cond_false,AJ (by omega),cond_false,CE (by omega),cond_false,Ic (by unfold BZ;omega) hs',Option.bind_some]
 dsimp only
 rw [Db rfl,cond_false,AJ (by omega),cond_false,AJ (by omega),cond_false]
 have hloop:=uh (D:=BE l) (by omega) hsp.1 hsh.JL hs' (by omega) (o1:=Aa.t1 fu) (xn:=(l.length:Int)) (size:=((BE l).length:Int)) (BE l).length 0 fu (by omega) (by omega) (by unfold fu;omega)
 rw [List.take_zero,show BA []=[] from rfl,List.length_nil,Nat.add_zero] at hloop
 rw [show (0:Int)=((0:Nat):Int) from rfl,hloop]
 show Aa.S1 (Aa.l2 (Aa.t3 18446744073709551615) 18446744073709551615) s _ _ _ _=_
 unfold Aa.S1
 obtain ⟨v',w1,w2,w3⟩:=KS [((BE l).length:Int)-1] (by simp)
 have hvv:v'=v:=(Zo4 Im hsp h0 w3 (by omega)).unique hwd
 subst hvv
 have hcut:Ax (cutS s (((vB ((BE l).length:Int)).length+(BA (BE l)).length:Nat):Int) (AX s))=CQ (Bc l) v':=by
  have:=GC (s:=s) (a:=vB ((BE l).length:Int)++BA (BE l)) (rest:=CQ (Bc l) v') (by rw [hs',List.append_assoc])
  rw [List.length_append] at this
  exact this
 have hpk:=Nj (l:=Bc l) (w:=v') hv64 (by omega) (fun x hx=>by have:=Mv hsp x hx;unfold BZ;omega) hwd.1 hcut
 rw [hpl] at hpk
 rw [DO (by rw [CB];omega),cond_true,Dk (by omega),w1,Option.bind_some,hpk,Option.bind_some]
 dsimp only
 rw [Db rfl,cond_false,DL (by omega),Bg (by show (BE l).length*1≤_;omega)]
 have hseen0:List.replicate (Int.toNat ((BE l).length:Int)) false=Ek (BE l).length ((Bc l).take 0):=by
  unfold Ek
  rw [List.take_zero]
  symm
  rw [List.eq_replicate_iff]
  refine ⟨by simp,fun b hb=>?_⟩
  obtain ⟨k,_,rfl⟩:=List.mem_map.1 hb
  rfl
 have hl2:=ui (D:=BE l) (P:=Bc l) (by omega) (fun x hx=>Mv hsp x hx) (o3:=Aa.t3 18446744073709551615) (Bc l).length 0 18446744073709551615 (by omega) (by omega) (by omega)
 rw [hseen0,Aq]
 refine Eq.trans hl2 ?_
 show Aa.S3 (BE l) (Bc l) (Ek (BE l).length (Bc l))=_
 unfold Aa.S3
 have hsb:∀ b∈Ek (BE l).length (Bc l),b=true:=fun b hb=>by
  unfold Ek at hb
  obtain ⟨k,hk,rfl⟩:=List.mem_map.1 hb
  exact List.any_eq_true.2 ⟨_,kV Im hsp (List.mem_range.1 hk),decide_eq_true rfl⟩
 have hsbl:(Ek (BE l).length (Bc l)).length=(BE l).length:=by unfold Ek;simp
 have hcon:DV (Ek (BE l).length (Bc l)) false=some false:=by
  unfold DV
  have:=Wx _ (by omega) hsb (Ek (BE l).length (Bc l)).length 0 fu (by omega) (by omega) (by unfold fu;omega)
  have h2:AZ (Ek (BE l).length (Bc l)) false=some (-1):=this
  rw [h2]
  rfl
 rw [hcon]
 rfl
theorem UC (l:List ByteArray) (hl:l.length≤65536) (hsh:Fw l) {v:Nat} (hv64:v≤64) (hwd:Wd (Bc l) v) {s:ByteArray} (hs:Ax s=Kx l v):
  JU s (l.length:Int)=some (l,0):=by
 unfold JU MJ
 by_cases h0:l.length=0
 ·have hse:s=eB:=KT.2 (by rw [← Bz,hs];unfold Kx;rw [if_pos h0];rfl)
  have:l=[]:=List.eq_nil_of_length_eq_zero h0
  subst this
  have h1:Aa s (([]:List ByteArray).length:Int)=some ([],[],0):=by
   show Aa.S _ s 0=_
   unfold Aa.S
   rw [AJ (by omega),cond_false,AJ (by omega),cond_false,CT rfl,cond_true,JZ hse]
   rfl
  rw [h1]
  rfl
 ·have hdl:=Hb l
  have hsp:=Ie l
  rw [ch l hl hsh hv64 hwd hs (by omega),Option.bind_some,Option.bind_some]
  dsimp only
  rw [Db rfl,cond_false]
  have:=qD (D:=BE l) (P:=Bc l) (by rw [Gl];exact hl) (fun x hx=>Mv hsp x hx) (Bc l).length 0 fu (by omega) (by omega) (by rw [Gl];unfold fu;omega)
  have h2:BM (BE l) (Bc l)=some ((Bc l).map fun x=>(BE l).getD x.toNat eB):=this
  rw [h2,eH hsp eB]
  rfl
end Go.AM.Pure
end

section
/- Texts by runs of places; words by a code; blocks of any kind. -/
namespace Go.AM.Pure
open Go.AM
def TR (l:List ByteArray):List Int:=if l.length=0 then [] else vB ((BE l).length:Int)++(BA (BE l)++FN (Is (Bc l)))
theorem qz {D:List ByteArray} (hD:D.length≤65536) (h32:Fw D) {s:ByteArray} {pre tail:List Int} (hs:Ax s=pre++(BA D++tail)) (hsz:s.size<100000000) {o1:ByteArray→Int→Int→Int→List ByteArray→Option (List ByteArray×Int)} {xn size:Int}:
  ∀ (d i n:Nat),d=D.length-i→i≤D.length→d<n→
  AF.l0 o1 n s xn size ((pre.length+(BA (D.take i)).length:Nat):Int) (D.take i) (D.length:Int) (i:Int)=o1 s xn size ((pre.length+(BA D).length:Nat):Int) D:=by
 have hsl:s.size=pre.length+((BA D).length+tail.length):=by rw [← Bz,hs,List.length_append,List.length_append]
 intro d
 induction d with
 | zero=>
  intro i n hd hi hn
  have:i=D.length:=by omega
  subst this
  obtain ⟨n,rfl⟩:∃ k,n=k+1:=⟨n-1,by omega⟩
  show AF.S0 _ _ _ _ _ _ _ _ _=_
  unfold AF.S0
  rw [AJ (by omega),cond_false,List.take_length]
 | succ d ih=>
  intro i n hd hi hn
  obtain ⟨n,rfl⟩:∃ k,n=k+1:=⟨n-1,by omega⟩
  have hlt:i<D.length:=by omega
  have hsplit:=aI hlt
  have hil:=congrArg List.length hsplit
  rw [List.length_append,List.length_append,OG] at hil
  have ht:=YQ (s:=s) (t:=D[i]) (pre:=pre++BA (D.take i)) (rest:=BA (D.drop (i+1))++tail) (by rw [hs,hsplit];simp)
  have hf:=ht.fit
  have h0:=ht.at0
  have hc:=ht.cut
  have h3:=h32 D[i] (List.getElem_mem hlt)
  rw [List.length_append] at hf h0 hc
  have hnx:(BA (D.take (i+1))).length=(BA (D.take i)).length+(1+D[i].size):=by rw [take_one hlt,MS,List.length_append,OG]
  show AF.S0 o1 (AF.l0 o1 n) _ _ _ _ _ _ _=_
  unfold AF.S0
  generalize hp:pre.length+(BA (D.take i)).length=p at hf h0 hc
  rw [Bj (by omega),cond_true,CB,ID (by omega),cond_false,AA (by omega),cond_true,h0,Ez (by omega),Dk (by omega),ID (by omega),cond_false,cond_true,AE (a:=(p:Int)) (b:=1) (by omega),show (p:Int)+1=((p+1:Nat):Int) by omega,AE (by omega),show ((p+1:Nat):Int)+(D[i].size:Int)=((p+1+D[i].size:Nat):Int) by omega,
   DO (by omega),cond_true,Bg (by rw [List.length_take];omega),cond_true,hc,AE (by omega),← take_one hlt]
  have:=ih (i+1) n (by omega) (by omega) (by omega)
  rw [show pre.length+(BA (D.take (i+1))).length=p+1+D[i].size by omega] at this
  exact this
theorem qA {D:List ByteArray} {P:List Int} (hP:P.length≤65536) (hPm:∀ x∈P,0≤x∧x<(D.length:Int)):∀ (d i n:Nat),d=P.length-i→i≤P.length→d<n→
  AF.l2 n (D.length:Int) D ((P.take i).map fun x=>D.getD x.toNat eB) P (P.length:Int) (i:Int)=some (P.map fun x=>D.getD x.toNat eB,0):=by
 intro d
 induction d with
 | zero=>
  intro i n hd hi hn
  have:i=P.length:=by omega
  subst this
  obtain ⟨n,rfl⟩:∃ k,n=k+1:=⟨n-1,by omega⟩
  show AF.S2 _ _ _ _ _ _ _=_
  unfold AF.S2
  rw [AJ (by omega),cond_false,List.take_length]
 | succ d ih=>
  intro i n hd hi hn
  obtain ⟨n,rfl⟩:∃ k,n=k+1:=⟨n-1,by omega⟩
  have hlt:i<P.length:=by omega
  have hx:=hPm P[i] (List.getElem_mem hlt)
  show AF.S2 (AF.l2 n) _ _ _ _ _ _=_
  unfold AF.S2
  rw [Bj (by omega),cond_true,AA (by rw [Aq];omega),cond_true,AQ hlt,AJ hx.1,cond_false,ID hx.2,cond_false,AA (by rw [Aq];exact hx),cond_true,Bg (by rw [List.length_map,List.length_take];omega),cond_true,AE (by omega)]
  have:=ih (i+1) n (by omega) (by omega) (by omega)
  rw [take_one hlt,List.map_append] at this
  exact this
theorem VC (l:List ByteArray) (hl:l.length≤65536) (hsh:Fw l) {s:ByteArray} (hs:Ax s=TR l):AF s (l.length:Int)=some (l,0):=by
 show AF.S (AF.l0 (AF.t1 fu) fu) s _=_
 unfold AF.S
 unfold TR at hs
 by_cases h0:l.length=0
 ·rw [if_pos h0] at hs
  have hse:s=eB:=KT.2 (by rw [← Bz,hs];rfl)
  rw [CT (by omega),cond_true,JZ hse,List.eq_nil_of_length_eq_zero h0]
  rfl
 ·rw [if_neg h0] at hs
  have hdl:=Hb l
  have hsp:=Ie l
  have hdp:=hsp.pos (by omega)
  have hpl:(Bc l).length=l.length:=Gl _ _
  have k1:=Eo ((BE l).length:Int)
  have k2:=FF _ hsh.JL
  obtain ⟨r1,r2,r3⟩:=Kc (Bc l) (by omega)
  have k3:=IS (Is (Bc l))
  have k4:=FZ _ _ _ r3
  rw [r2] at k4
  have hsz:s.size=(vB ((BE l).length:Int)).length+((BA (BE l)).length+(FN (Is (Bc l))).length):=by rw [← Bz,hs,List.length_append,List.length_append]
  rw [CE (by omega),cond_false,Ic (by unfold BZ;omega) hs,Option.bind_some]
  dsimp only
  rw [Db rfl,cond_false,AJ (by omega),cond_false,AJ (by omega),cond_false]
  have hloop:=qz (D:=BE l) (by omega) hsh.JL hs (by omega) (o1:=AF.t1 fu) (xn:=(l.length:Int)) (size:=((BE l).length:Int)) (BE l).length 0 fu (by omega) (by omega) (by unfold fu;omega)
  rw [List.take_zero,show BA []=[] from rfl,List.length_nil,Nat.add_zero] at hloop
  rw [show (0:Int)=((0:Nat):Int) from rfl,hloop]
  show AF.S1 (AF.l2 18446744073709551615) s _ _ _ _=_
  unfold AF.S1
  have hcut:Ax (cutS s (((vB ((BE l).length:Int)).length+(BA (BE l)).length:Nat):Int) (AX s))=FN (Is (Bc l)):=by
   have:=GC (s:=s) (a:=vB ((BE l).length:Int)++BA (BE l)) (rest:=FN (Is (Bc l))) (by rw [hs,List.append_assoc])
   rw [List.length_append] at this
   exact this
  have ht:=Ss (Is (Bc l)) r3 (by rw [r2];omega) (fun r hr=>by
   have hm:r.1∈Bc l:=r2 ▸ QV r3 r hr
   have:=Mv hsp r.1 hm
   unfold BZ;omega) hcut
  rw [r2,hpl] at ht
  rw [DO (by rw [CB];omega),cond_true,ht,Option.bind_some]
  dsimp only
  rw [Db rfl,cond_false,Su _ r3 (by rw [r2];omega),r2,Option.bind_some]
  dsimp only
  rw [Db rfl,cond_false]
  have:=qA (D:=BE l) (P:=Bc l) (by omega) (fun x hx=>Mv hsp x hx) (Bc l).length 0 18446744073709551615 (by omega) (by omega) (by omega)
  rw [eH hsp eB] at this
  exact this
def MQ (l:List ByteArray) (code:Int):Option (List Int):=
 if code=1 then some (BA l)
 else if code=4 then some (Kx l (Ee (Bc l)))
 else if code=2 then some (TR l)
 else none
theorem YO (l:List ByteArray) (hl:l.length≤65536) (hsh:Fw l) (code:Int):Jj l code=some (match MQ l code with | some b=>(ofBytes b,0) | none=>(eB,1)):=by
 have hpl:(Bc l).length=l.length:=Gl _ _
 unfold Jj MQ
 by_cases h1:code=1
 ·rw [CT h1,cond_true,if_pos h1,Kj l hl hsh]
  rfl
 ·rw [CE h1,cond_false,if_neg h1]
  by_cases h4:code=4
  ·obtain ⟨k1,k2,_⟩:=Fu (Bc l) (by omega)
   rw [CT h4,cond_true,if_pos h4,VE l hl hsh k1 k2]
   rfl
  ·rw [CE h4,cond_false,if_neg h4]
   by_cases h2:code=2
   ·rw [CT h2,cond_true,if_pos h2,Aq]
    unfold TR
    by_cases h0:l.length=0
    ·rw [CT (by omega),cond_true,if_pos h0]
     rfl
    ·obtain ⟨r1,r2,r3⟩:=Kc (Bc l) (by omega)
     have hdl:=Hb l
     have k1:=Eo ((BE l).length:Int)
     have k2:=FF _ hsh.JL
     have k3:=IS (Is (Bc l))
     have k4:=FZ _ _ _ r3
     rw [r2] at k4
     rw [CE (by omega),cond_false,if_neg h0,NP l hl (by omega),Option.bind_some]
     dsimp only
     rw [Kj _ (by omega) hsh.JL,Option.bind_some]
     dsimp only
     rw [Db rfl,cond_false,r1,Option.bind_some,UJ _ r3 (by rw [r2];omega),Option.bind_some,Aq,Gr,Option.bind_some,En,Ed]
     dsimp only
     have r1:CK (ofBytes (vB ((BE l).length:Int))) (ofBytes (BA (BE l)))=true:=decide_eq_true (by rw [AD,AD];omega)
     have r2:CK (ofBytes (vB ((BE l).length:Int)++BA (BE l))) (ofBytes (FN (Is (Bc l))))=true:=decide_eq_true (by rw [AD,AD,List.length_append];omega)
     rw [r1,r2,Ed,cond_true,cond_true,List.append_assoc]
   ·rw [CE h2,cond_false,if_neg h2]
theorem ue {l:List ByteArray} (hl:l.length≤65536) (hsh:Fw l) {code:Int} {b:List Int} (h:MQ l code=some b):(∀ x∈b,0≤x∧x<256)∧b.length≤60*l.length+40:=by
 have hpl:(Bc l).length=l.length:=Gl _ _
 have hdl:=Hb l
 have k1:=Eo ((BE l).length:Int)
 have k2:=FF _ hsh.JL
 unfold MQ at h
 split at h
 ·cases h
  have:=FF l hsh
  exact ⟨LW l hsh,by omega⟩
 ·split at h
  ·cases h
   obtain ⟨_,w2,_⟩:=Fu (Bc l) (by omega)
   have h3:(CQ (Bc l) (Ee (Bc l))).length≤8*l.length:=by
    rw [EF,hpl]
    have:l.length*Ee (Bc l)≤l.length*64:=Nat.mul_le_mul_left _ w2
    omega
   unfold Kx
   split
   ·exact ⟨fun x hx=>(by cases hx),by simp⟩
   ·refine ⟨fun x hx=>?_,by rw [List.length_append,List.length_append];omega⟩
    rcases List.mem_append.1 hx with hx | hx
    ·exact Jf _ x hx
    ·rcases List.mem_append.1 hx with hx | hx
     ·exact LW _ hsh.JL x hx
     ·exact Lj _ _ x hx
  ·split at h
   ·cases h
    obtain ⟨r1,r2,r3⟩:=Kc (Bc l) (by omega)
    have k3:=IS (Is (Bc l))
    have k4:=FZ _ _ _ r3
    rw [r2] at k4
    unfold TR
    split
    ·exact ⟨fun x hx=>(by cases hx),by simp⟩
    ·refine ⟨fun x hx=>?_,by rw [List.length_append,List.length_append];omega⟩
     rcases List.mem_append.1 hx with hx | hx
     ·exact Jf _ x hx
     ·rcases List.mem_append.1 hx with hx | hx
      ·exact LW _ hsh.JL x hx
      ·exact QU _ x hx
   ·cases h
theorem YP {l:List ByteArray} (hl:l.length≤65536) (hsh:Fw l) {code:Int} {b:List Int} (h:MQ l code=some b) {s:ByteArray} (hs:Ax s=b):Kn s (l.length:Int) code=some (l,0):=by
 have hpl:(Bc l).length=l.length:=Gl _ _
 unfold MQ at h
 unfold Kn
 by_cases h1:code=1
 ·rw [if_pos h1] at h
  cases h
  rw [CT h1,cond_true,Sx l hl hsh hs]
  rfl
 ·rw [if_neg h1] at h
  rw [CE h1,cond_false]
  by_cases h4:code=4
  ·rw [if_pos h4] at h
   cases h
   obtain ⟨k1,k2,k3⟩:=Fu (Bc l) (by omega)
   rw [CE (by omega),cond_false,CT h4,cond_true,UC l hl hsh k2 k3 hs]
   rfl
  ·rw [if_neg h4] at h
   by_cases h2:code=2
   ·rw [if_pos h2] at h
    cases h
    rw [CT h2,cond_true,VC l hl hsh hs]
    rfl
   ·rw [if_neg h2] at h
    cases h
theorem uf (l:List ByteArray) (hl:l.length≤65536) (h:Int×Int×Int×Int) (e:Int):∀ (d i n:Nat),d=l.length-i→i≤l.length→d<n→
  Bb.l1 n ((l.take i).map fun x=>((h.1,0,x):Cell)) e l (l.length:Int) (i:Int) h=some (l.map fun x=>((h.1,0,x):Cell),e):=by
 intro d
 induction d with
 | zero=>
  intro i n hd hi hn
  have:i=l.length:=by omega
  subst this
  obtain ⟨n,rfl⟩:∃ k,n=k+1:=⟨n-1,by omega⟩
  show Bb.S1 _ _ _ _ _ _ _=_
  unfold Bb.S1
  rw [AJ (by omega),cond_false,List.take_length]
 | succ d ih=>
  intro i n hd hi hn
  obtain ⟨n,rfl⟩:∃ k,n=k+1:=⟨n-1,by omega⟩
  have hlt:i<l.length:=by omega
  show Bb.S1 (Bb.l1 n) _ _ _ _ _ _=_
  unfold Bb.S1
  rw [Bj (by omega),cond_true,AA (by rw [Aq];omega),cond_true,Bg (by rw [List.length_map,List.length_take];omega),cond_true,AQ hlt,AE (by omega)]
  have:=ih (i+1) n (by omega) (by omega) (by omega)
  rw [take_one hlt,List.map_append] at this
  exact this
theorem WD {s:ByteArray} {l:List ByteArray} (hl:l.length≤65536) {code k n:Int} (hs:Kn s n code=some (l,0)) (m:Int):Bb s n (2,code,m,k)=some (l.map fun x=>((2,0,x):Cell),0):=by
 show Bb.S _ (Bb.l1 fu) s n _=_
 unfold Bb.S
 dsimp only
 rw [CE (by omega),cond_false,CT rfl,cond_true,hs,Option.bind_some]
 exact uf l hl (2,code,m,k) 0 l.length 0 fu (by omega) (by omega) (by unfold fu;omega)
def Jq (l:List Cell) (kind code:Int):Option (List Int):=if kind=1 then OH (LX l) code else MQ (LY l) code
theorem eE {l:List Cell} {kind:Int} (h:Iq l kind):∀ c∈BD l,(kind=1∧∃ n,c=(1,n,eB))∨(kind=2∧∃ t,c=(2,0,t)∧t.size≤32):=fun c hc=>by
 unfold BD at hc
 obtain ⟨h1,h2⟩:=List.mem_filter.1 hc
 obtain ⟨h3,h4⟩:=h.2.2.2 c h1
 rcases Vr h3 with rfl | ⟨n,rfl⟩ | ⟨t,rfl,ht⟩
 ·exact absurd h2 (by decide)
 ·rcases h4 with h4 | h4
  ·exact absurd h4 (by show ¬ (1:Int)=0;decide)
  ·exact .inl ⟨h4.symm,n,rfl⟩
 ·rcases h4 with h4 | h4
  ·exact absurd h4 (by show ¬ (2:Int)=0;decide)
  ·exact .inr ⟨h4.symm,t,rfl,ht⟩
theorem Po {l:List Cell} {kind:Int} (h:Iq l kind):Fw (LY (BD l)):=fun t ht=>by
 obtain ⟨c,hc,rfl⟩:=List.mem_map.1 ht
 rcases eE h c hc with ⟨_,n,rfl⟩ | ⟨_,t,rfl,h⟩
 ·exact Nat.zero_le _
 ·exact h
theorem La {l:List Cell} {kind:Int} (h:Iq l kind) (code:Int):Bh (BD l) kind code=some (match Jq (BD l) kind code with | some b=>(ofBytes b,0) | none=>(eB,1)):=by
 have hle:=Gk l
 have h2:=h.2.1
 rw [WG _ (by omega)]
 unfold Jq
 by_cases hk:kind=1
 ·rw [CT hk,cond_true,if_pos hk,VG _ (by rw [List.length_map];omega)]
  rfl
 ·rw [CE hk,cond_false,if_neg hk,YO _ (by rw [List.length_map];omega) (Po h)]
theorem VD {l:List Cell} {kind:Int} (h:Iq l kind) {code:Int} {b:List Int} (hb:Jq (BD l) kind code=some b):(∀ x∈b,0≤x∧x<256)∧b.length≤10000:=by
 have hle:=Gk l
 have h2:=h.2.1
 unfold Jq at hb
 split at hb
 ·obtain ⟨h3,h4⟩:=Zwe (by rw [List.length_map];omega) hb
  rw [List.length_map] at h4
  exact ⟨h3,by omega⟩
 ·obtain ⟨h3,h4⟩:=ue (by rw [List.length_map];omega) (Po h) hb
  rw [List.length_map] at h4
  exact ⟨h3,by omega⟩
theorem Sw {l:List Cell} {kind code:Int} {b:List Int} (hb:Jq l kind code=some b):1≤code∧code≤5:=by
 unfold Jq OH MQ at hb
 repeat' split at hb
 all_goals first
  | omega
  | cases hb
theorem Zpx {l:List Cell} {kind code:Int} (h:Iq l kind) {b:List Int} (hb:Jq (BD l) kind code=some b):Gt l kind code=some (ofBytes (GP (Ir l kind code b)),0):=by
 obtain ⟨h1,h2⟩:=VD h hb
 have hc:=Sw hb
 exact SB h (by omega) (by omega) h1 (by rw [La h,hb])
theorem Zse {l:List Cell} {kind code:Int} (h:Iq l kind) (hb:Jq (BD l) kind code=none):Gt l kind code=some (eB,1):=by
 obtain ⟨h1,h2,_,_⟩:=id h
 unfold Gt
 rw [kY h,Option.bind_some,Bool.not_true,cond_false,Qg l (by omega) (by omega),Option.bind_some]
 dsimp only
 rw [La h,hb,Option.bind_some]
 rfl
theorem eF {l:List Cell} {kind code:Int} (h:Iq l kind) (h64:∀ c∈l,BZ c.2.1) {b:List Int} (hb:Jq (BD l) kind code=some b):
  HD (ofBytes (GP (Ir l kind code b)))=some (((kind,code,(l.length:Int),((l.length-(BD l).length:Nat):Int)),ofBytes (DX l),ofBytes b,l),true):=by
 obtain ⟨h1,h2⟩:=VD h hb
 have hc:=Sw hb
 have hle:=Gk l
 have hm:=h.2.1
 refine cj h (by omega) (by omega) h1 (by rw [La h,hb]) fun s hs k=>?_
 unfold Jq at hb
 rcases h.2.2.1 with rfl | rfl
 ·rw [if_pos rfl] at hb
  have h3:=ck (by rw [List.length_map];omega) (fun x hx=>by
   obtain ⟨c,hc,rfl⟩:=List.mem_map.1 hx
   unfold BD at hc
   exact h64 c (List.mem_filter.1 hc).1) hb hs
  rw [List.length_map] at h3
  rw [WH (by rw [List.length_map];omega) h3 (l.length:Int),List.map_map]
  congr 2
  conv=>rhs;rw [← List.map_id (BD l)]
  apply List.map_congr_left
  intro c hc
  rcases eE h c hc with ⟨_,n,rfl⟩ | ⟨h,_⟩
  ·rfl
  ·omega
 ·rw [if_neg (by omega)] at hb
  have h3:=YP (by rw [List.length_map];omega) (Po h) hb hs
  rw [List.length_map] at h3
  rw [WD (by rw [List.length_map];omega) h3 (l.length:Int),List.map_map]
  congr 2
  conv=>rhs;rw [← List.map_id (BD l)]
  apply List.map_congr_left
  intro c hc
  rcases eE h c hc with ⟨h,_⟩ | ⟨_,t,rfl,_⟩
  ·omega
  ·rfl
end Go.AM.Pure
end

section
/- The document's words of few bits: the same bytes as pack.Put's; which cells are nulls; plain numbers. -/
namespace Go.AM.Pure
open Go.AM
theorem Zlx (x:Int):∀ (m k n:Nat),m=k→k≤64→m<n→x % 18446744073709551616<2 ^ k→
  ∃ v:Nat,Cy.l0 n ((k:Int)-1) (bitsOf x)=some (v:Int)∧v≤64∧Wd [x] v:=by
 intro m
 induction m with
 | zero=>
  intro k n hk hk64 hn hlt
  subst hk
  obtain ⟨n,rfl⟩:∃ j,n=j+1:=⟨n-1,by omega⟩
  refine ⟨0,?_,by omega,⟨fun y hy=>?_, .inl rfl⟩⟩
  ·show Cy.S0 _ _ _=_
   unfold Cy.S0
   rw [ID (by omega)]
   rfl
  ·rw [List.mem_singleton.1 hy];exact hlt
 | succ m ih=>
  intro k n hk hk64 hn hlt
  subst hk
  obtain ⟨n,rfl⟩:∃ j,n=j+1:=⟨n-1,by omega⟩
  have hlen:=GN x
  have hb:=Ia x (k:=m) (by omega)
  have hd:decide (64=(bitsOf x).length)=true:=decide_eq_true hlen.symm
  have hmod:=mod_pow_succ (x % 18446744073709551616) m
  rw [Int.emod_eq_of_lt (by omega) hlt,Hw x (by omega)] at hmod
  show ∃ v:Nat,Cy.S0 (Cy.l0 n) _ _=_∧_
  unfold Cy.S0
  rw [show ((m+1:Nat):Int)-1=(m:Int) by omega,DL (by omega),cond_true,AA (by omega),hd,Bool.true_and,cond_true,show Int.toNat (m:Int)=m from rfl,hb]
  have hp:=Da m
  have hr:0≤x % 18446744073709551616 % 2 ^ m∧x % 18446744073709551616 % 2 ^ m<2 ^ m:=⟨Int.emod_nonneg _ (by omega),Int.emod_lt_of_pos _ hp⟩
  by_cases hbit:bit x m=true
  ·rw [hbit,if_pos rfl] at hmod
   rw [hbit,cond_true,AE (by omega)]
   refine ⟨m+1,by rw [Int.natCast_add];rfl,by omega,⟨fun y hy=>?_, .inr ⟨x,List.mem_singleton.2 rfl,?_⟩⟩⟩
   ·rw [List.mem_singleton.1 hy];exact hlt
   ·rw [Nat.add_sub_cancel];omega
  ·rw [Bool.not_eq_true] at hbit
   rw [hbit] at hmod
   rw [hbit,cond_false,Dk (by omega)]
   exact ih m n rfl (by omega) (by omega) (by
    rw [if_neg (by decide)] at hmod
    omega)
theorem YL (x:Int):∃ v:Nat,Cy x=some (v:Int)∧v≤64∧Wd [x] v:=by
 unfold Cy Cy.S
 rw [Jm,Option.bind_some]
 exact Zlx x 64 64 fu rfl (by omega) (by unfold fu;omega) (by rw [show (2:Int) ^ 64=18446744073709551616 from rfl];omega)
theorem Zmx {l:List Int} {x:Int} {w v:Nat} (h:Wd l w) (k:Wd [x] v):Wd (l++[x]) (max w v):=by
 have hx:=k.1 x (List.mem_singleton.2 rfl)
 have pw:∀ a b:Nat,a≤b→(2:Int) ^ a≤2 ^ b:=fun a b h=>by
  have:=Nat.pow_le_pow_right (show 0<2 by omega) h
  exact_mod_cast this
 constructor
 ·intro y hy
  rcases List.mem_append.1 hy with hy | hy
  ·have:=h.1 y hy
   have:=pw w (max w v) (by omega)
   omega
  ·rw [List.mem_singleton.1 hy]
   have:=pw v (max w v) (by omega)
   omega
 ·by_cases hwv:v≤w
  ·rw [show max w v=w by omega]
   rcases h.2 with h2 | ⟨y,hy,h2⟩
   ·exact .inl h2
   ·exact .inr ⟨y,List.mem_append_left _ hy,h2⟩
  ·rw [show max w v=v by omega]
   rcases k.2 with h2 | ⟨y,hy,h2⟩
   ·omega
   ·rw [List.mem_singleton.1 hy] at h2
    exact .inr ⟨x,by simp,h2⟩
theorem Znx (l:List Int) (hl:l.length≤65536):∀ (d i n w:Nat),d=l.length-i→i≤l.length→d<n→w≤64→Wd (l.take i) w→
  ∃ v:Nat,Cr.l0 n l (w:Int) (i:Int)=some (v:Int)∧Wd l v:=by
 intro d
 induction d with
 | zero=>
  intro i n w hd hi hn hw h
  have:i=l.length:=by omega
  subst this
  obtain ⟨n,rfl⟩:∃ k,n=k+1:=⟨n-1,by omega⟩
  rw [List.take_length] at h
  refine ⟨w,?_,h⟩
  show Cr.S0 _ _ _ _=_
  unfold Cr.S0
  rw [Aq,AJ (by omega),cond_false]
 | succ d ih=>
  intro i n w hd hi hn hw h
  obtain ⟨n,rfl⟩:∃ k,n=k+1:=⟨n-1,by omega⟩
  have hlt:i<l.length:=by omega
  obtain ⟨v,h1,h2,h3⟩:=YL l[i]
  show ∃ u:Nat,Cr.S0 (Cr.l0 n) _ _ _=_∧_
  unfold Cr.S0
  have hm:FP (w:Int) (v:Int)=((max w v:Nat):Int):=by unfold FP;split <;> omega
  rw [Aq,Bj (by omega),cond_true,AA (by omega),cond_true,AQ hlt,h1,Option.bind_some,hm,AE (by omega)]
  exact ih (i+1) n (max w v) (by omega) (by omega) (by omega) (by omega) (by rw [take_one hlt];exact Zmx h h3)
theorem Kb (l:List Int) (hl:l.length≤65536):Cr l=some (Ee l:Int):=by
 obtain ⟨v,h1,h2⟩:=Znx l hl l.length 0 fu 0 (by omega) (by omega) (by unfold fu;omega) (by omega) ⟨fun y hy=>by simp at hy, .inl rfl⟩
 rw [h2.unique (Fu l hl).2.2] at h1
 exact h1
theorem WC:∀ (n:Nat) (s:List Bool),s=[]→Eu n s=List.replicate n 0
 | 0,_,_=>rfl
 | n+1,s,h=>by
  subst h
  rw [IJ,List.replicate_succ]
  congr 1
  exact WC n _ rfl
theorem ud (n:Nat) (A:List Bool) (b:Bool) (h:A.length<8*n):
  Eu n (A++[b])=if b=true then (Eu n A).set (A.length / 8) ((Eu n A).getD (A.length / 8) 0+2 ^ (A.length % 8)) else Eu n A:=by
 have hlen:=Gj n A
 have hk:A.length / 8<n:=by omega
 have base:∀ j,j<n→(Eu n (A++[b])).getD j 0=if j=A.length / 8∧b=true then (Eu n A).getD j 0+2 ^ (A.length % 8) else (Eu n A).getD j 0:=by
  intro j hj
  rw [List.getD_eq_getElem?_getD,List.getD_eq_getElem?_getD,Mu n _ j hj,Mu n _ j hj]
  show numOf _=if _ then numOf _+_ else numOf _
  rcases Nat.lt_trichotomy j (A.length / 8) with hlt | heq | hgt
  ·rw [if_neg (by omega),List.drop_append_of_le_length (by omega),List.take_append_of_le_length (by rw [List.length_drop];omega)]
  ·rw [List.drop_append_of_le_length (by omega)]
   have hdl:(A.drop (8*j)).length=A.length % 8:=by rw [List.length_drop];omega
   rw [List.take_of_length_le (by rw [List.length_append,hdl,List.length_singleton];omega),List.take_of_length_le (l:=A.drop (8*j)) (by omega),Oa,hdl]
   by_cases hb:b=true
   ·rw [if_pos (⟨heq,hb⟩:j=A.length / 8∧b=true)]
    simp [hb]
   ·rw [if_neg (fun h:j=A.length / 8∧b=true=>hb h.2)]
    simp [hb]
  ·rw [if_neg (by omega),List.drop_eq_nil_of_le (by rw [List.length_append,List.length_singleton];omega),List.drop_eq_nil_of_le (by omega)]
 apply List.ext_getElem
 ·split
  ·rw [Gj,List.length_set,Gj]
  ·rw [Gj,Gj]
 ·intro j h1 h2
  have hj:j<n:=by rwa [Gj] at h1
  have hb:=base j hj
  rw [List.getD_eq_getElem?_getD,List.getElem?_eq_getElem h1] at hb
  have hb:(Eu n (A++[b]))[j]=_:=hb
  rw [hb]
  have hg:(Eu n A).getD j 0=(Eu n A)[j]'(by rw [hlen];exact hj):=by rw [List.getD_eq_getElem?_getD,List.getElem?_eq_getElem (by rw [hlen];exact hj)];rfl
  by_cases hbt:b=true
  ·subst hbt
   simp only [if_pos]
   rw [List.getElem_set]
   by_cases hj2:A.length / 8=j
   ·rw [if_pos (⟨hj2.symm,trivial⟩:j=A.length / 8∧True),if_pos hj2,hj2]
   ·rw [if_neg (fun h:j=A.length / 8∧True=>hj2 h.1.symm),if_neg hj2,hg]
  ·simp only [if_neg hbt]
   rw [if_neg (fun h=>hbt h.2),hg]
theorem Zfc1 {a:Int} {k:Nat} (hk:k<8) (h0:0≤a) (h1:a<2 ^ k):orI .u8 a (Fc .u8 1 (k:Int))=a+2 ^ k:=by
 have:∀ k:Fin 8,∀ a:Fin 256,(a.val:Int)<2 ^ k.val→orI .u8 (a.val:Int) (Fc .u8 1 (k.val:Int))=(a.val:Int)+2 ^ k.val:=by decide +kernel
 have h2:(2:Int) ^ k≤2 ^ 8:=by
  have:=Nat.pow_le_pow_right (show 0<2 by omega) (show k≤8 by omega)
  exact_mod_cast this
 rw [show (2:Int) ^ 8=256 from rfl] at h2
 have:=this ⟨k,hk⟩ ⟨a.toNat,by omega⟩
 simp only [show ((a.toNat:Nat):Int)=a by omega] at this
 exact this h1
theorem Zm4 (a:Nat) (h:a<1000000000000):GL .i64 (a:Int) 8=((a / 8:Nat):Int):=by
 unfold GL
 rw [show Int.tdiv (a:Int) 8=((a / 8:Nat):Int) from rfl]
 exact Ez (by omega)
theorem Zog1 (a:Nat):NC (a:Int) 8=((a % 8:Nat):Int):=rfl
theorem Zox {l:List Int} {i k:Nat} (hi:i<l.length):wb l[i] (k+1)=wb l[i] k++[bit l[i] k]:=by
 unfold wb
 rw [List.range_succ,List.map_append]
 rfl
theorem qu (l:List Int) {w:Nat} (hw:w≤64) (hl:l.length≤65536) {i:Nat} (hi:i<l.length) {o0:List Int→Int→Int→List Int→Option (ByteArray×Int)}:∀ (d k n:Nat),d=w-k→k≤w→d<n→
  Bt.l1 o0 n l (w:Int) (i:Int) (k:Int) (Eu ((l.length*w+7) / 8) (FR (l.take i) w++wb l[i] k))=o0 l (w:Int) ((i:Int)+1) (Eu ((l.length*w+7) / 8) (FR (l.take (i+1)) w)):=by
 intro d
 induction d with
 | zero=>
  intro k n hd hk hn
  have:k=w:=by omega
  subst this
  obtain ⟨n,rfl⟩:∃ j,n=j+1:=⟨n-1,by omega⟩
  show Bt.S1 _ _ _ _ _ _ _=_
  unfold Bt.S1
  rw [AJ (by omega),cond_false,AE (by omega),take_one hi,Pk]
 | succ d ih=>
  intro k n hd hk hn
  obtain ⟨n,rfl⟩:∃ j,n=j+1:=⟨n-1,by omega⟩
  have hkw:k<w:=by omega
  have hal:(FR (l.take i) w++wb l[i] k).length=i*w+k:=by rw [List.length_append,KY,Hl,List.length_take];congr 2;omega
  have h1:i*w+w≤l.length*w:=by
   have:=Nat.mul_le_mul_right w (show i+1≤l.length by omega)
   rw [Nat.succ_mul] at this
   exact this
  have h2:l.length*w≤65536*64:=Nat.mul_le_mul hl hw
  have hfit:i*w+k<8*((l.length*w+7) / 8):=by omega
  have hmore:=ud ((l.length*w+7) / 8) (FR (l.take i) w++wb l[i] k) (bit l[i] k) (by omega)
  rw [List.append_assoc,← Zox hi,hal] at hmore
  have hlen:=Gj ((l.length*w+7) / 8) (FR (l.take i) w++wb l[i] k)
  have hat:An .i64 (Df .i64 (i:Int) (w:Int)) (k:Int)=((i*w+k:Nat):Int):=by
   have e1:Df .i64 (i:Int) (w:Int)=((i*w:Nat):Int):=by
    rw [show Df .i64 (i:Int) (w:Int)=IntKind.wrap .i64 ((i:Int)*(w:Int)) from rfl,← Int.natCast_mul]
    exact Ez (by omega)
   rw [e1,AE (by omega)];omega
  show Bt.S1 o0 (Bt.l1 o0 n) _ _ _ _ _=_
  unfold Bt.S1
  rw [Bj (by omega),cond_true,Aq,AA (by omega),cond_true,DL (by omega),cond_true,AQ hi,Zju _ _ (by omega),hat,Zm4 _ (by omega),Zog1,Aq,hlen,AA (by omega),DL (by omega),AE (by omega)]
  have hih:=ih (k+1) n (by omega) (by omega) (by omega)
  rw [hmore] at hih
  by_cases hb:bit l[i] k=true
  ·rw [if_pos hb] at hih
   rw [hb]
   simp only [cond_true]
   have hg0:(Eu ((l.length*w+7) / 8) (FR (l.take i) w++wb l[i] k)).getD ((i*w+k) / 8) 0=numOf (((FR (l.take i) w++wb l[i] k).drop (8*((i*w+k) / 8))).take 8):=by
    rw [List.getD_eq_getElem?_getD,Mu _ _ _ (by omega)]
    rfl
   have hnb:=EP (((FR (l.take i) w++wb l[i] k).drop (8*((i*w+k) / 8))).take 8)
   have hnl:(((FR (l.take i) w++wb l[i] k).drop (8*((i*w+k) / 8))).take 8).length=(i*w+k) % 8:=by rw [List.length_take,List.length_drop,hal];omega
   rw [hnl] at hnb
   rw [show Int.toNat (((i*w+k) / 8:Nat):Int)=(i*w+k) / 8 from rfl,Zfc1 (by omega) (by rw [hg0];exact hnb.1) (by rw [hg0];exact hnb.2)]
   exact hih
  ·rw [if_neg hb] at hih
   rw [Bool.not_eq_true] at hb
   rw [hb,cond_false]
   exact hih
theorem qw (l:List Int) {w:Nat} (hw:w≤64) (hl:l.length≤65536):∀ (d i n:Nat),d=l.length-i→i≤l.length→70<n→
  Bt.l0 (n+d) l (w:Int) (i:Int) (Eu ((l.length*w+7) / 8) (FR (l.take i) w))=some (ofBytes (CQ l w),0):=by
 intro d
 induction d with
 | zero=>
  intro i n hd hi hn
  have:i=l.length:=by omega
  subst this
  obtain ⟨n,rfl⟩:∃ k,n=k+1:=⟨n-1,by omega⟩
  show Bt.S0 _ _ _ _ _=_
  unfold Bt.S0
  rw [Aq,AJ (by omega),cond_false,List.take_length]
  rfl
 | succ d ih=>
  intro i n hd hi hn
  have hlt:i<l.length:=by omega
  show Bt.S0 (Bt.l1 (Bt.l0 (n+d)) (n+d)) _ _ _ _=_
  unfold Bt.S0
  rw [Aq,Bj (by omega),cond_true]
  have:=qu l hw hl hlt (o0:=Bt.l0 (n+d)) w 0 (n+d) (by omega) (by omega) (by omega)
  rw [kO,List.append_nil] at this
  rw [show (0:Int)=((0:Nat):Int) from rfl,this]
  exact ih (i+1) n (by omega) (by omega) (by omega)
theorem YM (n w:Nat) (hn:n≤65536) (hw:w≤64):GW (n:Int) (w:Int)=(((n*w+7) / 8:Nat):Int):=by
 unfold GW
 by_cases h0:n=0
 ·subst h0
  rw [Bj (by omega),cond_true,Nat.zero_mul]
  rfl
 ·rw [AJ (by omega),cond_false,AJ (by omega),cond_false]
  by_cases h1:w=0
  ·subst h1
   rw [Bj (by omega),cond_true,Nat.mul_zero]
   rfl
  ·have h2:n*w≤65536*64:=Nat.mul_le_mul hn hw
   have e1:Df .i64 (n:Int) (w:Int)=((n*w:Nat):Int):=by
    rw [show Df .i64 (n:Int) (w:Int)=IntKind.wrap .i64 ((n:Int)*(w:Int)) from rfl,← Int.natCast_mul]
    exact Ez (by omega)
   rw [AJ (by omega),cond_false,AJ (by omega),cond_false,e1,AE (by omega),show ((n*w:Nat):Int)+7=((n*w+7:Nat):Int) by omega,Zm4 _ (by omega)]
theorem LV (l:List Int) {w:Nat} (hw:w≤64) (hl:l.length≤65536) (hvw:Ee l≤w):Bt l (w:Int)=some (ofBytes (CQ l w),0):=by
 have h2:l.length*w≤65536*64:=Nat.mul_le_mul hl hw
 show Bt.S (Bt.l0 fu) l (w:Int)=_
 unfold Bt.S
 rw [AJ (by omega),cond_false,AJ (by omega),cond_false,Aq,AJ (by omega),cond_false,Kb l hl,Option.bind_some,AJ (by omega),cond_false,YM _ _ hl hw]
 dsimp only
 rw [DL (by omega),Bg (by show (l.length*w+7) / 8*1≤_;omega)]
 have:=qw l hw hl l.length 0 (fu-l.length) (by omega) (by omega) (by unfold fu;omega)
 rw [show fu-l.length+l.length=fu by unfold fu;omega,List.take_zero,show FR [] w=[] from rfl,WC _ _ rfl] at this
 exact this
theorem Pn (p:List Int) (hl:p.length≤65536):JB p=some (ofBytes (CQ p (Ee p))):=by
 unfold JB
 rw [Kb p hl,Option.bind_some,LV p (Fu p hl).2.1 hl (Nat.le_refl _)]
 rfl
theorem qx (l:List Cell) (c:Cell):DS (l++[c])=DS l++[if isN c then 1 else 0]:=by unfold DS;rw [List.map_append];rfl
theorem eC (l:List Cell) (hl:l.length≤65536):∀ (d i n:Nat),d=l.length-i→i≤l.length→d<n→
  Bv.l0 (Bv.t1 fu) n l (BD (l.take i)) (DS (l.take i)) (i:Int)=Bv.S1 l (BD l) (DS l):=by
 intro d
 induction d with
 | zero=>
  intro i n hd hi hn
  have:i=l.length:=by omega
  subst this
  obtain ⟨n,rfl⟩:∃ k,n=k+1:=⟨n-1,by omega⟩
  show Bv.S0 Bv.S1 _ _ _ _ _=_
  unfold Bv.S0
  rw [Aq,AJ (by omega),cond_false,List.take_length]
 | succ d ih=>
  intro i n hd hi hn
  obtain ⟨n,rfl⟩:∃ k,n=k+1:=⟨n-1,by omega⟩
  have hlt:i<l.length:=by omega
  have h1:=Gk (l.take i)
  rw [List.length_take] at h1
  have hih:=ih (i+1) n (by omega) (by omega) (by omega)
  rw [take_one hlt,QS,qx] at hih
  show Bv.S0 (Bv.t1 fu) (Bv.l0 (Bv.t1 fu) n) _ _ _ _=_
  unfold Bv.S0
  rw [Aq,Bj (by omega),cond_true,AA (by omega),cond_true,AQ hlt,Bg (by rw [Ea,List.length_take];omega),cond_true,cond_true,cond_true,Bg (by omega),cond_true,AE (by omega)]
  by_cases hz:isN l[i]=true
  ·have hz0:l[i].1=0:=of_decide_eq_true (show decide (l[i].1=0)=true from hz)
   rw [if_pos hz,if_pos hz,List.append_nil] at hih
   rw [CT hz0,cond_true]
   exact hih
  ·have hz0:¬ l[i].1=0:=fun h=>hz (decide_eq_true h)
   rw [if_neg hz,if_neg hz] at hih
   rw [CE hz0,cond_false]
   exact hih
theorem qy (l:List Cell) (hl:l.length≤65536):Ee (DS l)≤1:=by
 obtain ⟨_,_,h1,h2⟩:=Fu (DS l) (by rw [Ea];exact hl)
 rcases h2 with h2 | ⟨x,hx,h2⟩
 ·omega
 ·have hx:=Ni x hx
  by_cases h:Ee (DS l)≤1
  ·exact h
  ·have:(2:Int) ^ 1≤2 ^ (Ee (DS l)-1):=by
    have:=Nat.pow_le_pow_right (show 0<2 by omega) (show 1≤Ee (DS l)-1 by omega)
    exact_mod_cast this
   rw [show (2:Int) ^ 1=2 from rfl] at this
   omega
theorem Qm (l:List Cell) (hl:l.length≤65536):Bv l=some (ofBytes (DX l),BD l):=by
 have h:=eC l hl l.length 0 fu (by omega) (by omega) (by unfold fu;omega)
 rw [List.take_zero] at h
 refine Eq.trans (show Bv l=_ from h) ?_
 have hle:=Gk l
 unfold Bv.S1 DX
 rw [Aq,Aq]
 by_cases hf:(BD l).length=l.length
 ·rw [CT (by omega),cond_true,(az hf).2]
  rfl
 ·have hany:l.any isN=true:=by
   cases ha:l.any isN with
   | true=>rfl
   | false=>
    exfalso
    apply hf
    unfold BD
    rw [List.filter_eq_self.2 fun c hc=>by
     have:=List.any_eq_false.1 ha c hc
     simpa using this]
  rw [CE (by omega),cond_false,hany,if_pos rfl,show (1:Int)=((1:Nat):Int) from rfl,LV (DS l) (by omega) (by rw [Ea];exact hl) (qy l hl)]
  rfl
theorem ke (l:List Cell) (hl:l.length≤65536):∀ (d i n:Nat),d=l.length-i→i≤l.length→d<n→
  De.l0 n l (LX (l.take i)) (i:Int)=some (LX l):=by
 intro d
 induction d with
 | zero=>
  intro i n hd hi hn
  have:i=l.length:=by omega
  subst this
  obtain ⟨n,rfl⟩:∃ k,n=k+1:=⟨n-1,by omega⟩
  show De.S0 _ _ _ _=_
  unfold De.S0
  rw [Aq,AJ (by omega),cond_false,List.take_length]
 | succ d ih=>
  intro i n hd hi hn
  obtain ⟨n,rfl⟩:∃ k,n=k+1:=⟨n-1,by omega⟩
  have hlt:i<l.length:=by omega
  have hih:=ih (i+1) n (by omega) (by omega) (by omega)
  rw [take_one hlt,show LX (l.take i++[l[i]])=LX (l.take i)++[l[i].2.1] from List.map_append] at hih
  show De.S0 (De.l0 n) _ _ _=_
  unfold De.S0
  rw [Aq,Bj (by omega),cond_true,AA (by omega),cond_true,AQ hlt,Bg (by rw [List.length_map,List.length_take];omega),cond_true,AE (by omega)]
  exact hih
theorem cg (l:List Cell) (hl:l.length≤65536):De l=some (LX l):=ke l hl l.length 0 fu (by omega) (by omega) (by unfold fu;omega)
theorem eD (l:List Cell) (hl:l.length≤65536):∀ (d i n:Nat),d=l.length-i→i≤l.length→d<n→
  CJ.l0 n l (LY (l.take i)) (i:Int)=some (LY l):=by
 intro d
 induction d with
 | zero=>
  intro i n hd hi hn
  have:i=l.length:=by omega
  subst this
  obtain ⟨n,rfl⟩:∃ k,n=k+1:=⟨n-1,by omega⟩
  show CJ.S0 _ _ _ _=_
  unfold CJ.S0
  rw [Aq,AJ (by omega),cond_false,List.take_length]
 | succ d ih=>
  intro i n hd hi hn
  obtain ⟨n,rfl⟩:∃ k,n=k+1:=⟨n-1,by omega⟩
  have hlt:i<l.length:=by omega
  have hih:=ih (i+1) n (by omega) (by omega) (by omega)
  rw [take_one hlt,show LY (l.take i++[l[i]])=LY (l.take i)++[l[i].2.2] from List.map_append] at hih
  show CJ.S0 (CJ.l0 n) _ _ _=_
  unfold CJ.S0
  rw [Aq,Bj (by omega),cond_true,AA (by omega),cond_true,AQ hlt,Bg (by rw [List.length_map,List.length_take];omega),cond_true,AE (by omega)]
  exact hih
theorem YN (l:List Cell) (hl:l.length≤65536):CJ l=some (LY l):=eD l hl l.length 0 fu (by omega) (by omega) (by unfold fu;omega)
end Go.AM.Pure
end
