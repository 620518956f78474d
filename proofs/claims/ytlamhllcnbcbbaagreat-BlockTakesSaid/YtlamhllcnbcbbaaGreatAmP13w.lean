import Derived.Test.YtlamhllcnbcbbaaGreatAmP13q
section
/- The program's Takes come to something, whatever the bytes are: numbers. -/
namespace Go.AM.Pure
open Go.AM
def LI (r:List Int×Int):Prop:=r.1.length≤65536∧∀ x∈r.1,in64 x
theorem LI.nil (e:Int):LI ([],e):=⟨Nat.zero_le _,fun x hx=>by cases hx⟩
theorem Zug (s:ByteArray):Ret (Zad s) (VT s):=by
 rw [Zng]
 exact Zuq s
theorem Zii {s:ByteArray} {x:Int} (h0:0≤x) (h1:x≤s.size):(cutS s x (s.size:Int)).size=s.size-x.toNat:=by
 obtain ⟨k,rfl⟩:∃ k:Nat,x=k:=⟨x.toNat,by omega⟩
 exact Zyk s k s.size (Nat.le_refl _)
def PT (s:ByteArray) (n w:Int) (r:List Int×Int):Prop:=(r.2=0∧0≤w∧w≤64∧r.1=(List.range n.toNat).map fun k=>wordS s k w.toNat)∨(r.2≠0∧r.1=[])
theorem PT.li {s:ByteArray} {n w:Int} {r:List Int×Int} (h:PT s n w r) (hn:n≤65536):LI r:=by
 obtain ⟨l,e⟩:=r
 rcases h with ⟨_,_,_,h⟩ | ⟨_,h⟩
 ·have h:l=_:=h
  subst h
  refine ⟨by rw [List.length_map,List.length_range];omega,fun x hx=>?_⟩
  obtain ⟨k,_,rfl⟩:=List.mem_map.1 hx
  exact Zef _
 ·have h:l=[]:=h
  subst h
  exact LI.nil e
theorem PT.len {s:ByteArray} {n w:Int} {r:List Int×Int} (h:PT s n w r) (h0:r.2=0):r.1.length=n.toNat:=by
 rcases h with ⟨_,_,_,h⟩ | ⟨h,_⟩
 ·rw [h,List.length_map,List.length_range]
 ·exact absurd h0 h
theorem Ztj (s:ByteArray) {n:Int} (w:Int) (h0:0≤n) (hn:n≤65536):Ret (Zab s n w) (PT s n w):=by
 by_cases hw:0≤w∧w≤64
 ·obtain ⟨k,rfl⟩:∃ k:Nat,n=k:=⟨n.toNat,by omega⟩
  obtain ⟨v,rfl⟩:∃ v:Nat,w=v:=⟨w.toNat,by omega⟩
  refine Zts (Zor s (by omega) (by omega)) ?_
  split
  ·split
   ·exact .inl ⟨rfl,by omega,by omega,rfl⟩
   ·exact .inr ⟨by decide,rfl⟩
  ·exact .inr ⟨by decide,rfl⟩
 ·show Ret (Zab.S (Zab.t0 fu) s n w) _
  unfold Zab.S
  refine Zia (fun _=>Zg (.inr ⟨by decide,rfl⟩)) fun _=>Zia (fun _=>Zg (.inr ⟨by decide,rfl⟩)) fun _=>?_
  omega
theorem Za01 (s:ByteArray) (n:Int) (hs:s.size≤65536):Ret (Zfa s n) LI:=by
 by_cases hn:0≤n∧(s.size:Int)=8*n
 ·obtain ⟨k,rfl⟩:∃ k:Nat,n=k:=⟨n.toNat,by omega⟩
  refine Zts (Zem s (n:=k) (by omega) (by omega)) ⟨by rw [List.length_map,List.length_range];omega,fun x hx=>?_⟩
  obtain ⟨j,_,rfl⟩:=List.mem_map.1 hx
  exact Zef _
 ·show Ret (Zfa.S (Zfa.l0 fu) s n) _
  unfold Zfa.S
  rw [Zma,rem8,quo8 _ (by omega)]
  refine Zia (fun _=>Zg (LI.nil _)) fun _=>Zqc (fun _=>Zg (LI.nil _)) fun _=>Zqc (fun _=>Zg (LI.nil _)) fun _=>?_
  omega
def Qr (o:List Run):Prop:=(flatR o).length≤65536∧∀ i (h:i<o.length),o[i].2.1=((flatR (o.take i)).length:Int)∧1≤o[i].2.2
theorem Qr.nil:Qr []:=⟨Nat.zero_le _,fun i h=>by simp at h⟩
theorem Za8 (o:List Run) (i:Nat):(flatR (o.take i)).length≤(flatR o).length:=by
 have:flatR o=flatR (o.take i)++flatR (o.drop i):=by rw [← Zve,List.take_append_drop]
 rw [this,List.length_append]
 omega
theorem Zt6 {o:List Run} {i:Nat} (h:i<o.length):(flatR (o.take (i+1))).length=(flatR (o.take i)).length+o[i].2.2.toNat:=by
 rw [take_one h,Zve,Zdf,List.length_append,List.length_replicate]
theorem Qr.snoc {o:List Run} (h:Qr o) {r:Run} (h1:r.2.1=((flatR o).length:Int)) (h2:1≤r.2.2) (h3:(flatR o).length+r.2.2.toNat≤65536):Qr (o++[r]):=by
 refine ⟨by rw [Zve,Zdf,List.length_append,List.length_replicate];exact h3,fun i hi=>?_⟩
 rw [List.length_append,List.length_singleton] at hi
 rcases Nat.lt_or_ge i o.length with hlt | hge
 ·rw [List.getElem_append_left hlt,List.take_append_of_le_length (by omega)]
  exact h.2 i hlt
 ·have:i=o.length:=by omega
  subst this
  rw [List.getElem_append_right (Nat.le_refl _),List.take_append_of_le_length (Nat.le_refl _),List.take_length]
  simpa using ⟨h1,h2⟩
theorem Qr.len {o:List Run} (h:Qr o):∀ i,i≤o.length→i≤(flatR (o.take i)).length
 | 0,_=>Nat.zero_le _
 | i+1,hi=>by
  have h1:=Qr.len h i (by omega)
  have h2:=(h.2 i (by omega)).2
  rw [Zt6 (by omega)]
  omega
theorem Qr.len' {o:List Run} (h:Qr o):o.length≤65536:=by
 have:=h.len o.length (Nat.le_refl _)
 rw [List.take_length] at this
 have:=h.1
 omega
theorem Zb8 {o:List Run} {i:Nat} (h0:0<i) (h:i≤o.length):lastR none (o.take i)=some (o[i-1]'(by omega)).1:=by
 have h1:i-1<o.length:=by omega
 have:=take_one h1
 rw [show i-1+1=i by omega] at this
 rw [this,Zzh]
theorem Zxg1 {o:List Run} {i:Nat} (hi:i<o.length) (h:Qr o) (k:okR 0 none (o.take i)) (hne:0<i→o[i].1≠(o[i-1]'(by omega)).1):okR 0 none (o.take (i+1)):=by
 rw [take_one hi,Zpl]
 refine ⟨k,by rw [(h.2 i hi).1];omega,(h.2 i hi).2,fun he=>?_,trivial⟩
 rcases Nat.eq_zero_or_pos i with h0 | h0
 ·subst h0
  cases he
 ·rw [Zb8 h0 (by omega)] at he
  exact hne h0 (Option.some.inj he).symm
theorem Zly (o:List Run) (h:Qr o):Ret (Zkc o) fun r=>r.2=true→okR 0 none o∧r.1=((flatR o).length:Int):=by
 have hol:=h.len'
 have hl:=h.1
 have main:∀ (d i n:Nat),d=o.length-i→i≤o.length→d<n→okR 0 none (o.take i)→Ret (Zkc.l0 n o ((flatR (o.take i)).length:Int) o (o.length:Int) (i:Int)) fun r=>r.2=true→okR 0 none o∧r.1=((flatR o).length:Int):=by
  intro d
  induction d with
  | zero=>
   intro i n hd hi hn hk
   obtain ⟨n,rfl⟩:∃ k,n=k+1:=⟨n-1,by omega⟩
   show Ret (Zkc.S0 _ _ _ _ _ _) _
   unfold Zkc.S0
   have:i=o.length:=by omega
   subst this
   rw [List.take_length] at hk ⊢
   exact Zia (fun _=>by omega) fun _=>Zg fun _=>⟨hk,rfl⟩
  | succ d ih=>
   intro i n hd hi hn hk
   obtain ⟨n,rfl⟩:∃ k,n=k+1:=⟨n-1,by omega⟩
   have hlt:i<o.length:=by omega
   obtain ⟨k1,k2⟩:=h.2 i hlt
   have k3:=Zt6 hlt
   have k4:=Za8 o (i+1)
   show Ret (Zkc.S0 (Zkc.l0 n) _ _ _ _ _) _
   unfold Zkc.S0
   rw [Zf,Zy hlt,Zqb (by omega),Zn (a:=((flatR (o.take i)).length:Int)) (by omega),Zn (a:=(i:Int)) (by omega),Zqb (by omega)]
   have go:(0<i→o[i].1≠(o[i-1]'(by omega)).1)→Ret (Zkc.l0 n o (((flatR (o.take i)).length:Int)+o[i].2.2) o (o.length:Int) ((i:Int)+1)) fun r=>r.2=true→okR 0 none o∧r.1=((flatR o).length:Int):=fun hne=>by
    have:=ih (i+1) n (by omega) (by omega) (by omega) (Zxg1 hlt h hk hne)
    rw [k3] at this
    rw [show ((flatR (o.take i)).length:Int)+o[i].2.2=(((flatR (o.take i)).length+o[i].2.2.toNat:Nat):Int) by omega]
    exact this
   refine Zia (fun _=>Zya (by omega) (Zqc (fun e=>absurd k1 e) fun _=>Zia (fun _=>by omega) fun _=>Zia (fun _=>by omega) fun _=>Zia (fun h0=>?_) fun h0=>go fun h1=>by omega)) fun _=>by omega
   have hlt1:i-1<o.length:=by omega
   rw [show (i:Int)-1=((i-1:Nat):Int) by omega,Zy hlt1]
   exact Zya (by omega) (Znd (fun _=>Zg fun h=>by cases h) fun hne=>go fun _=>hne)
 exact main o.length 0 fu (by omega) (by omega) (by unfold fu;omega) trivial
def RT (n:Int) (r:List Run×Int):Prop:=(∀ x∈r.1,in64 x.1)∧(r.2=0→okR 0 none r.1∧((flatR r.1).length:Int)=n)
theorem Zms (s:ByteArray) {n:Int} (h0:0≤n) (hn:n≤65536) (hs:s.size≤65536):Ret (Zja s n) (RT n):=by
 have e20:RT n ([],20):=⟨(fun x hx=>by cases hx),fun h=>by cases h⟩
 have main:∀ (m k:Nat) (s:ByteArray) (o:List Run),s.size≤m→m≤65536→m<k→Qr o→((flatR o).length:Int)≤n→(∀ x∈o,in64 x.1)→Ret (Zja.l0 (Zja.t1 fu) k s n o ((flatR o).length:Int)) (RT n):=by
  intro m
  induction m with
  | zero=>
   intro k s o hs hm hk hq hfn h64
   obtain ⟨k,rfl⟩:∃ j,k=j+1:=⟨k-1,by omega⟩
   show Ret (Zja.S0 Zja.S1 _ _ _ _ _) _
   unfold Zja.S0
   have he:s=eB:=size0.2 (by omega)
   refine Zue (Zrf (fun _=>?_) fun h=>absurd he h)
   unfold Zja.S1
   refine Zta _ (Zly o hq) fun r hr=>Zue (Zcf (fun hb=>Zqc (fun _=>Zg e20) fun hen=>Zg ⟨h64,fun _=>⟨(hr hb).1,hen⟩⟩) fun _=>Zg e20)
  | succ m ih=>
   intro k s o hs hm hk hq hfn h64
   obtain ⟨k,rfl⟩:∃ j,k=j+1:=⟨k-1,by omega⟩
   show Ret (Zja.S0 Zja.S1 (Zja.l0 (Zja.t1 fu) k) _ _ _ _) _
   unfold Zja.S0
   have hol:=hq.len'
   have hq1:=hq.1
   refine Zue (Zrf (fun _=>?_) fun hne=>?_)
   ·unfold Zja.S1
    refine Zta _ (Zly o hq) fun r hr=>Zue (Zcf (fun hb=>Zqc (fun _=>Zg e20) fun hen=>Zg ⟨h64,fun _=>⟨(hr hb).1,hen⟩⟩) fun _=>Zg e20)
   ·rw [Zma]
    refine Zta _ (Zug s) fun r hr=>Zqc (fun _=>Zg e20) fun hr0=>?_
    obtain ⟨_,r1,r2,r3⟩:=hr.resolve_right fun h=>h.1 hr0
    refine Zpd (by omega) (Zta _ (Zug _) fun q hqq=>Zqc (fun _=>Zg e20) fun hq0=>?_)
    obtain ⟨_,q1,q2,q3⟩:=hqq.resolve_right fun h=>h.1 hq0
    rw [Zii (by omega) r2] at q2
    refine Zia (fun _=>Zg e20) fun c1=>?_
    rw [Zqb (by omega)]
    refine Zia (fun _=>Zg e20) fun c2=>Zae (by omega) ?_
    rw [Zn (by omega),Zn (by omega)]
    refine Zpd (by omega) ?_
    have hcs:=Zii (s:=s) (x:=r.2.1+q.2.1) (by omega) (by omega)
    have:=ih k (cutS s (r.2.1+q.2.1) (s.size:Int)) (o++[(r.1,((flatR o).length:Int),q.1)]) (by omega) (by omega) (by omega) (hq.snoc rfl c1 (by show (flatR o).length+q.1.toNat≤_;omega)) (by rw [Zve,Zdf,List.length_append,List.length_replicate];show (((flatR o).length+q.1.toNat:Nat):Int)≤n;omega) (fun x hx=>by
     rcases List.mem_append.1 hx with hx | hx
     ·exact h64 x hx
     ·rw [List.mem_singleton.1 hx];exact r3)
    rw [Zve,Zdf,List.length_append,List.length_replicate] at this
    rw [show ((flatR o).length:Int)+q.1=(((flatR o).length+q.1.toNat:Nat):Int) by omega]
    exact this
 show Ret (Zja.S (Zja.l0 (Zja.t1 fu) fu) s n) _
 unfold Zja.S
 refine Zia (fun _=>by omega) fun _=>Zia (fun _=>by omega) fun _=>?_
 exact main s.size fu s [] (Nat.le_refl _) hs (by unfold fu;omega) Qr.nil (by show (0:Int)≤n;exact h0) (fun x hx=>by cases hx)
theorem Zuu1 {o:List Run} (h:∀ x∈o,in64 x.1):∀ y∈flatR o,in64 y:=fun y hy=>by
 unfold flatR at hy
 obtain ⟨r,hr,hy⟩:=List.mem_flatMap.1 hy
 rw [(List.mem_replicate.1 hy).2]
 exact h r hr
end Go.AM.Pure
end

section
/- The program's Takes come to something, whatever the bytes are: frames, dictionaries, texts. -/
namespace Go.AM.Pure
open Go.AM
theorem Zjp:in64 0:=⟨by omega,by omega⟩
theorem VT.all {s:ByteArray} {r:Int×Int×Int} (h:VT s r):in64 r.1∧0≤r.2.1∧r.2.1≤(s.size:Int):=by
 rcases h with ⟨_,h1,h2,h3⟩ | ⟨_,h1,h2⟩
 ·exact ⟨h3,by omega,h2⟩
 ·rw [h1,h2]
  exact ⟨Zjp,Int.le_refl _,by omega⟩
theorem Zz7 (s:ByteArray) (b:Bool):Ret (Zed s b) fun r=>in64 r.1∧r.2.1.size≤s.size:=by
 unfold Zed
 refine Zta _ (Zug s) fun r hr=>?_
 obtain ⟨h1,h2,h3⟩:=hr.all
 have hc:=Zii h2 h3
 rw [Zma]
 exact Zcf (fun _=>Zpd (by omega) (Zg ⟨h1,by show (cutS s r.2.1 (s.size:Int)).size≤_;omega⟩)) fun _=>Zpd (by omega) (Zg ⟨h1,by show (cutS s r.2.1 (s.size:Int)).size≤_;omega⟩)
theorem Zky (l:List Int) (hl:l.length≤65536):Ret (Zpn l) fun _=>True:=by
 obtain ⟨v,h1,h2,_⟩:=Zsh (Zuc l) (by rw [Zxh];omega)
 exact Zts (Zyn l hl h1 h2) trivial
theorem Zpw (s:ByteArray) (l:List Int) (b:Bool) (h:LI (l,0)):Ret (Zo.S2 s l b) LI:=by
 unfold Zo.S2
 refine Zta _ (Zky l h.1) fun r _=>Zcf (fun _=>Zg (LI.nil _)) fun _=>Zqc (fun _=>Zg (LI.nil _)) fun _=>Zue (Zrf (fun _=>Zg h) fun _=>Zg (LI.nil _))
theorem Ztu1 (s:ByteArray) (m:Int) (w:List Int) (hw:w.length≤65536) (b:Bool) (k:Nat):∀ (d i n:Nat) (o:List Int),d=w.length-i→i≤w.length→d<n→0<o.length→o.length+(w.length-i)≤65536→(∀ x∈o,in64 x)→
  Ret (Zo.l1 (Zo.t2 (k+1)) n s o m w (w.length:Int) (i:Int) b) LI:=by
 intro d
 induction d with
 | zero=>
  intro i n o hd hi hn h0 hl h64
  obtain ⟨n,rfl⟩:∃ k,n=k+1:=⟨n-1,by omega⟩
  show Ret (Zo.S1 _ _ _ _ _ _ _ _ _) _
  unfold Zo.S1
  exact Zia (fun _=>by omega) fun _=>Zpw s o b ⟨by show o.length≤_;omega,h64⟩
 | succ d ih=>
  intro i n o hd hi hn h0 hl h64
  obtain ⟨n,rfl⟩:∃ k,n=k+1:=⟨n-1,by omega⟩
  show Ret (Zo.S1 _ (Zo.l1 (Zo.t2 (k+1)) n) _ _ _ _ _ _ _) _
  unfold Zo.S1
  rw [Zf,Zf,Zqb (by omega),Zn (by omega)]
  refine Zia (fun _=>Zya (by omega) (Zya (by omega) (Zae (by omega) (ih (i+1) n _ (by omega) (by omega) (by omega) (by simp) (by rw [List.length_append,List.length_singleton];omega) fun x hx=>?_)))) fun _=>by omega
  rcases List.mem_append.1 hx with hx | hx
  ·exact h64 x hx
  ·rw [List.mem_singleton.1 hx]
   exact Zef _
theorem Zwz1 (s:ByteArray) {n:Int} (hn:n≤65536):Ret (Zo s n) LI:=by
 show Ret (Zo.S (Zo.t0 (18446744073709551613+1+1+1)) s n) _
 unfold Zo.S
 refine Zia (fun _=>Zg (LI.nil _)) fun _=>Zia (fun _=>Zg (LI.nil _)) fun _=>Zia (fun h0=>Zta _ (Zz7 s false) fun r hr=>?_) fun h0=>?_
 ·show Ret (Zo.S0 (Zo.l1 (Zo.t2 (18446744073709551613+1+1)) (18446744073709551613+1+1)) (Zo.t2 (18446744073709551613+1+1)) s n [r.1] r.2.1 r.2.2) _
  unfold Zo.S0
  have h1:∀ x∈[r.1],in64 x:=fun x hx=>by rw [List.mem_singleton.1 hx];exact hr.1
  refine Zia (fun hn1=>Zta _ (Zz7 _ _) fun q hq=>Zcf (fun _=>Zg (LI.nil _)) fun _=>Zrf (fun _=>Zg (LI.nil _)) fun hne=>?_) fun _=>Zpw s _ _ ⟨by show 1≤65536;omega,h1⟩
  have hsz:0<q.2.1.size:=by
   rcases Nat.eq_zero_or_pos q.2.1.size with h | h
   ·exact absurd (size0.2 h) hne
   ·exact h
  rw [Zma,Zqb (by omega)]
  refine Zpd (by omega) (Zya (by omega) (Zta _ (Ztj _ _ (by omega) (by omega)) fun z hz=>Zqc (fun _=>Zg (LI.nil _)) fun hz0=>?_))
  have hzl:=hz.len hz0
  rw [Zf]
  exact Ztu1 s _ z.1 (by omega) _ _ z.1.length 0 _ [r.1] (by omega) (by omega) (by omega) (by simp) (by rw [List.length_singleton];omega) h1
 ·show Ret (Zo.S0 _ (Zo.t2 (18446744073709551613+1+1)) s n [] s false) _
  unfold Zo.S0
  exact Zia (fun _=>by omega) fun _=>Zpw s _ _ (LI.nil 0)
theorem Zuj2 (s:ByteArray):Ret (Zqh s) fun r=>in64 r.1∧0≤r.2∧r.2≤(s.size:Int):=by
 unfold Zqh
 refine Zta _ (Zug s) fun r hr=>Zqc (fun _=>Zg ⟨Zjp,Int.le_refl _,by show (0:Int)≤_;omega⟩) fun _=>Zg hr.all
theorem Zzx (l:List Bool) (hl:l.length≤65536) (v:Bool):Ret (Zgd l v) fun _=>True:=by
 have main:∀ (d i n:Nat),d=l.length-i→i≤l.length→d<n→Ret (Zpa.l0 n l v (l.length:Int) (i:Int)) fun _=>True:=by
  intro d
  induction d with
  | zero=>
   intro i n hd hi hn
   obtain ⟨n,rfl⟩:∃ k,n=k+1:=⟨n-1,by omega⟩
   show Ret (Zpa.S0 _ _ _ _ _) _
   unfold Zpa.S0
   exact Zia (fun _=>by omega) fun _=>Zg trivial
  | succ d ih=>
   intro i n hd hi hn
   obtain ⟨n,rfl⟩:∃ k,n=k+1:=⟨n-1,by omega⟩
   show Ret (Zpa.S0 (Zpa.l0 n) _ _ _ _) _
   unfold Zpa.S0
   rw [Zf,Zn (by omega)]
   exact Zia (fun _=>Zya (by omega) (Zcf (fun _=>Zg trivial) fun _=>ih (i+1) n (by omega) (by omega) (by omega))) fun _=>by omega
 unfold Zgd
 exact Zta _ (main l.length 0 fu (by omega) (by omega) (by unfold fu;omega)) fun _ _=>Zg trivial
def DT {α:Type} (ok:α→Prop) (r:List α×List Int×Int):Prop:=r.2.2=0→r.1.length≤65536∧(∀ x∈r.1,ok x)∧r.2.1.length≤65536∧∀ p∈r.2.1,0≤p∧p<(r.1.length:Int)
theorem DT.no {α:Type} {ok:α→Prop} {e:Int} (h:e≠0):DT ok (([]:List α),([]:List Int),e):=fun h0=>absurd h0 h
theorem Zxz1 (k:Nat) {D:List Int} (hD:∀ x∈D,in64 x) (hk:D.length≤65536) (p:List Int) (hp:p.length≤65536):∀ (d i n:Nat) (z:List Bool),d=p.length-i→i≤p.length→d<n→z.length=D.length→(∀ j (h:j<p.length),j<i→0≤p[j]∧p[j]<(D.length:Int))→
  Ret (Zb.l2 (Zb.t3 (k+1)) n (D.length:Int) D p p (p.length:Int) (i:Int) z) (DT in64):=by
 intro d
 induction d with
 | zero=>
  intro i n z hd hi hn hz hpm
  obtain ⟨n,rfl⟩:∃ k,n=k+1:=⟨n-1,by omega⟩
  show Ret (Zb.S2 Zb.S3 _ _ _ _ _ _ _ _) _
  unfold Zb.S2
  refine Zia (fun _=>by omega) fun _=>?_
  unfold Zb.S3
  refine Zta _ (Zzx z (by omega) false) fun b _=>Zcf (fun _=>Zg (DT.no (by decide))) fun _=>Zg fun _=>⟨hk,hD,hp,fun x hx=>?_⟩
  obtain ⟨j,hj,rfl⟩:=List.getElem_of_mem hx
  have hj':j<p.length:=hj
  exact hpm j hj' (by omega)
 | succ d ih=>
  intro i n z hd hi hn hz hpm
  obtain ⟨n,rfl⟩:∃ k,n=k+1:=⟨n-1,by omega⟩
  have hlt:i<p.length:=by omega
  show Ret (Zb.S2 _ (Zb.l2 (Zb.t3 (k+1)) n) _ _ _ _ _ _ _) _
  unfold Zb.S2
  rw [Zf,Zf,Zn (by omega),Zy hlt]
  refine Zia (fun _=>Zya (by omega) (Zia (fun _=>Zg (DT.no (by decide))) fun c1=>Znj (fun _=>Zg (DT.no (by decide))) fun c2=>Zya (by omega) (ih (i+1) n _ (by omega) (by omega) (by omega) (by rw [List.length_set];exact hz) fun j hj hji=>?_))) fun _=>by omega
  rcases Nat.lt_or_ge j i with h | h
  ·exact hpm j hj h
  ·have:j=i:=by omega
   subst this
   exact ⟨c1,c2⟩
theorem Zyz1 (s:ByteArray) {n:Int} (h0:0≤n) (hn:n≤65536) (hs:s.size≤65536):Ret (Zb s n) (DT in64):=by
 have hno:∀ {e:Int},e≠0→DT in64 (([]:List Int),([]:List Int),e):=fun h=>DT.no h
 have main:∀ (f:Nat) (K:Int),1≤K→K≤n→70000<f→∀ (d i m:Nat) (at':Int) (o:List Int),(d:Int)=K-i→(i:Int)≤K→d<m→0≤at'→at'≤s.size→o.length=i→(∀ x∈o,in64 x)→
   Ret (Zb.l0 (Zb.t1 (f+1+1)) m s n K at' o K (i:Int)) (DT in64):=by
  intro f K hK1 hKn hf d
  induction d with
  | zero=>
   intro i m a o hd hi hm ha1 ha2 ho h64
   obtain ⟨m,rfl⟩:∃ k,m=k+1:=⟨m-1,by omega⟩
   show Ret (Zb.S0 (Zb.S1 (Zb.l2 (Zb.t3 (f+1)) (f+1))) _ _ _ _ _ _ _ _) _
   unfold Zb.S0
   refine Zia (fun _=>by omega) fun _=>?_
   unfold Zb.S1
   obtain ⟨v,v1,v2,_⟩:=Zsh [K-1] (by simp)
   have hKo:K=(o.length:Int):=by omega
   rw [Zma,Zqb (by omega)]
   refine Zpd (by omega) (Zsd v1 (Zta _ (Ztj _ _ h0 hn) fun z hz=>Zqc (fun _=>Zg (hno (by decide))) fun hz0=>?_))
   have hzl:=hz.len hz0
   rw [le_t (by omega),Bool.true_and,Zf]
   refine Zae (by omega) ?_
   rw [hKo]
   exact Zxz1 _ h64 (by omega) z.1 (by omega) z.1.length 0 _ _ (by omega) (by omega) (by omega) (by rw [List.length_replicate,Int.toNat_natCast]) (fun j _ h=>by omega)
  | succ d ih=>
   intro i m a o hd hi hm ha1 ha2 ho h64
   obtain ⟨m,rfl⟩:∃ k,m=k+1:=⟨m-1,by omega⟩
   show Ret (Zb.S0 _ (Zb.l0 (Zb.t1 (f+1+1)) m) _ _ _ _ _ _ _) _
   unfold Zb.S0
   have hc:=Zii ha1 ha2
   rw [Zma]
   refine Zia (fun _=>Zpd (by omega) (Zta _ (Zuj2 _) fun r hr=>Znd (fun _=>Zg (hno (by decide))) fun hr0=>?_)) fun _=>by omega
   obtain ⟨r1,r2,r3⟩:=hr
   rw [Zf,Zqb (by omega),Zn (a:=a) (by omega),Zn (a:=(i:Int)) (by omega)]
   have next:Ret (Zb.l0 (Zb.t1 (f+1+1)) m s n K (a+r.2) (o++[r.1]) K ((i:Int)+1)) (DT in64):=by
    refine ih (i+1) m (a+r.2) (o++[r.1]) (by omega) (by omega) (by omega) (by omega) (by omega) (by rw [List.length_append,ho];rfl) fun x hx=>?_
    rcases List.mem_append.1 hx with hx | hx
    ·exact h64 x hx
    ·rw [List.mem_singleton.1 hx];exact r1
   exact Zia (fun _=>Zya (by omega) (Znj (fun _=>Zg (hno (by decide))) fun _=>Zae (by omega) next)) fun _=>Zae (by omega) next
 show Ret (Zb.S (Zb.l0 (Zb.t1 (18446744073709551614+1+1)) (18446744073709551614+1+1)) s n) _
 unfold Zb.S
 refine Zia (fun _=>by omega) fun _=>Zia (fun _=>by omega) fun _=>Znd (fun _=>Zue (Zrf (fun _=>Zg fun _=>⟨Nat.zero_le _,(fun x hx=>by cases hx),Nat.zero_le _,fun x hx=>by cases hx⟩) fun _=>Zg (hno (by decide)))) fun _=>?_
 refine Zta _ (Zug s) fun r hr=>Zqc (fun _=>Zg (hno (by decide))) fun hr0=>Zia (fun _=>Zg (hno (by decide))) fun c1=>Zia (fun _=>Zg (hno (by decide))) fun c2=>?_
 obtain ⟨_,r2,r3⟩:=hr.all
 exact main 18446744073709551614 r.1 c1 c2 (by omega) r.1.toNat 0 _ r.2.1 [] (by omega) (by omega) (by omega) r2 r3 rfl (fun x hx=>by cases hx)
theorem Zzz1 {D p:List Int} (hp:p.length≤65536) (hD:∀ x∈D,in64 x) (hpm:∀ x∈p,0≤x∧x<(D.length:Int)):Ret (Zvb D p) fun r=>LI (r,0):=by
 have main:∀ (d i n:Nat) (o:List Int),d=p.length-i→i≤p.length→d<n→o.length=i→(∀ x∈o,in64 x)→Ret (Zvb.l0 n D o p (p.length:Int) (i:Int)) fun r=>LI (r,0):=by
  intro d
  induction d with
  | zero=>
   intro i n o hd hi hn ho h64
   obtain ⟨n,rfl⟩:∃ k,n=k+1:=⟨n-1,by omega⟩
   show Ret (Zvb.S0 _ _ _ _ _ _) _
   unfold Zvb.S0
   exact Zia (fun _=>by omega) fun _=>Zg ⟨by show o.length≤_;omega,h64⟩
  | succ d ih=>
   intro i n o hd hi hn ho h64
   obtain ⟨n,rfl⟩:∃ k,n=k+1:=⟨n-1,by omega⟩
   have hlt:i<p.length:=by omega
   obtain ⟨b1,b2⟩:=hpm p[i] (List.getElem_mem hlt)
   show Ret (Zvb.S0 (Zvb.l0 n) _ _ _ _ _) _
   unfold Zvb.S0
   rw [Zf,Zf,Zy hlt,Zn (by omega)]
   refine Zia (fun _=>Zya (by omega) (Zya (by omega) (Zae (by omega) (ih (i+1) n _ (by omega) (by omega) (by omega) (by rw [List.length_append,ho];rfl) fun x hx=>?_)))) fun _=>by omega
   rcases List.mem_append.1 hx with hx | hx
   ·exact h64 x hx
   ·rw [List.mem_singleton.1 hx]
    obtain ⟨q,hq⟩:∃ q:Nat,p[i]=q:=⟨p[i].toNat,by omega⟩
    rw [hq,Zy (by omega)]
    exact hD _ (List.getElem_mem _)
 exact main p.length 0 fu [] (by omega) (by omega) (by unfold fu;omega) rfl fun x hx=>by cases hx
theorem Zwg1 (s:ByteArray) {n:Int} (h0:0≤n) (hn:n≤65536) (hs:s.size≤65536):Ret (Zsi s n) LI:=by
 unfold Zsi
 refine Zta _ (Zyz1 s h0 hn hs) fun r hr=>Zqc (fun _=>Zg (LI.nil _)) fun h=>?_
 obtain ⟨_,h2,h3,h4⟩:=hr h
 exact Zta _ (Zzz1 h3 h2 h4) fun q hq=>Zg hq
theorem Zay (s:ByteArray) {n:Int} (code:Int) (h0:0≤n) (hn:n≤65536) (hs:s.size≤65536):Ret (Zci s n code) LI:=by
 unfold Zci
 refine Znd (fun _=>Zta _ (Za01 s n hs) fun r hr=>Zg hr) fun _=>Znd (fun _=>Zta _ (Zms s h0 hn hs) fun r hr=>Zqc (fun _=>Zg (LI.nil _)) fun he=>?_) fun _=>Znd (fun _=>Zta _ (Zwz1 s hn) fun r hr=>Zg hr) fun _=>
  Znd (fun _=>Zta _ (Zwg1 s h0 hn hs) fun r hr=>Zg hr) fun _=>Znd (fun _=>Zue (Zrf (fun _=>Zg (LI.nil _)) fun hne=>?_)) fun _=>Zg (LI.nil _)
 ·obtain ⟨k1,k2⟩:=hr.2 he
  exact Zsd (Zuk r.1 k1 (by omega)) (Zg ⟨by show (flatR r.1).length≤_;omega,Zuu1 hr.1⟩)
 ·have hsz:0<s.size:=by
   rcases Nat.eq_zero_or_pos s.size with h | h
   ·exact absurd (size0.2 h) hne
   ·exact h
  rw [Zma]
  exact Zpd (by omega) (Zya (by omega) (Zta _ (Ztj _ _ h0 hn) fun r hr=>Zg (hr.li hn)))
end Go.AM.Pure
end

section
/- The program's read of a block comes to something, whatever the bytes are; what it takes is put as these bytes. -/
namespace Go.AM.Pure
open Go.AM
def LT (r:List ByteArray×Int):Prop:=r.1.length≤65536
theorem LT.nil (e:Int):LT ([],e):=Nat.zero_le _
theorem Zqu1 (s:ByteArray) (n:Int) (hs:s.size≤65536):Ret (Zea s n) LT:=by
 have fin:∀ o:List ByteArray,o.length≤65536→Ret (Zea.S1 n o) LT:=fun o ho=>by
  unfold Zea.S1
  exact Zqc (fun _=>Zg (LT.nil _)) fun _=>Zg ho
 have main:∀ (m k:Nat) (t:ByteArray) (o:List ByteArray),t.size≤m→m<k→o.length+m≤65536→Ret (Zea.l0 (Zea.t1 fu) k t n o) LT:=by
  intro m
  induction m with
  | zero=>
   intro k t o ht hk ho
   obtain ⟨k,rfl⟩:∃ j,k=j+1:=⟨k-1,by omega⟩
   show Ret (Zea.S0 Zea.S1 _ _ _ _) _
   unfold Zea.S0
   have he:t=eB:=size0.2 (by omega)
   exact Zue (Zrf (fun _=>fin o (by omega)) fun h=>absurd he h)
  | succ m ih=>
   intro k t o ht hk ho
   obtain ⟨k,rfl⟩:∃ j,k=j+1:=⟨k-1,by omega⟩
   show Ret (Zea.S0 Zea.S1 (Zea.l0 (Zea.t1 fu) k) _ _ _) _
   unfold Zea.S0
   refine Zue (Zrf (fun _=>fin o (by omega)) fun hne=>?_)
   have hsz:0<t.size:=by
    rcases Nat.eq_zero_or_pos t.size with h | h
    ·exact absurd (size0.2 h) hne
    ·exact h
   obtain ⟨b0,b1⟩:=Zee t 0
   rw [Zgg,Zma]
   refine Zya (by omega) (Zia (fun _=>Zg (LT.nil _)) fun _=>Znj (fun _=>Zg (LT.nil _)) fun c2=>?_)
   rw [Zn (by omega)]
   have hc:=Zii (s:=t) (x:=1+byteAt t 0) (by omega) (by omega)
   exact Zpd (by omega) (Zae (by omega) (Zpd (by omega) (ih k _ _ (by omega) (by omega) (by rw [List.length_append,List.length_singleton];omega))))
 exact main s.size fu s [] (Nat.le_refl _) (by unfold fu;omega) (by show 0+s.size≤_;omega)
theorem Ztz1 (s:ByteArray) (hs:s.size≤65536):Ret (Zti s) fun r=>0≤r.2∧r.2≤(s.size:Int):=by
 unfold Zti
 have z:(0:Int)≤0∧(0:Int)≤(s.size:Int):=⟨Int.le_refl _,by omega⟩
 refine Zrf (fun _=>Zg z) fun hne=>?_
 have hsz:0<s.size:=by
  rcases Nat.eq_zero_or_pos s.size with h | h
  ·exact absurd (size0.2 h) hne
  ·exact h
 obtain ⟨b0,b1⟩:=Zee s 0
 rw [Zgg,Zma]
 refine Zya (by omega) (Zia (fun _=>Zg z) fun _=>Znj (fun _=>Zg z) fun c2=>?_)
 rw [Zn (by omega)]
 exact Zpd (by omega) (Zg ⟨by show 0≤1+byteAt s 0;omega,by show 1+byteAt s 0≤_;omega⟩)
theorem Zru1 (k:Nat) {D:List ByteArray} (hk:D.length≤65536) (p:List Int) (hp:p.length≤65536):∀ (d i n:Nat) (z:List Bool),d=p.length-i→i≤p.length→d<n→z.length=D.length→(∀ j (h:j<p.length),j<i→0≤p[j]∧p[j]<(D.length:Int))→
  Ret (Za.l2 (Za.t3 (k+1)) n (D.length:Int) D p p (p.length:Int) (i:Int) z) (DT fun _=>True):=by
 intro d
 induction d with
 | zero=>
  intro i n z hd hi hn hz hpm
  obtain ⟨n,rfl⟩:∃ k,n=k+1:=⟨n-1,by omega⟩
  show Ret (Za.S2 Za.S3 _ _ _ _ _ _ _ _) _
  unfold Za.S2
  refine Zia (fun _=>by omega) fun _=>?_
  unfold Za.S3
  refine Zta _ (Zzx z (by omega) false) fun b _=>Zcf (fun _=>Zg (DT.no (by decide))) fun _=>Zg fun _=>⟨hk,fun _ _=>trivial,hp,fun x hx=>?_⟩
  obtain ⟨j,hj,rfl⟩:=List.getElem_of_mem hx
  have hj':j<p.length:=hj
  exact hpm j hj' (by omega)
 | succ d ih=>
  intro i n z hd hi hn hz hpm
  obtain ⟨n,rfl⟩:∃ k,n=k+1:=⟨n-1,by omega⟩
  have hlt:i<p.length:=by omega
  show Ret (Za.S2 _ (Za.l2 (Za.t3 (k+1)) n) _ _ _ _ _ _ _) _
  unfold Za.S2
  rw [Zf,Zf,Zn (by omega),Zy hlt]
  refine Zia (fun _=>Zya (by omega) (Zia (fun _=>Zg (DT.no (by decide))) fun c1=>Znj (fun _=>Zg (DT.no (by decide))) fun c2=>Zya (by omega) (ih (i+1) n _ (by omega) (by omega) (by omega) (by rw [List.length_set];exact hz) fun j hj hji=>?_))) fun _=>by omega
  rcases Nat.lt_or_ge j i with h | h
  ·exact hpm j hj h
  ·have:j=i:=by omega
   subst this
   exact ⟨c1,c2⟩
theorem Zsu1 (s:ByteArray) {n:Int} (h0:0≤n) (hn:n≤65536) (hs:s.size≤65536):Ret (Za s n) (DT fun _=>True):=by
 have hno:∀ {e:Int},e≠0→DT (fun _=>True) (([]:List ByteArray),([]:List Int),e):=fun h=>DT.no h
 have main:∀ (f:Nat) (K:Int),1≤K→K≤n→70000<f→∀ (d i m:Nat) (at':Int) (o:List ByteArray),(d:Int)=K-i→(i:Int)≤K→d<m→0≤at'→at'≤s.size→o.length=i→
   Ret (Za.l0 (Za.t1 (f+1+1)) m s n K at' o K (i:Int)) (DT fun _=>True):=by
  intro f K hK1 hKn hf d
  induction d with
  | zero=>
   intro i m a o hd hi hm ha1 ha2 ho
   obtain ⟨m,rfl⟩:∃ k,m=k+1:=⟨m-1,by omega⟩
   show Ret (Za.S0 (Za.S1 (Za.l2 (Za.t3 (f+1)) (f+1))) _ _ _ _ _ _ _ _) _
   unfold Za.S0
   refine Zia (fun _=>by omega) fun _=>?_
   unfold Za.S1
   obtain ⟨v,v1,v2,_⟩:=Zsh [K-1] (by simp)
   have hKo:K=(o.length:Int):=by omega
   rw [Zma,Zqb (by omega)]
   refine Zpd (by omega) (Zsd v1 (Zta _ (Ztj _ _ h0 hn) fun z hz=>Zqc (fun _=>Zg (hno (by decide))) fun hz0=>?_))
   have hzl:=hz.len hz0
   rw [le_t (by omega),Bool.true_and,Zf]
   refine Zae (by omega) ?_
   rw [hKo]
   exact Zru1 _ (by omega) z.1 (by omega) z.1.length 0 _ _ (by omega) (by omega) (by omega) (by rw [List.length_replicate,Int.toNat_natCast]) (fun j _ h=>by omega)
  | succ d ih=>
   intro i m a o hd hi hm ha1 ha2 ho
   obtain ⟨m,rfl⟩:∃ k,m=k+1:=⟨m-1,by omega⟩
   show Ret (Za.S0 _ (Za.l0 (Za.t1 (f+1+1)) m) _ _ _ _ _ _ _) _
   unfold Za.S0
   have hc:=Zii ha1 ha2
   rw [Zma]
   refine Zia (fun _=>Zpd (by omega) (Zta _ (Ztz1 _ (by omega)) fun r hr=>Znd (fun _=>Zg (hno (by decide))) fun hr0=>?_)) fun _=>by omega
   obtain ⟨r2,r3⟩:=hr
   rw [Zf,Zqb (by omega),Zn (a:=a) (by omega),Zn (a:=(i:Int)) (by omega)]
   have next:Ret (Za.l0 (Za.t1 (f+1+1)) m s n K (a+r.2) (o++[r.1]) K ((i:Int)+1)) (DT fun _=>True):=
    ih (i+1) m (a+r.2) (o++[r.1]) (by omega) (by omega) (by omega) (by omega) (by omega) (by rw [List.length_append,ho];rfl)
   exact Zia (fun _=>Zya (by omega) (Zcf (fun _=>Zg (hno (by decide))) fun _=>Zae (by omega) next)) fun _=>Zae (by omega) next
 show Ret (Za.S (Za.l0 (Za.t1 (18446744073709551614+1+1)) (18446744073709551614+1+1)) s n) _
 unfold Za.S
 refine Zia (fun _=>by omega) fun _=>Zia (fun _=>by omega) fun _=>Znd (fun _=>Zue (Zrf (fun _=>Zg fun _=>⟨Nat.zero_le _,(fun x hx=>by cases hx),Nat.zero_le _,fun x hx=>by cases hx⟩) fun _=>Zg (hno (by decide)))) fun _=>?_
 refine Zta _ (Zug s) fun r hr=>Zqc (fun _=>Zg (hno (by decide))) fun hr0=>Zia (fun _=>Zg (hno (by decide))) fun c1=>Zia (fun _=>Zg (hno (by decide))) fun c2=>?_
 obtain ⟨_,r2,r3⟩:=hr.all
 exact main 18446744073709551614 r.1 c1 c2 (by omega) r.1.toNat 0 _ r.2.1 [] (by omega) (by omega) (by omega) r2 r3 rfl
theorem Zuz1 {D:List ByteArray} {p:List Int} (hp:p.length≤65536) (hpm:∀ x∈p,0≤x∧x<(D.length:Int)):Ret (Zbb D p) fun r=>LT (r,0):=by
 have main:∀ (d i n:Nat) (o:List ByteArray),d=p.length-i→i≤p.length→d<n→o.length=i→Ret (Zbb.l0 n D o p (p.length:Int) (i:Int)) fun r=>LT (r,0):=by
  intro d
  induction d with
  | zero=>
   intro i n o hd hi hn ho
   obtain ⟨n,rfl⟩:∃ k,n=k+1:=⟨n-1,by omega⟩
   show Ret (Zbb.S0 _ _ _ _ _ _) _
   unfold Zbb.S0
   exact Zia (fun _=>by omega) fun _=>Zg (by show o.length≤_;omega)
  | succ d ih=>
   intro i n o hd hi hn ho
   obtain ⟨n,rfl⟩:∃ k,n=k+1:=⟨n-1,by omega⟩
   have hlt:i<p.length:=by omega
   obtain ⟨b1,b2⟩:=hpm p[i] (List.getElem_mem hlt)
   show Ret (Zbb.S0 (Zbb.l0 n) _ _ _ _ _) _
   unfold Zbb.S0
   rw [Zf,Zf,Zy hlt,Zn (by omega)]
   exact Zia (fun _=>Zya (by omega) (Zya (by omega) (Zae (by omega) (ih (i+1) n _ (by omega) (by omega) (by omega) (by rw [List.length_append,ho];rfl))))) fun _=>by omega
 exact main p.length 0 fu [] (by omega) (by omega) (by unfold fu;omega) rfl
theorem Zvf1 (s:ByteArray) {n:Int} (h0:0≤n) (hn:n≤65536) (hs:s.size≤65536):Ret (Zhi s n) LT:=by
 unfold Zhi Zdp
 refine Zta (DT fun _=>True) (Zta _ (Zsu1 s h0 hn hs) fun r hr=>Zg hr) fun r hr=>Zqc (fun _=>Zg (LT.nil _)) fun h=>?_
 obtain ⟨_,_,h3,h4⟩:=hr h
 exact Zta _ (Zuz1 h3 h4) fun q hq=>Zg hq
theorem Zxo1 (s:ByteArray) {n:Int} (h0:0≤n) (hn:n≤65536) (hs:s.size≤65536):Ret (Zr s n) LT:=by
 have last:∀ (D:List ByteArray) (p:List Int) (K:Int),K=(D.length:Int)→p.length≤65536→∀ (d i m:Nat) (o:List ByteArray),d=p.length-i→i≤p.length→d<m→o.length=i→Ret (Zr.l2 m K D o p (p.length:Int) (i:Int)) LT:=by
  intro D p K hK hp d
  induction d with
  | zero=>
   intro i m o hd hi hm ho
   obtain ⟨m,rfl⟩:∃ k,m=k+1:=⟨m-1,by omega⟩
   show Ret (Zr.S2 _ _ _ _ _ _ _) _
   unfold Zr.S2
   exact Zia (fun _=>by omega) fun _=>Zg (by show o.length≤_;omega)
  | succ d ih=>
   intro i m o hd hi hm ho
   obtain ⟨m,rfl⟩:∃ k,m=k+1:=⟨m-1,by omega⟩
   show Ret (Zr.S2 (Zr.l2 m) _ _ _ _ _ _) _
   unfold Zr.S2
   rw [Zf,Zf,Zn (by omega)]
   exact Zia (fun _=>Zya (by omega) (Zia (fun _=>Zg (LT.nil _)) fun _=>Znj (fun _=>Zg (LT.nil _)) fun _=>Zya (by omega) (Zae (by omega) (ih (i+1) m _ (by omega) (by omega) (by omega) (by rw [List.length_append,ho];rfl))))) fun _=>by omega
 have main:∀ (f:Nat) (K:Int),1≤K→K≤n→70000<f→∀ (d i m:Nat) (at':Int) (o:List ByteArray),(d:Int)=K-i→(i:Int)≤K→d<m→0≤at'→at'≤s.size→o.length=i→
   Ret (Zr.l0 (Zr.t1 (f+1)) m s n K at' o K (i:Int)) LT:=by
  intro f K hK1 hKn hf d
  induction d with
  | zero=>
   intro i m a o hd hi hm ha1 ha2 ho
   obtain ⟨m,rfl⟩:∃ k,m=k+1:=⟨m-1,by omega⟩
   show Ret (Zr.S0 (Zr.S1 (Zr.l2 f)) _ _ _ _ _ _ _ _) _
   unfold Zr.S0
   refine Zia (fun _=>by omega) fun _=>?_
   unfold Zr.S1
   have hc:=Zii ha1 ha2
   rw [Zma]
   refine Zpd (by omega) (Zta _ (Zms _ h0 hn (by omega)) fun r hr=>Zqc (fun _=>Zg (LT.nil _)) fun he=>?_)
   obtain ⟨k1,k2⟩:=hr.2 he
   refine Zsd (Zuk r.1 k1 (by omega)) (Zqc (fun _=>Zg (LT.nil _)) fun _=>?_)
   rw [Zf]
   exact last o (flatR r.1) K (by omega) (by omega) (flatR r.1).length 0 _ [] (by omega) (by omega) (by omega) rfl
  | succ d ih=>
   intro i m a o hd hi hm ha1 ha2 ho
   obtain ⟨m,rfl⟩:∃ k,m=k+1:=⟨m-1,by omega⟩
   obtain ⟨b0,b1⟩:=Zee s a
   show Ret (Zr.S0 _ (Zr.l0 (Zr.t1 (f+1)) m) _ _ _ _ _ _ _) _
   unfold Zr.S0
   rw [Zma,Zgg,Zqb (by omega),Zn (a:=a) (by omega),Zn (a:=a+1) (by omega),Zn (a:=(i:Int)) (by omega)]
   exact Zia (fun _=>Znj (fun _=>Zg (LT.nil _)) fun _=>Zya (by omega) (Znj (fun _=>Zg (LT.nil _)) fun _=>Zya (by omega) (Zpd (by omega) (Zae (by omega) (ih (i+1) m _ _ (by omega) (by omega) (by omega) (by omega) (by omega) (by rw [List.length_append,ho];rfl)))))) fun _=>by omega
 show Ret (Zr.S (Zr.l0 (Zr.t1 (18446744073709551615+1)) (18446744073709551615+1)) s n) _
 unfold Zr.S
 refine Znd (fun _=>Zue (Zrf (fun _=>Zg (LT.nil _)) fun _=>Zg (LT.nil _))) fun _=>Zta _ (Zug s) fun r hr=>Zqc (fun _=>Zg (LT.nil _)) fun hr0=>Zia (fun _=>Zg (LT.nil _)) fun c1=>Zia (fun _=>Zg (LT.nil _)) fun c2=>?_
 obtain ⟨_,r2,r3⟩:=hr.all
 exact main 18446744073709551615 r.1 c1 c2 (by omega) r.1.toNat 0 _ r.2.1 [] (by omega) (by omega) (by omega) r2 r3 rfl
theorem Zyb1 (s:ByteArray) {n:Int} (code:Int) (h0:0≤n) (hn:n≤65536) (hs:s.size≤65536):Ret (Zgj s n code) LT:=by
 unfold Zgj
 exact Znd (fun _=>Zta _ (Zqu1 s n hs) fun r hr=>Zg hr) fun _=>Znd (fun _=>Zta _ (Zxo1 s h0 hn hs) fun r hr=>Zg hr) fun _=>Znd (fun _=>Zta _ (Zvf1 s h0 hn hs) fun r hr=>Zg hr) fun _=>Zg (LT.nil _)
def BT (n:Int) (r:List Int×Int):Prop:=(r.2=0∧r.1.length=n.toNat∧∀ x∈r.1,x=0∨x=1)∨(r.2≠0∧r.1=[])
theorem Zqd1 (s:ByteArray) (k:Nat):wordS s k 1=0∨wordS s k 1=1:=by
 unfold wordS
 show IntKind.wrap .i64 (numOf [sb s (k*1+0)])=0∨IntKind.wrap .i64 (numOf [sb s (k*1+0)])=1
 cases sb s (k*1+0)
 ·exact .inl rfl
 ·exact .inr rfl
theorem Zs6 (s:ByteArray) {n:Int} (h0:0≤n) (hn:n≤65536):Ret (Zpg s n) (BT n):=by
 unfold Zpg
 refine Zia (fun _=>by omega) fun _=>Zia (fun _=>by omega) fun _=>Zrf (fun _=>?_) fun _=>Zta _ (Ztj s 1 h0 hn) fun r hr=>Zqc (fun _=>Zg (.inr ⟨by decide,rfl⟩)) fun he=>?_
 ·rw [le_t h0,Bool.true_and]
  refine Zae (by omega) (Zg (.inl ⟨rfl,List.length_replicate,fun x hx=> .inl (List.mem_replicate.1 hx).2⟩))
 ·have hl:=hr.len he
  have hli:=hr.li hn
  obtain ⟨_,_,_,hw⟩:=hr.resolve_right fun h=>h.1 he
  refine Zsd (Znr r.1 (by omega) 1) (Zue (Zcf (fun _=>Zg (.inl ⟨rfl,hl,fun x hx=>?_⟩)) fun _=>Zg (.inr ⟨by decide,rfl⟩)))
  have hx:x∈r.1:=hx
  rw [hw] at hx
  obtain ⟨k,_,rfl⟩:=List.mem_map.1 hx
  exact Zqd1 s k
theorem sum01:∀ (b:List Int),(∀ x∈b,x=0∨x=1)→b.foldr (· + ·) 0+((b.filter fun x=>decide (x=0)).length:Int)=(b.length:Int)∧0≤b.foldr (· + ·) 0
 | [],_=>⟨rfl,Int.le_refl _⟩
 | x :: b,h=>by
  obtain ⟨i1,i2⟩:=sum01 b fun y hy=>h y (List.mem_cons_of_mem _ hy)
  rw [List.foldr_cons,List.length_cons]
  rcases h x (List.mem_cons_self ..) with rfl | rfl
  ·rw [List.filter_cons_of_pos (by decide),List.length_cons];omega
  ·rw [List.filter_cons_of_neg (by decide)];omega
theorem Zy7 (s:ByteArray) {n:Int} (h0:0≤n) (hn:n≤65536):∃ b e,Zpg s n=some (b,e)∧BT n (b,e)∧Zhc s n=some (b.foldr (· + ·) 0,e)∧0≤b.foldr (· + ·) 0∧b.foldr (· + ·) 0≤n:=by
 obtain ⟨⟨b,e⟩,h1,h2⟩:=Zs6 s h0 hn
 have hb:b.length≤n.toNat∧∀ x∈b,x=0∨x=1:=by
  rcases h2 with ⟨_,k1,k2⟩ | ⟨_,k⟩
  ·have k1:b.length=_:=k1
   exact ⟨by omega,k2⟩
  ·have k:b=[]:=k
   subst k
   exact ⟨Nat.zero_le _,fun x hx=>by cases hx⟩
 obtain ⟨i1,i2⟩:=sum01 b hb.2
 refine ⟨b,e,h1,h2,?_,i2,by omega⟩
 show Zhc.S (Zhc.l0 fu) s n=_
 unfold Zhc.S
 rw [h1,Option.bind_some]
 dsimp only
 have:=Zo8 b (by omega) hb.2 e b.length 0 fu 0 (by omega) (by omega) (by unfold fu;omega) (by omega) (by omega)
 rw [List.drop_zero,Int.zero_add] at this
 exact this
def LC (r:List Cell×Int):Prop:=r.1.length≤65536∧∀ c∈r.1,in64 c.2.1
theorem LC.nil (e:Int):LC ([],e):=⟨Nat.zero_le _,fun x hx=>by cases hx⟩
theorem Zrj2 (s:ByteArray) {n:Int} (h0:0≤n) (hn:n≤65536) (l:List Cell) (e:Int) (hl:LC (l,e)):Ret (Zbc s n l) LC:=by
 obtain ⟨b,e,h1,h2,h3,_,h4⟩:=Zy7 s h0 hn
 obtain ⟨hl1,hl2⟩:=hl
 have hl1:l.length≤65536:=hl1
 have main:b.length≤65536→(∀ x∈b,x=0∨x=1)→∀ (d i m:Nat) (r o:List Cell),d=b.length-i→i≤b.length→d<m→r.length=((b.drop i).filter fun x=>decide (x=0)).length→(∀ c∈r,in64 c.2.1)→o.length=b.length→(∀ c∈o,in64 c.2.1)→
   Ret (Zbc.l0 m r b (b.length:Int) (i:Int) o) LC:=by
  intro hbl hb d
  induction d with
  | zero=>
   intro i m r o hd hi hm hr hr64 ho ho64
   obtain ⟨m,rfl⟩:∃ k,m=k+1:=⟨m-1,by omega⟩
   show Ret (Zbc.S0 _ _ _ _ _ _) _
   unfold Zbc.S0
   exact Zia (fun _=>by omega) fun _=>Zg ⟨by show o.length≤_;omega,ho64⟩
  | succ d ih=>
   intro i m r o hd hi hm hr hr64 ho ho64
   obtain ⟨m,rfl⟩:∃ k,m=k+1:=⟨m-1,by omega⟩
   have hlt:i<b.length:=by omega
   show Ret (Zbc.S0 (Zbc.l0 m) _ _ _ _ _) _
   unfold Zbc.S0
   rw [List.drop_eq_getElem_cons hlt] at hr
   rw [Zf,Zf,Zf,Zy hlt,Zn (by omega)]
   refine Zia (fun _=>Zya (by omega) (Znd (fun hz=>?_) fun hz=>?_)) fun _=>by omega
   ·rw [List.filter_cons_of_pos (by simpa using hz),List.length_cons] at hr
    refine Zya (by omega) (Zpd (by omega) (Zya (by omega) (ih (i+1) m _ _ (by omega) (by omega) (by omega) (by rw [List.length_drop];omega) (fun c hc=>hr64 c (List.mem_of_mem_drop hc)) (by rw [List.length_set];exact ho) fun c hc=>?_)))
    rcases List.mem_or_eq_of_mem_set hc with hc | rfl
    ·exact ho64 c hc
    ·rw [show (0:Int)=((0:Nat):Int) from rfl,Zy (by omega)]
     exact hr64 _ (List.getElem_mem _)
   ·rw [List.filter_cons_of_neg (by simpa using hz)] at hr
    exact ih (i+1) m r o (by omega) (by omega) (by omega) hr hr64 ho ho64
 show Ret (Zbc.S (Zbc.l0 fu) s n l) _
 unfold Zbc.S
 refine Zsd h1 (Zqc (fun _=>Zg (LC.nil _)) fun he=>Zsd h3 (Zqc (fun _=>Zg (LC.nil _)) fun hc=>Zsd (Zdy l (by omega)) (Zcf (fun _=>Zg (LC.nil _)) fun _=>?_)))
 obtain ⟨_,k1,k2⟩:=h2.resolve_right fun h=>h.1 he
 have k1:b.length=n.toNat:=k1
 have k2:∀ x∈b,x=0∨x=1:=k2
 obtain ⟨i1,i2⟩:=sum01 b k2
 have hc:lenL l=subI .i64 n (b.foldr (· + ·) 0):=hc
 rw [Zf,Zqb (by omega)] at hc
 rw [le_t h0,Bool.true_and]
 refine Zae (by omega) ?_
 rw [Zf,List.length_replicate,← k1]
 exact main (by omega) k2 b.length 0 fu l _ (by omega) (by omega) (by unfold fu;omega) (by rw [List.drop_zero];omega) hl2 List.length_replicate fun c hc=>by rw [(List.mem_replicate.1 hc).2];exact Zjp
theorem Zvz1 (s:ByteArray) {n:Int} (h:Int×Int×Int×Int) (h0:0≤n) (hn:n≤65536) (hs:s.size≤65536):Ret (Zga s n h) LC:=by
 have m0:∀ (e:Int) (l:List Int),l.length≤65536→(∀ x∈l,in64 x)→∀ (d i m:Nat) (o:List Cell),d=l.length-i→i≤l.length→d<m→o.length=i→(∀ c∈o,in64 c.2.1)→Ret (Zga.l0 m o e l (l.length:Int) (i:Int) h) LC:=by
  intro e l hl h64 d
  induction d with
  | zero=>
   intro i m o hd hi hm ho ho64
   obtain ⟨m,rfl⟩:∃ k,m=k+1:=⟨m-1,by omega⟩
   show Ret (Zga.S0 _ _ _ _ _ _ _) _
   unfold Zga.S0
   exact Zia (fun _=>by omega) fun _=>Zg ⟨by show o.length≤_;omega,ho64⟩
  | succ d ih=>
   intro i m o hd hi hm ho ho64
   obtain ⟨m,rfl⟩:∃ k,m=k+1:=⟨m-1,by omega⟩
   have hlt:i<l.length:=by omega
   show Ret (Zga.S0 (Zga.l0 m) _ _ _ _ _ _) _
   unfold Zga.S0
   rw [Zf,Zy hlt,Zn (by omega)]
   refine Zia (fun _=>Zya (by omega) (Zae (by omega) (ih (i+1) m _ (by omega) (by omega) (by omega) (by rw [List.length_append,ho];rfl) fun c hc=>?_))) fun _=>by omega
   rcases List.mem_append.1 hc with hc | hc
   ·exact ho64 c hc
   ·rw [List.mem_singleton.1 hc];exact h64 _ (List.getElem_mem hlt)
 have m1:∀ (e:Int) (l:List ByteArray),l.length≤65536→∀ (d i m:Nat) (o:List Cell),d=l.length-i→i≤l.length→d<m→o.length=i→(∀ c∈o,in64 c.2.1)→Ret (Zga.l1 m o e l (l.length:Int) (i:Int) h) LC:=by
  intro e l hl d
  induction d with
  | zero=>
   intro i m o hd hi hm ho ho64
   obtain ⟨m,rfl⟩:∃ k,m=k+1:=⟨m-1,by omega⟩
   show Ret (Zga.S1 _ _ _ _ _ _ _) _
   unfold Zga.S1
   exact Zia (fun _=>by omega) fun _=>Zg ⟨by show o.length≤_;omega,ho64⟩
  | succ d ih=>
   intro i m o hd hi hm ho ho64
   obtain ⟨m,rfl⟩:∃ k,m=k+1:=⟨m-1,by omega⟩
   show Ret (Zga.S1 (Zga.l1 m) _ _ _ _ _ _) _
   unfold Zga.S1
   rw [Zf,Zn (by omega)]
   refine Zia (fun _=>Zya (by omega) (Zae (by omega) (ih (i+1) m _ (by omega) (by omega) (by omega) (by rw [List.length_append,ho];rfl) fun c hc=>?_))) fun _=>by omega
   rcases List.mem_append.1 hc with hc | hc
   ·exact ho64 c hc
   ·rw [List.mem_singleton.1 hc];exact Zjp
 show Ret (Zga.S (Zga.l0 fu) (Zga.l1 fu) s n h) _
 unfold Zga.S
 refine Znd (fun _=>Zta _ (Zay s h.2.1 h0 hn hs) fun r hr=>?_) fun _=>Znd (fun _=>Zta _ (Zyb1 s h.2.1 h0 hn hs) fun r hr=>?_) fun _=>Zg (LC.nil _)
 ·have hr1:r.1.length≤65536:=hr.1
  rw [Zf]
  exact m0 _ r.1 hr.1 hr.2 r.1.length 0 fu [] (by omega) (by omega) (by unfold fu;omega) rfl fun c hc=>by cases hc
 ·have hr1:r.1.length≤65536:=hr
  rw [Zf]
  exact m1 _ r.1 hr r.1.length 0 fu [] (by omega) (by omega) (by unfold fu;omega) rfl fun c hc=>by cases hc
theorem Zsj2 (s:ByteArray) (hs:s.size≤65536):Ret (Ztl s) fun r=>r.1.size≤s.size:=by
 unfold Ztl
 rw [Zma,Zqb (by omega)]
 refine Zia (fun _=>Zg (Nat.zero_le _)) fun _=>Zpd (by omega) (Zsd (Znq _ (by have:=Zoh s 0 ((s.size:Int)-4);omega)) (Zue (Zrf (fun _=>Zpd (by omega) (Zg (Zoh _ _ _))) fun _=>Zg (Nat.zero_le _))))
theorem Zqz2 (l:List Cell) (hl:l.length≤65536) (kind code:Int):∃ r,Zhg l kind code=some r:=by
 by_cases hm:MayB l kind
 ·cases hv:valB (restC l) kind code with
  | none=>exact ⟨_,Zdh1 hm hv⟩
  | some b=>exact ⟨_,Zdq1 hm hv⟩
 ·exact ⟨_,Zuy (by omega) hm⟩
theorem Ztj2 (s:ByteArray) (hs:s.size≤65536):Ret (Zmh s) fun r=>r.2=true→∃ l kind code,Zhg l kind code=some (s,0)∧l.length≤65536∧∀ c∈l,in64 c.2.1:=by
 unfold Zmh
 refine Zta _ (Zsj2 s hs) fun r hr=>Zqc (fun _=>Zg fun h=>by cases h) fun _=>Zia (fun _=>Zg fun h=>by cases h) fun h4=>?_
 have h4:4≤(r.1.size:Int):=h4
 obtain ⟨b0,b1⟩:=Zee r.1 3
 obtain ⟨c0,c1⟩:=Zee r.1 2
 rw [Zgg,Zgg,Zgg,Zgg,Zma,Zqb (by omega),Zn (by omega)]
 refine Zya (by omega) (Zia (fun _=>Zg fun h=>by cases h) fun h5=>Zya (by omega) (Zya (by omega) (Zya (by omega) (Zya (by omega) (Zpd (by omega) (Zpd (by omega) ?_))))))
 obtain ⟨b,e,_,_,k3,k4,k5⟩:=Zy7 (cutS r.1 4 (4+byteAt r.1 3)) (n:=byteAt r.1 2) c0 (by omega)
 refine Zsd k3 (Zqc (fun _=>Zg fun h=>by cases h) fun _=>?_)
 dsimp only
 rw [Zqb (by omega)]
 refine Zta _ (Zvz1 _ _ (by omega) (by omega) (by have:=Zoh r.1 (4+byteAt r.1 3) (r.1.size:Int);omega)) fun q hq=>Zqc (fun _=>Zg fun h=>by cases h) fun _=>Zta _ (Zrj2 _ c0 (by omega) q.1 q.2 hq) fun z hz=>Zqc (fun _=>Zg fun h=>by cases h) fun _=>?_
 obtain ⟨u,hu⟩:=Zqz2 z.1 hz.1 (byteAt r.1 0) (byteAt r.1 1)
 refine Zsd hu (Znd (fun hu0=>Zg fun h=>?_) fun _=>Zg fun h=>by cases h)
 have h:eqS u.1 s=true:=h
 rw [eqS_d] at h
 refine ⟨z.1,byteAt r.1 0,byteAt r.1 1,?_,hz⟩
 rw [hu]
 obtain ⟨u1,u2⟩:=u
 have e1:u1=s:=of_decide_eq_true h
 have e2:u2=0:=hu0
 rw [e1,e2]
end Go.AM.Pure
end
