import Derived.Test.YtclpadlpcfnfmaaGreatAmPZig
import Derived.Test.YtclpadlpcfnfmaaGreatAmPCell
/- Numbers as bytes: layer 02. -/
namespace Go.AM.Pure
open Go.AM
def J8 (word v:Int) (a w k:Nat):Bool:=if a≤k∧k<a+w then bit v (k-a) else bit word k
theorem Zyr (word v:Int) (a k:Nat) (hk:a+k<64):
  ((List.range 64).map (J8 word v a k)).set (a+k) (bit v k)=(List.range 64).map (J8 word v a (k+1)):=by
 apply List.ext_getElem?
 intro j
 rw [List.getElem?_set]
 by_cases hj:j<64
 ·rw [P4 (f:=J8 word v a (k+1)) hj]
  by_cases he:a+k=j
  ·subst he
   rw [if_pos rfl,if_pos (by simp;omega)]
   unfold J8
   rw [if_pos (by omega),show a+k-a=k by omega]
  ·rw [if_neg he,P4 hj]
   unfold J8
   by_cases h1:a≤j∧j<a+k
   ·rw [if_pos h1,if_pos (by omega)]
   ·rw [if_neg h1,if_neg (by omega)]
 ·rw [if_neg (by omega),List.getElem?_eq_none (by simp;omega),List.getElem?_eq_none (by simp;omega)]
theorem fp {word v x:Int} {a w k:Nat} (hx:∀ j,j<64→J8 word v a w j=bit x j) (hk:∀ j,j<64→J8 word v a k j=J8 word v a w j):
  En ((List.range 64).map (J8 word v a k))=some (IntKind.wrap .i64 x):=by
 apply Za
 exact SU fun j hj=>(hk j hj).trans (hx j hj)
theorem Zzr {word v x:Int} {a w:Nat} (ha:a<64) (hw:w≤64) (hx:∀ j,j<64→J8 word v a w j=bit x j):∀ (d k n:Nat),d=64-k→k≤w→d<n→
  Iq.l0 n (a:Int) (w:Int) (k:Int) ((List.range 64).map (J8 word v a k)) (bitsOf v)=some (IntKind.wrap .i64 x):=by
 intro d
 induction d with
 | zero=>
  intro k n hd hk hn
  obtain ⟨m,rfl⟩:∃ m,n=m+1:=⟨n-1,by omega⟩
  show Iq.S0 (Iq.l0 m) (a:Int) (w:Int) (k:Int) _ (bitsOf v)=_
  unfold Iq.S0
  have CF:k=64:=by omega
  subst CF
  have hw':w=64:=by omega
  subst hw'
  rw [show AS ((64:Nat):Int) 64=false from rfl,NB,fp hx (fun _ _=>rfl)]
  rfl
 | succ d ih=>
  intro k n hd hk hn
  obtain ⟨m,rfl⟩:∃ m,n=m+1:=⟨n-1,by omega⟩
  show Iq.S0 (Iq.l0 m) (a:Int) (w:Int) (k:Int) _ (bitsOf v)=_
  unfold Iq.S0
  have h1:AS (k:Int) 64=true:=Af (by omega)
  have h5:Bq 0 (a:Int)=true:=Af (by omega)
  have h6:AS (a:Int) 64=true:=Af (by omega)
  rw [h1,NB,h5,h6,OI]
  by_cases mP:k<w
  ·by_cases cv:a+k<64
   ·have h7:AS (k:Int) (w:Int)=true:=Af (by omega)
    have h8:AS (k:Int) (Be .i64 64 (a:Int))=true:=by rw [Tp (by omega) (by omega)];exact Af (by omega)
    have Ig:AQ .i64 (a:Int) (k:Int)=((a+k:Nat):Int):=by rw [Ie (by omega) (by omega)];rfl
    have h2:AX ((a+k:Nat):Int) 64=true:=by rw [JF];exact Af (by omega)
    have h3:AX (k:Int) 64=true:=by rw [JF];exact Af (by omega)
    have hs:=ih (k+1) m (by omega) (by omega) (by omega)
    rw [show ((k+1:Nat):Int)=(k:Int)+1 from rfl] at hs
    rw [h7,h8,Ig,h2,h3,Ie (a:=(k:Int)) (by omega) (by omega),show (k:Int).toNat=k from rfl,show ((a+k:Nat):Int).toNat=a+k from rfl,OP v (by omega),
     Zyr word v a k cv]
    exact hs
   ·have h7:AS (k:Int) (w:Int)=true:=Af (by omega)
    have h8:AS (k:Int) (Be .i64 64 (a:Int))=false:=by rw [Tp (by omega) (by omega)];exact An (by omega)
    rw [h7,h8,fp hx (fun j hj=>by
     unfold J8
     by_cases h:a≤j∧j<a+k
     ·rw [if_pos h,if_pos (by omega)]
     ·rw [if_neg h,if_neg (by omega)])]
    rfl
  ·have h7:AS (k:Int) (w:Int)=false:=An (by omega)
   have CF:k=w:=by omega
   subst CF
   rw [h7,fp hx (fun _ _=>rfl)]
   rfl
theorem Zkk {word v x:Int} {a w:Nat} (ha:a<64) (hw:w≤64) (hx:∀ j,j<64→J8 word v a w j=bit x j):Iq word (a:Int) (w:Int) v=some (IntKind.wrap .i64 x):=by
 have h:=Zzr ha hw hx (64-0) 0 fu rfl (by omega) (by unfold fu;omega)
 have h0:(List.range 64).map (J8 word v a 0)=bitsOf word:=by
  apply SU
  intro k hk
  unfold J8
  rw [if_neg (by omega)]
 rw [h0,show ((0:Nat):Int)=0 from rfl] at h
 show Iq.S (Iq.l0 fu) word (a:Int) (w:Int) v=_
 unfold Iq.S
 rw [SR,SR,Ad,Ad]
 exact h
def Eg:Nat→Int→List Int
 | 0,_=>[]
 | f+1,u=>if u<128 then [u] else (128+u % 128) :: Eg f (u / 128)
theorem Zvj (a b:List Int):ofBytes (a++b)=ofBytes a++ofBytes b:=by
 unfold ofBytes
 rw [AE]
 apply SY.1
 simp [ByteArray.data_append]
theorem Zas:∀ (f:Nat) (u:Int) (out:List Int) (n:Nat),0<f→u<128 ^ f→f<n→out.length+f<1000→
  ∀ w,w % 18446744073709551616=u→E5.l0 n w out=some (ofBytes (out++Eg f u)):=by
 intro f
 induction f with
 | zero=>intro u out n h0;omega
 | succ f ih=>
  intro u out n _ h1 hn R3 w hw
  obtain ⟨m,rfl⟩:∃ m,n=m+1:=⟨n-1,by omega⟩
  show E5.S0 (E5.l0 m) w out=_
  unfold E5.S0
  rw [Zbs,Zpo,Ad,Ad,hw]
  have hu:0≤u:=by omega
  have hu2:u<18446744073709551616:=by omega
  have hl:w % 128=u % 128:=by omega
  have hr:BM (out.length+1) 1=true:=Af (by omega)
  rw [hl,hr]
  unfold Eg
  by_cases AO:u<128
  ·have h0:u / 128=0:=by omega
   have h2:u % 128=u:=by omega
   have h3:IntKind.wrap .u8 u=u:=by rw [J4];omega
   rw [h0,h2,h3,if_pos AO]
   rfl
  ·have h0:AR (u / 128) 0=false:=An (by omega)
   have h3:IntKind.wrap .u8 (AQ .i64 128 (u % 128))=128+u % 128:=by rw [Ie (by omega) (by omega),J4];omega
   rw [h0,h3,if_neg AO]
   have h4:u / 128<128 ^ f:=by
    rw [Int.pow_succ] at h1
    exact Int.ediv_lt_of_lt_mul (by omega) h1
   have hf:0<f:=by
    rcases Nat.eq_zero_or_pos f with h | h
    ·subst h;simp at h4;omega
    ·exact h
   have:=ih (u / 128) (out++[128+u % 128]) m hf h4 (by omega) (by simp;omega) (u / 128) (by omega)
   rw [Al,List.singleton_append] at this
   exact this
def KU (x:Int):ByteArray:=ofBytes (Eg 10 (Eb x % 18446744073709551616))
theorem Nu {x:Int} (h:BY x):E5 x=some (KU x):=by
 have:=Zas 10 (Eb x % 18446744073709551616) [] fu (by omega) (by omega) (by unfold fu;omega) (by simp) (Eb x) rfl
 rw [AH] at this
 show E5.S (E5.l0 fu) x=_
 unfold E5.S
 rw [Zol h,Ad]
 exact this
theorem Ygx {u:Int} (h0:0≤u):EI .u8 (IntKind.wrap .u8 u) 128=128+u % 128:=by
 have key:∀ v:Fin 256,EI .u8 ((v.val:Nat):Int) 128=128+((v.val:Nat):Int) % 128:=by decide +kernel
 have:=key ⟨(u % 256).toNat,by omega⟩
 rw [J4]
 have e:(((u % 256).toNat:Nat):Int)=u % 256:=by omega
 simp only at this
 rw [e] at this
 rw [this]
 omega
theorem Yn2 (u:Int):BH .u64 u 7=u / 128:=by
 unfold BH
 show u.fdiv (2 ^ 7)=_
 rw [Int.fdiv_eq_ediv_of_nonneg _ (by omega)]
 rfl
theorem Zcs:∀ (f:Nat) (u:Int) (k n:Nat) (l:List Int),0<f→0≤u→u<128 ^ f→k+f≤10→f<n→l.length=k→
  Dx.l0 Dx.S1 n u (k:Int) (l++List.replicate (10-k) 0)=some (ofBytes (l++Eg f u)):=by
 intro f
 induction f with
 | zero=>intro u k n l h0;omega
 | succ f ih=>
  intro u k n l _ hu h1 hk hn hl
  obtain ⟨m,rfl⟩:∃ m,n=m+1:=⟨n-1,by omega⟩
  show Dx.S0 Dx.S1 (Dx.l0 Dx.S1 m) u (k:Int) _=_
  unfold Dx.S0
  have hlen:(l++List.replicate (10-k) 0).length=10:=by simp;omega
  have h3:AX (k:Int) 10=true:=by rw [JF];exact Af (by omega)
  have QO:∀ x:Int,(l++List.replicate (10-k) 0).set k x=(l++[x])++List.replicate (10-(k+1)) 0:=fun x=>by
   rw [List.set_append_right _ _ (by omega),hl,Nat.sub_self,show 10-k=(10-(k+1))+1 by omega,List.replicate_succ,List.set_cons_zero,Al]
   rfl
  unfold Eg
  by_cases AO:u<128
  ·have h2:Bq 128 u=false:=An (by omega)
   rw [h2,if_pos AO]
   show Dx.S1 u (k:Int) _=_
   unfold Dx.S1
   have Ig:AQ .i64 (k:Int) 1=((k+1:Nat):Int):=by rw [Ie (by omega) (by omega)];rfl
   have h5:CU 0 ((k+1:Nat):Int) 10=true:=by rw [aP];exact Af (by omega)
   have hw:IntKind.wrap .u8 u=u:=by rw [J4];omega
   have Yhx:((l++[u])++List.replicate (10-(k+1)) 0).length=10:=by simp;omega
   rw [h3,hlen,Ig,h5,show (k:Int).toNat=k from rfl,show ((k+1:Nat):Int).toNat=k+1 from rfl,hw,QO,Yhx,Nat.sub_zero,List.drop_zero,
    List.take_left' (by simp;omega)]
   rfl
  ·have h2:Bq 128 u=true:=Af (by omega)
   have h4:u / 128<128 ^ f:=by
    rw [Int.pow_succ] at h1
    exact Int.ediv_lt_of_lt_mul (by omega) h1
   have hf:0<f:=by
    rcases Nat.eq_zero_or_pos f with h | h
    ·subst h;simp at h4;omega
    ·exact h
   have:=ih (u / 128) (k+1) m (l++[128+u % 128]) hf (by omega) h4 (by omega) (by omega) (by simp;omega)
   rw [show ((k+1:Nat):Int)=(k:Int)+1 from rfl] at this
   rw [if_neg AO,show l++(128+u % 128) :: Eg f (u / 128)=(l++[128+u % 128])++Eg f (u / 128) by simp]
   rw [h2,h3,hlen,Yn2,Ie (by omega) (by omega),Ygx hu,show (k:Int).toNat=k from rfl,QO]
   exact this
theorem Yiq:Dx.t1 fu=Dx.S1:=rfl
theorem OB (x:Int):Dx x=some (KU x):=by
 have h:=Zcs 10 (Eb x % 18446744073709551616) 0 fu [] (by omega) (by omega) (by omega) (by omega) (by unfold fu;omega) rfl
 rw [AH,AH,Nat.sub_zero,show ((0:Nat):Int)=0 from rfl] at h
 have h1:Dx.S (Dx.l0 Dx.S1 fu) x=some (KU x):=by
  unfold Dx.S
  rw [Ew]
  exact h
 rw [← h1,← Yiq]
 rfl
end Go.AM.Pure
