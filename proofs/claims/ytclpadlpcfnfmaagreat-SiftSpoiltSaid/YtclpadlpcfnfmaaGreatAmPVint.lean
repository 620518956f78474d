import Derived.Test.YtclpadlpcfnfmaaGreatAmPZig
import Derived.Test.YtclpadlpcfnfmaaGreatAmPCell
/- Numbers as bytes: layer 02. -/
namespace Go.AM.Pure
open Go.AM
def K5 (word v:Int) (a w k:Nat):Bool:=if a<=k/\k<a+w then bit v (k-a) else bit word k
theorem Zs1 (word v:Int) (a k:Nat) (hk:a+k<64):
  ((List.range 64).map (K5 word v a k)).set (a+k) (bit v k)=(List.range 64).map (K5 word v a (k+1)):=by
 apply List.ext_getElem?;intro j;rw [List.getElem?_set];by_cases hj:j<64
 ·rw [Q8 (f:=K5 word v a (k+1)) hj];by_cases he:a+k=j
  ·subst he;rw [if_pos rfl,if_pos Ai];unfold K5;rw [if_pos Ad,show a+k-a=k by omega]
  ·rw [if_neg he,Q8 hj];unfold K5;by_cases h1:a<=j/\j<a+k
   ·rw [if_pos h1,if_pos Ad]
   ·rw [if_neg h1,if_neg Ad]
 ·rw [if_neg Ad,List.getElem?_eq_none Ai,List.getElem?_eq_none Ai]
theorem je {word v x:Int} {a w k:Nat} (hx:∀ j,j<64->K5 word v a w j=bit x j) (hk:∀ j,j<64->K5 word v a k j=K5 word v a w j):
  EY ((List.range 64).map (K5 word v a k))=some (IntKind.wrap .i64 x):=by
 apply aP;exact Up λ j hj=>(hk j hj).trans (hx j hj)
theorem Zt1 {word v x:Int} {a w:Nat} (ha:a<64) (hw:w<=64) (hx:∀ j,j<64->K5 word v a w j=bit x j):∀ (d k n:Nat),d=64-k->k<=w->d<n->
  Hf.l0 n (a:Int) (w:Int) (k:Int) ((List.range 64).map (K5 word v a k)) (bitsOf v)=some (IntKind.wrap .i64 x):=by
 intro d;induction d with
 | zero=>
  intro k n hd hk hn;obtain ⟨m,rfl⟩:∃ m,n=m+1:=⟨n-1,Ad⟩;show Hf.S0 (Hf.l0 m) (a:Int) (w:Int) (k:Int) _ (bitsOf v)=_;unfold Hf.S0;have De:k=64:=Ad
  subst De;have hw':w=64:=Ad
  subst hw';rw [show A8 ((64:Nat):Int) 64=false from rfl,OP,je hx (λ _ _=>rfl)];rfl
 | succ d ih=>
  intro k n hd hk hn;obtain ⟨m,rfl⟩:∃ m,n=m+1:=⟨n-1,Ad⟩;show Hf.S0 (Hf.l0 m) (a:Int) (w:Int) (k:Int) _ (bitsOf v)=_;unfold Hf.S0;have h1:A8 (k:Int) 64=true:=Aq Ad;have h5:BC 0 (a:Int)=true:=Aq Ad;have h6:A8 (a:Int) 64=true:=Aq Ad;rw [h1,OP,h5,h6,PR];by_cases qj:k<w
  ·by_cases eP:a+k<64
   ·have h7:A8 (k:Int) (w:Int)=true:=Aq Ad;have h8:A8 (k:Int) (Bt .i64 64 (a:Int))=true:=by rw [UK Ad Ad];exact Aq Ad
    have JA:A7 .i64 (a:Int) (k:Int)=((a+k:Nat):Int):=by rw [Iz Ad Ad];rfl
    have h2:Bf ((a+k:Nat):Int) 64=true:=by rw [KB];exact Aq Ad
    have h3:Bf (k:Int) 64=true:=by rw [KB];exact Aq Ad
    have hs:=ih (k+1) m Ad Ad Ad;rw [show ((k+1:Nat):Int)=(k:Int)+1 from rfl] at hs
    rw [h7,h8,JA,h2,h3,Iz (a:=(k:Int)) Ad Ad,show (k:Int).toNat=k from rfl,show ((a+k:Nat):Int).toNat=a+k from rfl,P1 v Ad,
     Zs1 word v a k eP]
    exact hs
   ·have h7:A8 (k:Int) (w:Int)=true:=Aq Ad;have h8:A8 (k:Int) (Bt .i64 64 (a:Int))=false:=by rw [UK Ad Ad];exact Ax Ad
    rw [h7,h8,je hx (λ j hj=>by
     unfold K5;by_cases h:a<=j/\j<a+k
     ·rw [if_pos h,if_pos Ad]
     ·rw [if_neg h,if_neg Ad])]
    rfl
  ·have h7:A8 (k:Int) (w:Int)=false:=Ax Ad;have De:k=w:=Ad
   subst De;rw [h7,je hx (λ _ _=>rfl)];rfl
theorem Zbt {word v x:Int} {a w:Nat} (ha:a<64) (hw:w<=64) (hx:∀ j,j<64->K5 word v a w j=bit x j):Hf word (a:Int) (w:Int) v=some (IntKind.wrap .i64 x):=by
 have h:=Zt1 ha hw hx (64-0) 0 fu rfl Ad Ae;have h0:(List.range 64).map (K5 word v a 0)=bitsOf word:=by
  apply Up;intro k hk;unfold K5;rw [if_neg Ad]
 rw [h0,show ((0:Nat):Int)=0 from rfl] at h;show Hf.S (Hf.l0 fu) word (a:Int) (w:Int) v=_;unfold Hf.S;rw [Ug,Ug,An,An];exact h
def ES:Nat->Int->List Int
 | 0,_=>[]
 | f+1,u=>if u<128 then [u] else (128+u % 128) :: ES f (u / 128)
theorem Zos (a b:List Int):ofBytes (a++b)=ofBytes a++ofBytes b:=by
 unfold ofBytes;rw [AG];apply Su.1;simp [ByteArray.data_append]
theorem Zu1:∀ (f:Nat) (u:Int) (out:List Int) (n:Nat),0<f->u<128 ^ f->f<n->out.length+f<1000->
  ∀ w,w % 18446744073709551616=u->FP.l0 n w out=some (ofBytes (out++ES f u)):=by
 intro f;induction f with
 | zero=>intro u out n h0;omega
 | succ f ih=>
  intro u out n _ h1 hn To w hw;obtain ⟨m,rfl⟩:∃ m,n=m+1:=⟨n-1,Ad⟩;show FP.S0 (FP.l0 m) w out=_;unfold FP.S0;rw [Zv1,Zxx,An,An,hw];have hu:0<=u:=Ad
  have hu2:u<18446744073709551616:=Ad
  have hl:w % 128=u % 128:=Ad
  have hr:B1 (out.length+1) 1=true:=Aq Ad;rw [hl,hr];unfold ES;by_cases AY:u<128
  ·have h0:u / 128=0:=Ad
   have h2:u % 128=u:=Ad
   have h3:IntKind.wrap .u8 u=u:=by rw [KZ];omega
   rw [h0,h2,h3,if_pos AY];rfl
  ·have h0:A9 (u / 128) 0=false:=Ax Ad;have h3:IntKind.wrap .u8 (A7 .i64 128 (u % 128))=128+u % 128:=by rw [Iz Ad Ad,KZ];omega
   rw [h0,h3,if_neg AY];have h4:u / 128<128 ^ f:=by
    rw [Int.pow_succ] at h1;exact Int.ediv_lt_of_lt_mul Ad h1
   have hf:0<f:=by
    rcases Nat.eq_zero_or_pos f with h | h
    ·subst h;simp at h4;omega
    ·exact h
   have:=ih (u / 128) (out++[128+u % 128]) m hf h4 Ad Ai (u / 128) Ad;rw [AA,List.singleton_append] at this;exact this
def L2 (x:Int):ByteArray:=ofBytes (ES 10 (EL x % 18446744073709551616))
theorem NV {x:Int} (h:BN x):FP x=some (L2 x):=by
 have:=Zu1 10 (EL x % 18446744073709551616) [] fu Ad Ad Ae Ah (EL x) rfl;rw [AS] at this;show FP.S (FP.l0 fu) x=_;unfold FP.S;rw [Zgu h,An];exact this
theorem Xha {u:Int} (h0:0<=u):Fa .u8 (IntKind.wrap .u8 u) 128=128+u % 128:=by
 have key:∀ v:Fin 256,Fa .u8 ((v.val:Nat):Int) 128=128+((v.val:Nat):Int) % 128:=by decide +kernel
 have:=key ⟨(u % 256).toNat,Ad⟩;rw [KZ];have e:(((u % 256).toNat:Nat):Int)=u % 256:=Ad
 simp only at this;rw [e] at this;rw [this];omega
theorem Xof (u:Int):B7 .u64 u 7=u / 128:=by
 unfold B7;show u.fdiv (2 ^ 7)=_;rw [Int.fdiv_eq_ediv_of_nonneg _ Ad];rfl
theorem Zw1:∀ (f:Nat) (u:Int) (k n:Nat) (l:List Int),0<f->0<=u->u<128 ^ f->k+f<=10->f<n->l.length=k->
  D5.l0 D5.S1 n u (k:Int) (l++List.replicate (10-k) 0)=some (ofBytes (l++ES f u)):=by
 intro f;induction f with
 | zero=>intro u k n l h0;omega
 | succ f ih=>
  intro u k n l _ hu h1 hk hn hl;obtain ⟨m,rfl⟩:∃ m,n=m+1:=⟨n-1,Ad⟩;show D5.S0 D5.S1 (D5.l0 D5.S1 m) u (k:Int) _=_;unfold D5.S0;have hlen:(l++List.replicate (10-k) 0).length=10:=Ai
  have h3:Bf (k:Int) 10=true:=by rw [KB];exact Aq Ad
  have RR:∀ x:Int,(l++List.replicate (10-k) 0).set k x=(l++[x])++List.replicate (10-(k+1)) 0:=λ x=>by
   rw [List.set_append_right _ _ Ad,hl,Nat.sub_self,show 10-k=(10-(k+1))+1 by omega,List.replicate_succ,List.set_cons_zero,AA];rfl
  unfold ES;by_cases AY:u<128
  ·have h2:BC 128 u=false:=Ax Ad;rw [h2,if_pos AY];show D5.S1 u (k:Int) _=_;unfold D5.S1;have JA:A7 .i64 (k:Int) 1=((k+1:Nat):Int):=by rw [Iz Ad Ad];rfl
   have h5:CJ 0 ((k+1:Nat):Int) 10=true:=by rw [X1];exact Aq Ad
   have hw:IntKind.wrap .u8 u=u:=by rw [KZ];omega
   have Xia:((l++[u])++List.replicate (10-(k+1)) 0).length=10:=Ai
   rw [h3,hlen,JA,h5,show (k:Int).toNat=k from rfl,show ((k+1:Nat):Int).toNat=k+1 from rfl,hw,RR,Xia,Nat.sub_zero,List.drop_zero,
    List.take_left' Ai]
   rfl
  ·have h2:BC 128 u=true:=Aq Ad;have h4:u / 128<128 ^ f:=by
    rw [Int.pow_succ] at h1;exact Int.ediv_lt_of_lt_mul Ad h1
   have hf:0<f:=by
    rcases Nat.eq_zero_or_pos f with h | h
    ·subst h;simp at h4;omega
    ·exact h
   have:=ih (u / 128) (k+1) m (l++[128+u % 128]) hf Ad h4 Ad Ad Ai;rw [show ((k+1:Nat):Int)=(k:Int)+1 from rfl] at this;rw [if_neg AY,show l++(128+u % 128) :: ES f (u / 128)=(l++[128+u % 128])++ES f (u / 128) by simp];rw [h2,h3,hlen,Xof,Iz Ad Ad,Xha hu,show (k:Int).toNat=k from rfl,RR];exact this
theorem Ym3:D5.t1 fu=D5.S1:=rfl
theorem PL (x:Int):D5 x=some (L2 x):=by
 have h:=Zw1 10 (EL x % 18446744073709551616) 0 fu [] Ad Ad Ad Ad Ae rfl;rw [AS,AS,Nat.sub_zero,show ((0:Nat):Int)=0 from rfl] at h;have h1:D5.S (D5.l0 D5.S1 fu) x=some (L2 x):=by
  unfold D5.S;rw [E6];exact h
 rw [<- h1,<- Ym3];rfl
end Go.AM.Pure
