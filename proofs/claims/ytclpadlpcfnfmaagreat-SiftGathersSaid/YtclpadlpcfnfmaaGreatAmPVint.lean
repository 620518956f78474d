import Derived.Test.YtclpadlpcfnfmaaGreatAmPZig
import Derived.Test.YtclpadlpcfnfmaaGreatAmPCell
/- Numbers as bytes: layer 02. -/
namespace Go.AM.Pure
open Go.AM
def Iv (word v:Int) (a w k:Nat):Bool:=if a≤k∧k<a+w then bit v (k-a) else bit word k
theorem tn (word v:Int) (a k:Nat) (hk:a+k<64):
  ((List.range 64).map (Iv word v a k)).set (a+k) (bit v k)=(List.range 64).map (Iv word v a (k+1)):=by
 apply List.ext_getElem?
 intro j
 rw [List.getElem?_set]
 by_cases hj:j<64
 ·rw [IH (f:=Iv word v a (k+1)) hj]
  by_cases he:a+k=j
  ·subst he
   rw [if_pos rfl,if_pos (by simp;omega)]
   unfold Iv
   rw [if_pos (by omega),show a+k-a=k by omega]
  ·rw [if_neg he,IH hj]
   unfold Iv
   by_cases h1:a≤j∧j<a+k
   ·rw [if_pos h1,if_pos (by omega)]
   ·rw [if_neg h1,if_neg (by omega)]
 ·rw [if_neg (by omega),List.getElem?_eq_none (by simp;omega),List.getElem?_eq_none (by simp;omega)]
theorem Vo {word v x:Int} {a w k:Nat} (hx:∀ j,j<64→Iv word v a w j=bit x j) (hk:∀ j,j<64→Iv word v a k j=Iv word v a w j):
  BU ((List.range 64).map (Iv word v a k))=some (IntKind.wrap .i64 x):=by
 apply TM
 exact JX fun j hj=>(hk j hj).trans (hx j hj)
theorem tp {word v x:Int} {a w:Nat} (ha:a<64) (hw:w≤64) (hx:∀ j,j<64→Iv word v a w j=bit x j):∀ (d k n:Nat),d=64-k→k≤w→d<n→
  DR.l0 n (a:Int) (w:Int) (k:Int) ((List.range 64).map (Iv word v a k)) (bitsOf v)=some (IntKind.wrap .i64 x):=by
 intro d
 induction d with
 | zero=>
  intro k n hd hk hn
  obtain ⟨m,rfl⟩:∃ m,n=m+1:=⟨n-1,by omega⟩
  show DR.S0 (DR.l0 m) (a:Int) (w:Int) (k:Int) _ (bitsOf v)=_
  unfold DR.S0
  have hk':k=64:=by omega
  subst hk'
  have hw':w=64:=by omega
  subst hw'
  rw [show ltI ((64:Nat):Int) 64=false from rfl,GZ,Vo hx (fun _ _=>rfl)]
  rfl
 | succ d ih=>
  intro k n hd hk hn
  obtain ⟨m,rfl⟩:∃ m,n=m+1:=⟨n-1,by omega⟩
  show DR.S0 (DR.l0 m) (a:Int) (w:Int) (k:Int) _ (bitsOf v)=_
  unfold DR.S0
  have h1:ltI (k:Int) 64=true:=decide_eq_true (by omega)
  have h5:leI 0 (a:Int)=true:=decide_eq_true (by omega)
  have h6:ltI (a:Int) 64=true:=decide_eq_true (by omega)
  rw [h1,GZ,h5,h6,GN]
  by_cases hkw:k<w
  ·by_cases hka:a+k<64
   ·have h7:ltI (k:Int) (w:Int)=true:=decide_eq_true (by omega)
    have h8:ltI (k:Int) (AT .i64 64 (a:Int))=true:=by rw [Om (by omega) (by omega)];exact decide_eq_true (by omega)
    have hadd:An .i64 (a:Int) (k:Int)=((a+k:Nat):Int):=by rw [Fp (by omega) (by omega)];rfl
    have h2:inB ((a+k:Nat):Int) 64=true:=by rw [Iw];exact decide_eq_true (by omega)
    have h3:inB (k:Int) 64=true:=by rw [Iw];exact decide_eq_true (by omega)
    have hs:=ih (k+1) m (by omega) (by omega) (by omega)
    rw [show ((k+1:Nat):Int)=(k:Int)+1 from rfl] at hs
    rw [h7,h8,hadd,h2,h3,Fp (a:=(k:Int)) (by omega) (by omega),show (k:Int).toNat=k from rfl,show ((a+k:Nat):Int).toNat=a+k from rfl,Ia v (by omega),
     tn word v a k hka]
    exact hs
   ·have h7:ltI (k:Int) (w:Int)=true:=decide_eq_true (by omega)
    have h8:ltI (k:Int) (AT .i64 64 (a:Int))=false:=by rw [Om (by omega) (by omega)];exact decide_eq_false (by omega)
    rw [h7,h8,Vo hx (fun j hj=>by
     unfold Iv
     by_cases h:a≤j∧j<a+k
     ·rw [if_pos h,if_pos (by omega)]
     ·rw [if_neg h,if_neg (by omega)])]
    rfl
  ·have h7:ltI (k:Int) (w:Int)=false:=decide_eq_false (by omega)
   have hk':k=w:=by omega
   subst hk'
   rw [h7,Vo hx (fun _ _=>rfl)]
   rfl
theorem bS {word v x:Int} {a w:Nat} (ha:a<64) (hw:w≤64) (hx:∀ j,j<64→Iv word v a w j=bit x j):DR word (a:Int) (w:Int) v=some (IntKind.wrap .i64 x):=by
 have h:=tp ha hw hx (64-0) 0 fu rfl (by omega) (by unfold fu;omega)
 have h0:(List.range 64).map (Iv word v a 0)=bitsOf word:=by
  apply JX
  intro k hk
  unfold Iv
  rw [if_neg (by omega)]
 rw [h0,show ((0:Nat):Int)=0 from rfl] at h
 show DR.S (DR.l0 fu) word (a:Int) (w:Int) v=_
 unfold DR.S
 rw [Jm,Jm,Option.bind_some,Option.bind_some]
 exact h
def dig:Nat→Int→List Int
 | 0,_=>[]
 | f+1,u=>if u<128 then [u] else (128+u % 128) :: dig f (u / 128)
theorem YD (a b:List Int):ofBytes (a++b)=ofBytes a++ofBytes b:=by
 unfold ofBytes
 rw [List.map_append]
 apply Li.1
 simp [ByteArray.data_append]
theorem tq:∀ (f:Nat) (u:Int) (out:List Int) (n:Nat),0<f→u<128 ^ f→f<n→out.length+f<1000→
  ∀ w,w % 18446744073709551616=u→CG.l0 n w out=some (ofBytes (out++dig f u)):=by
 intro f
 induction f with
 | zero=>intro u out n h0;omega
 | succ f ih=>
  intro u out n _ h1 hn hout w hw
  obtain ⟨m,rfl⟩:∃ m,n=m+1:=⟨n-1,by omega⟩
  show CG.S0 (CG.l0 m) w out=_
  unfold CG.S0
  rw [tv,pN,Option.bind_some,Option.bind_some,hw]
  have hu:0≤u:=by omega
  have hu2:u<18446744073709551616:=by omega
  have hl:w % 128=u % 128:=by omega
  have hr:Bw (out.length+1) 1=true:=decide_eq_true (by omega)
  rw [hl,hr]
  unfold dig
  by_cases hlt:u<128
  ·have h0:u / 128=0:=by omega
   have h2:u % 128=u:=by omega
   have h3:IntKind.wrap .u8 u=u:=by rw [GF];omega
   rw [h0,h2,h3,if_pos hlt]
   rfl
  ·have h0:eqI (u / 128) 0=false:=decide_eq_false (by omega)
   have h3:IntKind.wrap .u8 (An .i64 128 (u % 128))=128+u % 128:=by rw [Fp (by omega) (by omega),GF];omega
   rw [h0,h3,if_neg hlt]
   have h4:u / 128<128 ^ f:=by
    rw [Int.pow_succ] at h1
    exact Int.ediv_lt_of_lt_mul (by omega) h1
   have hf:0<f:=by
    rcases Nat.eq_zero_or_pos f with h | h
    ·subst h;simp at h4;omega
    ·exact h
   have:=ih (u / 128) (out++[128+u % 128]) m hf h4 (by omega) (by simp;omega) (u / 128) (by omega)
   rw [List.append_assoc,List.singleton_append] at this
   exact this
def HQ (x:Int):ByteArray:=ofBytes (dig 10 (Cv x % 18446744073709551616))
theorem FA {x:Int} (h:BZ x):CG x=some (HQ x):=by
 have:=tq 10 (Cv x % 18446744073709551616) [] fu (by omega) (by omega) (by unfold fu;omega) (by simp) (Cv x) rfl
 rw [List.nil_append] at this
 show CG.S (CG.l0 fu) x=_
 unfold CG.S
 rw [dN h,Option.bind_some]
 exact this
theorem Zwb1 {u:Int} (h0:0≤u):orI .u8 (IntKind.wrap .u8 u) 128=128+u % 128:=by
 have key:∀ v:Fin 256,orI .u8 ((v.val:Nat):Int) 128=128+((v.val:Nat):Int) % 128:=by decide +kernel
 have:=key ⟨(u % 256).toNat,by omega⟩
 rw [GF]
 have e:(((u % 256).toNat:Nat):Int)=u % 256:=by omega
 simp only at this
 rw [e] at this
 rw [this]
 omega
theorem Zjg1 (u:Int):BG .u64 u 7=u / 128:=by
 unfold BG
 show u.fdiv (2 ^ 7)=_
 rw [Int.fdiv_eq_ediv_of_nonneg _ (by omega)]
 rfl
theorem tu:∀ (f:Nat) (u:Int) (k n:Nat) (l:List Int),0<f→0≤u→u<128 ^ f→k+f≤10→f<n→l.length=k→
  BV.l0 BV.S1 n u (k:Int) (l++List.replicate (10-k) 0)=some (ofBytes (l++dig f u)):=by
 intro f
 induction f with
 | zero=>intro u k n l h0;omega
 | succ f ih=>
  intro u k n l _ hu h1 hk hn hl
  obtain ⟨m,rfl⟩:∃ m,n=m+1:=⟨n-1,by omega⟩
  show BV.S0 BV.S1 (BV.l0 BV.S1 m) u (k:Int) _=_
  unfold BV.S0
  have hlen:(l++List.replicate (10-k) 0).length=10:=by simp;omega
  have h3:inB (k:Int) 10=true:=by rw [Iw];exact decide_eq_true (by omega)
  have hset:∀ x:Int,(l++List.replicate (10-k) 0).set k x=(l++[x])++List.replicate (10-(k+1)) 0:=fun x=>by
   rw [List.set_append_right _ _ (by omega),hl,Nat.sub_self,show 10-k=(10-(k+1))+1 by omega,List.replicate_succ,List.set_cons_zero,List.append_assoc]
   rfl
  unfold dig
  by_cases hlt:u<128
  ·have h2:leI 128 u=false:=decide_eq_false (by omega)
   rw [h2,if_pos hlt]
   show BV.S1 u (k:Int) _=_
   unfold BV.S1
   have hadd:An .i64 (k:Int) 1=((k+1:Nat):Int):=by rw [Fp (by omega) (by omega)];rfl
   have h5:inC 0 ((k+1:Nat):Int) 10=true:=by rw [cD];exact decide_eq_true (by omega)
   have hw:IntKind.wrap .u8 u=u:=by rw [GF];omega
   have hlen2:((l++[u])++List.replicate (10-(k+1)) 0).length=10:=by simp;omega
   rw [h3,hlen,hadd,h5,show (k:Int).toNat=k from rfl,show ((k+1:Nat):Int).toNat=k+1 from rfl,hw,hset,hlen2,Nat.sub_zero,List.drop_zero,
    List.take_left' (by simp;omega)]
   rfl
  ·have h2:leI 128 u=true:=decide_eq_true (by omega)
   have h4:u / 128<128 ^ f:=by
    rw [Int.pow_succ] at h1
    exact Int.ediv_lt_of_lt_mul (by omega) h1
   have hf:0<f:=by
    rcases Nat.eq_zero_or_pos f with h | h
    ·subst h;simp at h4;omega
    ·exact h
   have:=ih (u / 128) (k+1) m (l++[128+u % 128]) hf (by omega) h4 (by omega) (by omega) (by simp;omega)
   rw [show ((k+1:Nat):Int)=(k:Int)+1 from rfl] at this
   rw [if_neg hlt,show l++(128+u % 128) :: dig f (u / 128)=(l++[128+u % 128])++dig f (u / 128) by simp]
   rw [h2,h3,hlen,Zjg1,Fp (by omega) (by omega),Zwb1 hu,show (k:Int).toNat=k from rfl,hset]
   exact this
theorem Ze4:BV.t1 fu=BV.S1:=rfl
theorem Gr (x:Int):BV x=some (HQ x):=by
 have h:=tu 10 (Cv x % 18446744073709551616) 0 fu [] (by omega) (by omega) (by omega) (by omega) (by unfold fu;omega) rfl
 rw [List.nil_append,List.nil_append,Nat.sub_zero,show ((0:Nat):Int)=0 from rfl] at h
 have h1:BV.S (BV.l0 BV.S1 fu) x=some (HQ x):=by
  unfold BV.S
  rw [Dj]
  exact h
 rw [← h1,← Ze4]
 rfl
end Go.AM.Pure
