import Derived.Test.YtlamhllcnbcbbaaGreatAmPZig
import Derived.Test.YtlamhllcnbcbbaaGreatAmPCell
/- Numbers as bytes: layer 02. -/
namespace Go.AM.Pure
open Go.AM
def withB (word v:Int) (a w k:Nat):Bool:=if a≤k∧k<a+w then bit v (k-a) else bit word k
theorem Zk11 (word v:Int) (a k:Nat) (hk:a+k<64):
  ((List.range 64).map (withB word v a k)).set (a+k) (bit v k)=(List.range 64).map (withB word v a (k+1)):=by
 apply List.ext_getElem?
 intro j
 rw [List.getElem?_set]
 by_cases hj:j<64
 ·rw [Zsj (f:=withB word v a (k+1)) hj]
  by_cases he:a+k=j
  ·subst he
   rw [if_pos rfl,if_pos (by simp;omega)]
   unfold withB
   rw [if_pos (by omega),show a+k-a=k by omega]
  ·rw [if_neg he,Zsj hj]
   unfold withB
   by_cases h1:a≤j∧j<a+k
   ·rw [if_pos h1,if_pos (by omega)]
   ·rw [if_neg h1,if_neg (by omega)]
 ·rw [if_neg (by omega),List.getElem?_eq_none (by simp;omega),List.getElem?_eq_none (by simp;omega)]
theorem Zh7 {word v x:Int} {a w k:Nat} (hx:∀ j,j<64→withB word v a w j=bit x j) (hk:∀ j,j<64→withB word v a k j=withB word v a w j):
  Zwb ((List.range 64).map (withB word v a k))=some (IntKind.wrap .i64 x):=by
 apply Ze4
 exact Zrl fun j hj=>(hk j hj).trans (hx j hj)
theorem Zl11 {word v x:Int} {a w:Nat} (ha:a<64) (hw:w≤64) (hx:∀ j,j<64→withB word v a w j=bit x j):∀ (d k n:Nat),d=64-k→k≤w→d<n→
  Zfd.l0 n (a:Int) (w:Int) (k:Int) ((List.range 64).map (withB word v a k)) (bitsOf v)=some (IntKind.wrap .i64 x):=by
 intro d
 induction d with
 | zero=>
  intro k n hd hk hn
  obtain ⟨m,rfl⟩:∃ m,n=m+1:=⟨n-1,by omega⟩
  show Zfd.S0 (Zfd.l0 m) (a:Int) (w:Int) (k:Int) _ (bitsOf v)=_
  unfold Zfd.S0
  have hk':k=64:=by omega
  subst hk'
  have hw':w=64:=by omega
  subst hw'
  rw [show ltI ((64:Nat):Int) 64=false from rfl,Zei,Zh7 hx (fun _ _=>rfl)]
  rfl
 | succ d ih=>
  intro k n hd hk hn
  obtain ⟨m,rfl⟩:∃ m,n=m+1:=⟨n-1,by omega⟩
  show Zfd.S0 (Zfd.l0 m) (a:Int) (w:Int) (k:Int) _ (bitsOf v)=_
  unfold Zfd.S0
  have h1:ltI (k:Int) 64=true:=decide_eq_true (by omega)
  have h5:leI 0 (a:Int)=true:=decide_eq_true (by omega)
  have h6:ltI (a:Int) 64=true:=decide_eq_true (by omega)
  rw [h1,Zei,h5,h6,Zai]
  by_cases hkw:k<w
  ·by_cases hka:a+k<64
   ·have h7:ltI (k:Int) (w:Int)=true:=decide_eq_true (by omega)
    have h8:ltI (k:Int) (subI .i64 64 (a:Int))=true:=by rw [Zbr (by omega) (by omega)];exact decide_eq_true (by omega)
    have hadd:addI .i64 (a:Int) (k:Int)=((a+k:Nat):Int):=by rw [Zmf (by omega) (by omega)];rfl
    have h2:inB ((a+k:Nat):Int) 64=true:=by rw [inB_d];exact decide_eq_true (by omega)
    have h3:inB (k:Int) 64=true:=by rw [inB_d];exact decide_eq_true (by omega)
    have hs:=ih (k+1) m (by omega) (by omega) (by omega)
    rw [show ((k+1:Nat):Int)=(k:Int)+1 from rfl] at hs
    rw [h7,h8,hadd,h2,h3,Zmf (a:=(k:Int)) (by omega) (by omega),show (k:Int).toNat=k from rfl,show ((a+k:Nat):Int).toNat=a+k from rfl,Zxi v (by omega),
     Zk11 word v a k hka]
    exact hs
   ·have h7:ltI (k:Int) (w:Int)=true:=decide_eq_true (by omega)
    have h8:ltI (k:Int) (subI .i64 64 (a:Int))=false:=by rw [Zbr (by omega) (by omega)];exact decide_eq_false (by omega)
    rw [h7,h8,Zh7 hx (fun j hj=>by
     unfold withB
     by_cases h:a≤j∧j<a+k
     ·rw [if_pos h,if_pos (by omega)]
     ·rw [if_neg h,if_neg (by omega)])]
    rfl
  ·have h7:ltI (k:Int) (w:Int)=false:=decide_eq_false (by omega)
   have hk':k=w:=by omega
   subst hk'
   rw [h7,Zh7 hx (fun _ _=>rfl)]
   rfl
theorem Zfg1 {word v x:Int} {a w:Nat} (ha:a<64) (hw:w≤64) (hx:∀ j,j<64→withB word v a w j=bit x j):Zfd word (a:Int) (w:Int) v=some (IntKind.wrap .i64 x):=by
 have h:=Zl11 ha hw hx (64-0) 0 fu rfl (by omega) (by unfold fu;omega)
 have h0:(List.range 64).map (withB word v a 0)=bitsOf word:=by
  apply Zrl
  intro k hk
  unfold withB
  rw [if_neg (by omega)]
 rw [h0,show ((0:Nat):Int)=0 from rfl] at h
 show Zfd.S (Zfd.l0 fu) word (a:Int) (w:Int) v=_
 unfold Zfd.S
 rw [Zmk,Zmk,Option.bind_some,Option.bind_some]
 exact h
def dig:Nat→Int→List Int
 | 0,_=>[]
 | f+1,u=>if u<128 then [u] else (128+u % 128) :: dig f (u / 128)
theorem Zjc1 (a b:List Int):ofBytes (a++b)=ofBytes a++ofBytes b:=by
 unfold ofBytes
 rw [List.map_append]
 apply Zcl.1
 simp [ByteArray.data_append]
theorem Zm11:∀ (f:Nat) (u:Int) (out:List Int) (n:Nat),0<f→u<128 ^ f→f<n→out.length+f<1000→
  ∀ w,w % 18446744073709551616=u→Zxc.l0 n w out=some (ofBytes (out++dig f u)):=by
 intro f
 induction f with
 | zero=>intro u out n h0;omega
 | succ f ih=>
  intro u out n _ h1 hn hout w hw
  obtain ⟨m,rfl⟩:∃ m,n=m+1:=⟨n-1,by omega⟩
  show Zxc.S0 (Zxc.l0 m) w out=_
  unfold Zxc.S0
  rw [Zo11,Zcw1,Option.bind_some,Option.bind_some,hw]
  have hu:0≤u:=by omega
  have hu2:u<18446744073709551616:=by omega
  have hl:w % 128=u % 128:=by omega
  have hr:roomB (out.length+1) 1=true:=decide_eq_true (by omega)
  rw [hl,hr]
  unfold dig
  by_cases hlt:u<128
  ·have h0:u / 128=0:=by omega
   have h2:u % 128=u:=by omega
   have h3:IntKind.wrap .u8 u=u:=by rw [Zth];omega
   rw [h0,h2,h3,if_pos hlt]
   rfl
  ·have h0:eqI (u / 128) 0=false:=decide_eq_false (by omega)
   have h3:IntKind.wrap .u8 (addI .i64 128 (u % 128))=128+u % 128:=by rw [Zmf (by omega) (by omega),Zth];omega
   rw [h0,h3,if_neg hlt]
   have h4:u / 128<128 ^ f:=by
    rw [Int.pow_succ] at h1
    exact Int.ediv_lt_of_lt_mul (by omega) h1
   have hf:0<f:=by
    rcases Nat.eq_zero_or_pos f with h | h
    ·subst h;simp at h4;omega
    ·exact h
   have:=ih (u / 128) (out++[128+u % 128]) m hf h4 (by omega) (by simp;omega) (u / 128) (by omega)
   rw [List.append_assoc,List.singleton_append] at this
   exact this
def Zwi (x:Int):ByteArray:=ofBytes (dig 10 (Zec x % 18446744073709551616))
theorem Zsf {x:Int} (h:in64 x):Zxc x=some (Zwi x):=by
 have:=Zm11 10 (Zec x % 18446744073709551616) [] fu (by omega) (by omega) (by unfold fu;omega) (by simp) (Zec x) rfl
 rw [List.nil_append] at this
 show Zxc.S (Zxc.l0 fu) x=_
 unfold Zxc.S
 rw [Zxh1 h,Option.bind_some]
 exact this
theorem or128 {u:Int} (h0:0≤u):orI .u8 (IntKind.wrap .u8 u) 128=128+u % 128:=by
 have key:∀ v:Fin 256,orI .u8 ((v.val:Nat):Int) 128=128+((v.val:Nat):Int) % 128:=by decide +kernel
 have:=key ⟨(u % 256).toNat,by omega⟩
 rw [Zth]
 have e:(((u % 256).toNat:Nat):Int)=u % 256:=by omega
 simp only at this
 rw [e] at this
 rw [this]
 omega
theorem shr7 (u:Int):shrI .u64 u 7=u / 128:=by
 unfold shrI
 show u.fdiv (2 ^ 7)=_
 rw [Int.fdiv_eq_ediv_of_nonneg _ (by omega)]
 rfl
theorem Zn11:∀ (f:Nat) (u:Int) (k n:Nat) (l:List Int),0<f→0≤u→u<128 ^ f→k+f≤10→f<n→l.length=k→
  Ztb.l0 Ztb.S1 n u (k:Int) (l++List.replicate (10-k) 0)=some (ofBytes (l++dig f u)):=by
 intro f
 induction f with
 | zero=>intro u k n l h0;omega
 | succ f ih=>
  intro u k n l _ hu h1 hk hn hl
  obtain ⟨m,rfl⟩:∃ m,n=m+1:=⟨n-1,by omega⟩
  show Ztb.S0 Ztb.S1 (Ztb.l0 Ztb.S1 m) u (k:Int) _=_
  unfold Ztb.S0
  have hlen:(l++List.replicate (10-k) 0).length=10:=by simp;omega
  have h3:inB (k:Int) 10=true:=by rw [inB_d];exact decide_eq_true (by omega)
  have hset:∀ x:Int,(l++List.replicate (10-k) 0).set k x=(l++[x])++List.replicate (10-(k+1)) 0:=fun x=>by
   rw [List.set_append_right _ _ (by omega),hl,Nat.sub_self,show 10-k=(10-(k+1))+1 by omega,List.replicate_succ,List.set_cons_zero,List.append_assoc]
   rfl
  unfold dig
  by_cases hlt:u<128
  ·have h2:leI 128 u=false:=decide_eq_false (by omega)
   rw [h2,if_pos hlt]
   show Ztb.S1 u (k:Int) _=_
   unfold Ztb.S1
   have hadd:addI .i64 (k:Int) 1=((k+1:Nat):Int):=by rw [Zmf (by omega) (by omega)];rfl
   have h5:inC 0 ((k+1:Nat):Int) 10=true:=by rw [inC_d];exact decide_eq_true (by omega)
   have hw:IntKind.wrap .u8 u=u:=by rw [Zth];omega
   have hlen2:((l++[u])++List.replicate (10-(k+1)) 0).length=10:=by simp;omega
   rw [h3,hlen,hadd,h5,show (k:Int).toNat=k from rfl,show ((k+1:Nat):Int).toNat=k+1 from rfl,hw,hset,hlen2,Nat.sub_zero,List.drop_zero,
    List.take_left' (by simp;omega)]
   rfl
  ·have h2:leI 128 u=true:=decide_eq_true (by omega)
   have h4:u / 128<128 ^ f:=by
    rw [Int.pow_succ] at h1
    exact Int.ediv_lt_of_lt_mul (by omega) h1
   have hf:0<f:=by
    rcases Nat.eq_zero_or_pos f with h | h
    ·subst h;simp at h4;omega
    ·exact h
   have:=ih (u / 128) (k+1) m (l++[128+u % 128]) hf (by omega) h4 (by omega) (by omega) (by simp;omega)
   rw [show ((k+1:Nat):Int)=(k:Int)+1 from rfl] at this
   rw [if_neg hlt,show l++(128+u % 128) :: dig f (u / 128)=(l++[128+u % 128])++dig f (u / 128) by simp]
   rw [h2,h3,hlen,shr7,Zmf (by omega) (by omega),or128 hu,show (k:Int).toNat=k from rfl,hset]
   exact this
theorem Zpc3:Ztb.t1 fu=Ztb.S1:=rfl
theorem Zhh (x:Int):Ztb x=some (Zwi x):=by
 have h:=Zn11 10 (Zec x % 18446744073709551616) 0 fu [] (by omega) (by omega) (by omega) (by omega) (by unfold fu;omega) rfl
 rw [List.nil_append,List.nil_append,Nat.sub_zero,show ((0:Nat):Int)=0 from rfl] at h
 have h1:Ztb.S (Ztb.l0 Ztb.S1 fu) x=some (Zwi x):=by
  unfold Ztb.S
  rw [Zyd]
  exact h
 rw [← h1,← Zpc3]
 rfl
end Go.AM.Pure
