import Derived.Test.YtclpadlpcfnfmaaGreatAmP18
/- Any bytes are looked through: the law of spoilt blocks. -/
namespace Go.AM.Pure
open Go.AM
theorem Zd1 {S:List (Int×Int)} (hM:DD (-1) S) (hl:S.length<=65536):∃ x,DX S=some (x,0)/\Yv x (Cf S):=by
 obtain ⟨x,h1,_,h3⟩:=xU hM hl (iT S);exact ⟨x,by rw [rE hM hl,h1],h3⟩
theorem Zkx {s:ByteArray} (h:I7 s=some ([],5)) (h2:LU s=some ((0,0,0,0),5)) (x:Int×List (Int×Int)×List Int×List Int) (t:E9):
  Kw s x=some ([],5)/\Dw s x=some (0,0,5)/\(Jc t=true->∃ y,Cv s t=some (y,5)):=by
 have hg:Kw s x=some ([],5):=by
  unfold Kw;rw [h,An];rfl
 refine ⟨hg,su hg Af,λ ht=>?_⟩;unfold Cv Cv.S;rw [Wc,if_pos ht,Cs rfl,Al,h2,An];exact ⟨_,rfl⟩
theorem Zlx {s:ByteArray} {l:List Cell} {h:Int×Int×Int×Int} (k1:I7 s=some (l,0)) (k2:LU s=some (h,0)) (hl:l.length<=64) (BI:∀ c∈l,BN c.2.1) {at_:List (Int×Int)} (hM:DD (-1) at_) {x:Int×List (Int×Int)×List Int×List Int} (hx:Yv x (Cf at_)):
  ∃ c e a b f,Kw s x=some (c,e)/\e≠5/\Dw s x=some (a,b,f)/\f≠5:=by
 have CU:=Q1 hM;have hg:=Ze1 k1 Ad hx CU (λ p hp=>(gA hM hp).1);by_cases ha:(Cf at_).all (λ p=>decide (p<(l.length:Int)))=true
 ·rw [if_pos ha] at hg
  have hs:=Zfv hg k2 (λ c hc=>by
   obtain ⟨p,hp,rfl⟩:=List.mem_map.1 hc;have h0:=(gA hM hp).1;have h1:p<(l.length:Int):=Aw (List.all_eq_true.1 ha p hp);obtain ⟨k,rfl⟩:=Int.eq_ofNat_of_zero_le h0;rw [BE (show k<l.length by omega)]
   exact BI _ (Az _)) (by rw [Av];exact CU)
  by_cases hk:h.1=1
  ·rw [if_pos hk] at hs;exact ⟨_,_,_,_,_,hg,Af,hs,Af⟩
  ·rw [if_neg hk] at hs;exact ⟨_,_,_,_,_,hg,Af,hs,Af⟩
 ·rw [if_neg ha] at hg;exact ⟨_,_,_,_,_,hg,Af,su hg Af,Af⟩
theorem Zjx (s:ByteArray) (t:E9) (at_:List (Int×Int)):fT s t at_=some true:=by
 unfold fT;rw [Cc,Ygv];by_cases pt:(1024:Int)<(s.size:Int)
 ·rw [Bw pt];rfl
 rw [Be,Al];by_cases hs:100<Bg t.2.2.2
 ·rw [Bw hs];rfl
 rw [Be,Al];obtain ⟨b,hb,DE⟩:=Ye3 at_;rw [hb,An];cases b with
 | false=>rfl
 | true=>
  have hc:=(DE rfl).1;rw [Bool.not_true,Al,r7 at_ Ad,An];by_cases hM:DD (-1) at_
  ·obtain ⟨x,Hr,Is⟩:=Zd1 hM Ad;rw [Aq hM,Bool.not_true,Al,Hr,An,Zzt];dsimp only;by_cases Vq:qb s
   ·obtain ⟨l,kind,code,b,hm,BI,hv,rfl⟩:=Vq;obtain ⟨k1,k2,k3⟩:=r8 (vG hm BI hv);obtain ⟨_,p2⟩:=Zmx hm BI hv;obtain ⟨c,e,a,b',f,g1,g2,g3,g4⟩:=Zlx k1 k2 hm.2.1 BI hM Is;have hl:=hm.2.1;rw [g1,g3,p2];by_cases ht:Jc t=true
    ·have hR:Rise (CZ (DL t) 0 l):=by
      rw [<- Ylc (DL t) (0,0,eB) l];exact Ymc _ Ad
     have GF:=P3 (DL t) l 0;obtain ⟨y,h3,_⟩:=Yhv hR Ad;rw [Yiv hm BI hv (Kq (WI hm hv).1) k1 k2 k3 ht,h3,ht,An,An,An,An];dsimp only;rw [Cs rfl,Al,Ci rfl,Fi g2,Fi g4];rfl
    ·rw [xV _ ht,Bool.eq_false_iff.2 ht,An,An,An,An];dsimp only;rw [Cs rfl,Al,Fi g2,Fi g4];rfl
   ·obtain ⟨r,r1,r2⟩:=Ync s Ad;obtain ⟨⟨z,e⟩,t1,t2⟩:=Znx s Ad;have hr:r.2=false:=by
     cases hq:r.2 with
     | false=>rfl
     | true=>
      obtain ⟨l,kind,code,h,hl,BI⟩:=r2 hq;exact absurd (Yf3 hl BI h) Vq
    have ht:z=[]/\e=5:=by
     rcases t2 with ⟨h1,h2⟩ | ⟨_,BI,kind,code,h⟩
     ·exact ⟨h2,h1⟩
     ·exact absurd (Yjv BI h) Vq
    obtain ⟨rfl,rfl⟩:=ht;have k1:I7 s=some ([],5):=by unfold I7;rw [r1,An,hr];rfl
    have k2:LU s=some ((0,0,0,0),5):=by unfold LU;rw [r1,An,hr];rfl
    obtain ⟨n1,n2,n3⟩:=Zkx k1 k2 x t;rw [n1,n2,t1];by_cases ht:Jc t=true
    ·obtain ⟨y,hy⟩:=n3 ht;rw [hy];rfl
    ·rw [xV _ ht,Bool.eq_false_iff.2 ht];rfl
  ·rw [Ay hM];rfl
end Go.AM.Pure
