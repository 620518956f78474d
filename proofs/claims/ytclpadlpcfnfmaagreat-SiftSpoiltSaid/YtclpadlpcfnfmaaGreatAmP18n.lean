import Derived.Test.YtclpadlpcfnfmaaGreatAmP18
/- Any bytes are looked through: the law of spoilt blocks. -/
namespace Go.AM.Pure
open Go.AM
theorem Ze1 {S:List (Int×Int)} (hM:DD (-1) S) (hl:S.length<=65536):∃ x,DX S=some (x,0)/\Ys x (Cf S):=by
 obtain ⟨x,h1,_,h3⟩:=xU hM hl (iS S);exact ⟨x,by rw [rB hM hl,h1],h3⟩
theorem Zlx {s:ByteArray} (h:I7 s=some ([],5)) (h2:LS s=some ((0,0,0,0),5)) (x:Int×List (Int×Int)×List Int×List Int) (t:E9):
  Ku s x=some ([],5)/\Dw s x=some (0,0,5)/\(Jc t=true->∃ y,Cv s t=some (y,5)):=by
 have hg:Ku s x=some ([],5):=by
  unfold Ku;rw [h,An];rfl
 refine ⟨hg,sn hg Af,λ ht=>?_⟩;unfold Cv Cv.S;rw [Wb,if_pos ht,Cs rfl,Al,h2,An];exact ⟨_,rfl⟩
theorem Zmx {s:ByteArray} {l:List Cell} {h:Int×Int×Int×Int} (k1:I7 s=some (l,0)) (k2:LS s=some (h,0)) (hl:l.length<=64) (BH:∀ c∈l,BN c.2.1) {at_:List (Int×Int)} (hM:DD (-1) at_) {x:Int×List (Int×Int)×List Int×List Int} (hx:Ys x (Cf at_)):
  ∃ c e a b f,Ku s x=some (c,e)/\e≠5/\Dw s x=some (a,b,f)/\f≠5:=by
 have CT:=Q1 hM;have hg:=Zf1 k1 Ad hx CT (λ p hp=>(gz hM hp).1);by_cases ha:(Cf at_).all (λ p=>decide (p<(l.length:Int)))=true
 ·rw [if_pos ha] at hg
  have hs:=Zgv hg k2 (λ c hc=>by
   obtain ⟨p,hp,rfl⟩:=List.mem_map.1 hc;have h0:=(gz hM hp).1;have h1:p<(l.length:Int):=Az (List.all_eq_true.1 ha p hp);obtain ⟨k,rfl⟩:=Int.eq_ofNat_of_zero_le h0;rw [BE (show k<l.length by omega)]
   exact BH _ (Ay _)) (by rw [Av];exact CT)
  by_cases hk:h.1=1
  ·rw [if_pos hk] at hs;exact ⟨_,_,_,_,_,hg,Af,hs,Af⟩
  ·rw [if_neg hk] at hs;exact ⟨_,_,_,_,_,hg,Af,hs,Af⟩
 ·rw [if_neg ha] at hg;exact ⟨_,_,_,_,_,hg,Af,sn hg Af,Af⟩
theorem Zkx (s:ByteArray) (t:E9) (at_:List (Int×Int)):fS s t at_=some true:=by
 unfold fS;rw [Cc,Yhv];by_cases pr:(1024:Int)<(s.size:Int)
 ·rw [Bw pr];rfl
 rw [Be,Al];by_cases hs:100<Bg t.2.2.2
 ·rw [Bw hs];rfl
 rw [Be,Al];obtain ⟨b,hb,DE⟩:=Yf3 at_;rw [hb,An];cases b with
 | false=>rfl
 | true=>
  have hc:=(DE rfl).1;rw [Bool.not_true,Al,rX at_ Ad,An];by_cases hM:DD (-1) at_
  ·obtain ⟨x,Hr,Is⟩:=Ze1 hM Ad;rw [Aq hM,Bool.not_true,Al,Hr,An,Zau];dsimp only;by_cases Vq:qa s
   ·obtain ⟨l,kind,code,b,hm,BH,hv,rfl⟩:=Vq;obtain ⟨k1,k2,k3⟩:=rY (vG hm BH hv);obtain ⟨_,p2⟩:=Znx hm BH hv;obtain ⟨c,e,a,b',f,g1,g2,g3,g4⟩:=Zmx k1 k2 hm.2.1 BH hM Is;have hl:=hm.2.1;rw [g1,g3,p2];by_cases ht:Jc t=true
    ·have hR:Rise (CZ (DL t) 0 l):=by
      rw [<- Ymc (DL t) (0,0,eB) l];exact Ync _ Ad
     have GD:=P3 (DL t) l 0;obtain ⟨y,h3,_⟩:=Yiv hR Ad;rw [Yjv hm BH hv (Ko (WG hm hv).1) k1 k2 k3 ht,h3,ht,An,An,An,An];dsimp only;rw [Cs rfl,Al,Ci rfl,Fh g2,Fh g4];rfl
    ·rw [xV _ ht,Bool.eq_false_iff.2 ht,An,An,An,An];dsimp only;rw [Cs rfl,Al,Fh g2,Fh g4];rfl
   ·obtain ⟨r,r1,r2⟩:=Yoc s Ad;obtain ⟨⟨z,e⟩,t1,t2⟩:=Zox s Ad;have hr:r.2=false:=by
     cases hq:r.2 with
     | false=>rfl
     | true=>
      obtain ⟨l,kind,code,h,hl,BH⟩:=r2 hq;exact absurd (Yg3 hl BH h) Vq
    have ht:z=[]/\e=5:=by
     rcases t2 with ⟨h1,h2⟩ | ⟨_,BH,kind,code,h⟩
     ·exact ⟨h2,h1⟩
     ·exact absurd (Ykv BH h) Vq
    obtain ⟨rfl,rfl⟩:=ht;have k1:I7 s=some ([],5):=by unfold I7;rw [r1,An,hr];rfl
    have k2:LS s=some ((0,0,0,0),5):=by unfold LS;rw [r1,An,hr];rfl
    obtain ⟨n1,n2,n3⟩:=Zlx k1 k2 x t;rw [n1,n2,t1];by_cases ht:Jc t=true
    ·obtain ⟨y,hy⟩:=n3 ht;rw [hy];rfl
    ·rw [xV _ ht,Bool.eq_false_iff.2 ht];rfl
  ·rw [Ax hM];rfl
end Go.AM.Pure
