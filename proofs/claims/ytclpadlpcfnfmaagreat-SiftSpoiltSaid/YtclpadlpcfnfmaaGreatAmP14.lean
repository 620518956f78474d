import Derived.Test.YtclpadlpcfnfmaaGreatAmP13w
section
/- The document's Takes of packed words, of plain numbers, of runs and of frames. -/
namespace Go.AM.Pure
open Go.AM
theorem Zmt (s:ByteArray) {k w:Nat} (hw:w<=64) (hk:k<=65536) (Ei:(k+1)*w<=8*s.size) (hs:s.size<=1000000):HM s (k:Int) (w:Int)=some (Ga s k w):=by
 have hb:k*w<=65536*64:=Nat.mul_le_mul hk hw;have e:(k:Int)*(w:Int)=((k*w:Nat):Int):=by simp
 rw [Nat.add_mul] at Ei;have main:∀ (d i n:Nat),d=w-i->i<=w->d<n->HM.l0 n s (k:Int) (w:Int) (IntKind.wrap .i64 (numOf ((List.range i).map λ j=>sb s (k*w+j)))) (i:Int)=some (Ga s k w):=by
  intro d;induction d with
  | zero=>
   intro i n hd hi hn;obtain ⟨n,rfl⟩:=Aa n;have:i=w:=Ad
   subst this;show HM.S0 _ _ _ _ _ _=_;unfold HM.S0;rw [Be,Al];rfl
  | succ d ih=>
   intro i n hd hi hn;obtain ⟨n,rfl⟩:=Aa n;have AY:i<w:=Ad
   have FY:=Lj ((List.range i).map λ j=>sb s (k*w+j));rw [Av,List.length_range] at FY;have hp:(2:Int) ^ i<=2 ^ 63:=by exact_mod_cast Nat.pow_le_pow_right (n:=2) Ad (show i<=63 by omega)
   have MW:IntKind.wrap .i64 (numOf ((List.range i).map λ j=>sb s (k*w+j)))=numOf ((List.range i).map λ j=>sb s (k*w+j)):=FH Ad;have NK:=ih (i+1) n Ad Ad Ad;rw [List.range_succ,AG,List.map_singleton,Wq,Av,List.length_range] at NK;show HM.S0 (HM.l0 n) _ _ _ _ _=_;unfold HM.S0;have Ii:=Jm s (((k*w+i) / 8:Nat):Int);rw [Bw,Ak,Kv (by rw [e];omega),e,Bk,show ((k*w:Nat):Int)+(i:Int)=((k*w+i:Nat):Int) by omega,YB _ Ad,eg,Cc,Bq,Ak,CH,Ak,FH,oa _ _ Ad,CH,Ak,Bk,MW,xZ Ad FY.1 FY.2];show (bif sb s (k*w+i) then _ else _)=_;cases KG:sb s (k*w+i) with
   | true=>rw [KG,if_pos rfl] at NK;exact NK
   | false=>rw [KG,if_neg Af,Int.add_zero,MW] at NK;exact NK
 exact main w 0 fu Ad Ad Ae
abbrev J1 (s:ByteArray) (n w:Nat):List Int:=(List.range n).map λ k=>Ga s k w
theorem Yrd (s:ByteArray) (k:Nat) {w:Nat} (hw:w<=64):Ga s k w % 18446744073709551616<2 ^ w:=by
 unfold Ga;have FY:=Lj ((List.range w).map λ i=>sb s (k*w+i));rw [Av,List.length_range] at FY;have hp:(2:Int) ^ w<=2 ^ 64:=by exact_mod_cast Nat.pow_le_pow_right (n:=2) Ad hw
 rw [<- Nn] at hp;have:∀ x:Int,IntKind.wrap .i64 x % 18446744073709551616=x % 18446744073709551616:=λ x=>by rw [KW];split <;> omega
 rw [this,Int.emod_eq_of_lt FY.1 Ad];exact FY.2
theorem Ydw {l:List Int} (hl:l.length<=65536) {w:Nat} (h:∀ x∈l,x % 18446744073709551616<2 ^ w):CF l<=w:=by
 obtain ⟨_,_,h3⟩:=GU l hl;rcases h3.2 with h0 | ⟨x,hx,hle⟩
 ·omega
 ·have:=h x hx;have h4:(2:Int) ^ (CF l-1)<2 ^ w:=Ad
  have:=Wp h4;omega
theorem uo (s:ByteArray) (k:Nat) {w i:Nat} (hw:w<=64) (hi:i<w):bit (Ga s k w) i=sb s (k*w+i):=by
 unfold Ga;rw [P4 _ Ad,il,AK,List.getElem?_map,List.getElem?_range hi];rfl
theorem Zgw (s:ByteArray) {n w:Nat} (hw:w<=64):Ge (J1 s n w) w=(List.range (n*w)).map (sb s):=by
 apply List.ext_getElem
 ·rw [Re,Av,List.length_range,Av,List.length_range]
 ·intro p h1 h2;rw [Av,List.length_range] at h2;have VQ:0<w:=by
   rcases Nat.eq_zero_or_pos w with h | h
   ·subst h;omega
   ·exact h
  have hk:p / w<n:=(Nat.div_lt_iff_lt_mul VQ).2 h2;have hi:p % w<w:=Nat.mod_lt _ VQ;have hp:p / w*w+p % w=p:=by rw [Nat.mul_comm];exact Nat.div_add_mod p w
  have hg:=jg (w:=w) (J1 s n w) (p / w) (p % w) (by rw [Av,List.length_range];exact hk) hi;rw [hp,AD h1,List.getElem_map,List.getElem_range,uo s _ hw hi,hp] at hg;rw [List.getElem_map,List.getElem_range];exact Option.some.inj hg
theorem sB (s:ByteArray) {n w j:Nat} (hw:w<=64) (hj:j<(n*w+7) / 8):(CR (J1 s n w) w)[j]? = some (byteAt s (j:Int) % 2 ^ (min 8 (n*w-8*j))):=by
 unfold CR;rw [Av,List.length_range,SB _ _ _ hj,Zgw s hw,<- Uh];congr 2;apply List.ext_getElem
 ·rw [Ar,List.length_drop,Av,List.length_range,Av,List.length_range]
 ·intro i h1 h2;rw [Av,List.length_range] at h2;rw [List.getElem_take,List.getElem_drop,List.getElem_map,List.getElem_range,List.getElem_map,List.getElem_range];unfold sb;rw [show (8*j+i) / 8=j by omega,show (8*j+i) % 8=i by omega]
theorem yl (s:ByteArray) {n w:Nat} (hw:w<=64) (hs:s.size=(n*w+7) / 8):ofBytes (CR (J1 s n w) w)=s↔(n*w % 8=0\/byteAt s ((s.size-1:Nat):Int)<2 ^ (n*w % 8)):=by
 have CT:(CR (J1 s n w) w).length=s.size:=by rw [I8,Av,List.length_range,hs]
 constructor
 ·intro h;rcases Nat.eq_zero_or_pos (n*w % 8) with h0 | h0
  ·exact .inl h0
  ·right;have h1:=KS s (s.size-1) Ad;have h2:=sB s (n:=n) (j:=s.size-1) hw Ad;rw [<- h,Zuv,h] at h1;rw [h1,show min 8 (n*w-8*(s.size-1))=n*w % 8 by omega] at h2;have h3:=Int.emod_lt_of_pos (byteAt s ((s.size-1:Nat):Int)) (Fe (n*w % 8));rw [<- Option.some.inj h2] at h3;exact h3
 ·intro h;rw [<- LQ s];congr 1
  conv=>lhs;rw [LQ s]
  apply List.ext_getElem?;intro j;rcases Nat.lt_or_ge j s.size with hj | hj
  ·rw [sB s hw Ad,KS s j hj];congr 1;have hb:=Jm s (j:Int);refine Int.emod_eq_of_lt hb.1 ?_;rcases Nat.lt_or_ge (8*j+7) (n*w) with hf | hf
   ·rw [show min 8 (n*w-8*j)=8 by omega];exact hb.2
   ·have:j=s.size-1:=Ad
    rw [show min 8 (n*w-8*j)=n*w % 8 by omega,this];rcases h with h | h
    ·omega
    ·exact h
  ·rw [List.getElem?_eq_none Ad,List.getElem?_eq_none (by rw [C6];omega)]
theorem Sg (s:ByteArray) {n:Int} (w:Int) (h0:0<=n) (hn:n<=65536) (hs:s.size<=1000000):DI s n w=Dd s n w:=by
 obtain ⟨n,rfl⟩:∃ k:Nat,n=k:=⟨n.toNat,Ad⟩;show DI.S (DI.l0 (DI.t1 fu) fu) s _ w=_;unfold DI.S;by_cases hw:0<=w/\w<=64
 ·obtain ⟨w,rfl⟩:∃ v:Nat,w=v:=⟨w.toNat,Ad⟩;have hw':w<=64:=Ad
  have hb:n*w<=65536*64:=Nat.mul_le_mul Ad hw';rw [gn s hw' Ad,Be,Al,Be,Al,Be,Al,Be,Al,rJ _ _ Ad hw',Cc];by_cases BL:s.size=(n*w+7) / 8
  ·rw [Cs,Al,if_pos BL];have main:∀ (d i m:Nat),d=n-i->i<=n->d<m->DI.l0 (DI.t1 fu) m s (n:Int) (w:Int) (J1 s i w) (i:Int)=DI.S1 s (w:Int) (J1 s n w):=by
    intro d;induction d with
    | zero=>
     intro i m hd hi hm;obtain ⟨m,rfl⟩:=Aa m;have:i=n:=Ad
     subst this;show DI.S0 DI.S1 _ _ _ _ _ _=_;unfold DI.S0;rw [Be,Al]
    | succ d ih=>
     intro i m hd hi hm;obtain ⟨m,rfl⟩:=Aa m;show DI.S0 _ (DI.l0 (DI.t1 fu) m) _ _ _ _ _=_;unfold DI.S0;have hf:(i+1)*w<=n*w:=AT _ Ad;rw [Bw,Ak,Zmt s hw' Ad Ad Ad,An,Cp (by rw [Av,List.length_range];omega),Ak,Bk];have:=ih (i+1) m Ad Ad Ad;rw [show J1 s (i+1) w=J1 s i w++[Ga s i w] by unfold J1;rw [List.range_succ,AG];rfl] at this;exact this
   have h1:=main n 0 fu Ad Ad Ae;refine Eq.trans h1 ?_;unfold DI.S1;have hlen:(J1 s n w).length=n:=by rw [Av,List.length_range]
   have Jg:CF (J1 s n w)<=w:=Ydw Ad λ x hx=>by
    obtain ⟨k,_,rfl⟩:=List.mem_map.1 hx;exact Yrd s k hw'
   rw [Wh _ hw' Ad Jg,An];dsimp only;by_cases hp:n*w % 8=0\/byteAt s ((s.size-1:Nat):Int)<2 ^ (n*w % 8)
   ·rw [Gp ((yl s hw' BL).2 hp),if_pos hp];rfl
   ·rw [K6 λ h=>hp ((yl s hw' BL).1 h),if_neg hp];rfl
  ·rw [Fh,Ak,if_neg BL]
 ·show _=Dd.S (Dd.t0 fu) s _ w;unfold Dd.S;by_cases VQ:w<0
  ·rw [Bw VQ,Ak,Ak]
  ·rw [Be,Al,Al,Bw,Ak,Ak]
theorem sa {o0:ByteArray->Int->List Int->Int->Option (List Int×Int)} {s:ByteArray} {n:Int} {l:List Int} {i:Nat} (hi:8*i+8<=s.size) (hs:s.size<=1000000) (hl:l.length<=100000):∀ (d j m:Nat) (x:Int),j+d=8->d<m->BN x->(∀ p,p<64->bit x p=(decide (p<8*j) && sb s (64*i+8*(8-j)+p)))->
  Dz.l1 o0 m s n l (i:Int) x (7-(j:Int))=o0 s n (l++[Ga s i 64]) ((i:Int)+1)
 | 0,j,m,x,h,hm,hx,hb=>by
  obtain ⟨m,rfl⟩:=Aa m;have:j=8:=Ad
  subst this;show Dz.S1 _ _ _ _ _ _ _ _=_;unfold Dz.S1;have e:x=Ga s i 64:=by
   have h1:x % 18446744073709551616=Ga s i 64 % 18446744073709551616:=Sn λ p hp=>by
    rw [hb p hp,uo s i Ad hp,Aq Ad,AH,show 64*i+8*(8-8)+p=i*64+p by omega]
   have h2:=P0 x;rw [h1,P0,M7 hx] at h2;rw [<- h2];unfold Ga;rw [M7 (Kr _)]
  rw [Gc,Al,Cp Ad,Ak,Bk,e]
 | d+1,j,m,x,h,hm,hx,hb=>by
  obtain ⟨m,rfl⟩:=Aa m;show Dz.S1 o0 (Dz.l1 o0 m) _ _ _ _ _ _=_;unfold Dz.S1;have Ii:=Jm s ((8*i+(7-j):Nat):Int);rw [CH,Ak,Kv,Bk,show 8*(i:Int)+(7-(j:Int))=((8*i+(7-j):Nat):Int) by omega,Bq (by rw [Cc];omega),Ak,FH,CA,show 7-(j:Int)-1=7-((j+1:Nat):Int) by omega];refine sa hi hs hl d (j+1) m _ Ad Ad (Kr _) λ p hp=>?_
  have CL:EN .i64 x 8=IntKind.wrap .i64 (x*2 ^ 8):=rfl;rw [vR _ _ hp,CL,P4 _ hp,WS];have KG:bit (byteAt s ((8*i+(7-j):Nat):Int)) p=(decide (p<8) && bit (byteAt s ((8*i+(7-j):Nat):Int)) p):=by
   have:=vQ (byteAt s ((8*i+(7-j):Nat):Int)) 8 p Ii.1;rw [show (2:Int) ^ 8=256 from rfl,Int.emod_eq_of_lt Ii.1 Ii.2] at this;exact this
  rcases Nat.lt_or_ge p 8 with h8 | h8
  ·rw [Ax Ad,Bool.false_and,Bool.false_or,Aq Ad,AH];unfold sb;rw [show (64*i+8*(8-(j+1))+p) / 8=8*i+(7-j) by omega,show (64*i+8*(8-(j+1))+p) % 8=p by omega]
  ·rw [KG,Ax (show ¬ p<8 by omega),Bool.false_and,Bool.or_false,Aq h8,AH,hb _ Ad,show 64*i+8*(8-j)+(p-8)=64*i+8*(8-(j+1))+p by omega];congr 1;by_cases hq:p<8*(j+1)
   ·rw [Aq hq,Aq Ad]
   ·rw [Ax hq,Ax Ad]
theorem Zwr (s:ByteArray) (n:Int) (hs:s.size<=65536):Dz s n=some (if 0<=n/\(s.size:Int)=8*n then ((List.range n.toNat).map λ k=>Ga s k 64,0) else ([],20)):=by
 show Dz.S (Dz.l0 fu) s n=_;unfold Dz.S;by_cases hn:0<=n/\(s.size:Int)=8*n
 ·rw [if_pos hn];obtain ⟨k,rfl⟩:∃ k:Nat,n=k:=⟨n.toNat,Ad⟩;rw [Be,Al,Cc,Be,Al,Kv,Cs,Al,Int.toNat_natCast];have main:∀ (d i m:Nat),d=k-i->i<=k->20<m->Dz.l0 (m+d) s (k:Int) (J1 s i 64) (i:Int)=some (J1 s k 64,0):=by
   intro d;induction d with
   | zero=>
    intro i m hd hi hm;obtain ⟨m,rfl⟩:=Aa m;have:i=k:=Ad
    subst this;show Dz.S0 _ _ _ _ _=_;unfold Dz.S0;rw [Be,Al]
   | succ d ih=>
    intro i m hd hi hm;show Dz.S0 (Dz.l1 (Dz.l0 (m+d)) (m+d)) _ _ _ _=_;unfold Dz.S0;rw [Bw,Ak];have h1:=sa (o0:=Dz.l0 (m+d)) (s:=s) (n:=(k:Int)) (l:=J1 s i 64) (i:=i) Ad Ad (by rw [Av,List.length_range];omega) 8 0 (m+d) 0 rfl Ad Rt (λ p hp=>by rw [Ax Ad,Bool.false_and];unfold bit;simp);rw [show (7:Int)-((0:Nat):Int)=7 from rfl] at h1;rw [h1];have:=ih (i+1) m Ad Ad hm;rw [show J1 s (i+1) 64=J1 s i 64++[Ga s i 64] by unfold J1;rw [List.range_succ,AG];rfl] at this;exact this
  have:=main k 0 (fu-k) Ad Ad Ae;rw [show fu-k+k=fu by unfold fu;omega] at this;exact this
 ·rw [if_neg hn,Cc];by_cases h0:n<0
  ·rw [Bw h0,Ak]
  ·rw [Be,Al];by_cases h1:(s.size:Int)<n
   ·rw [Bw h1,Ak]
   ·rw [Be,Al,Kv,Fh,Ak]
theorem Zu2 (o:List C2) (h:Qr o):Br (EZ o) λ b=>b=true↔Df 0 none o:=by
 have Gg:=h.KE;have hl:=h.1;have main:∀ (d i n:Nat),d=o.length-i->i<=o.length->d<n->Df 0 none (o.take i)->Br (EZ.l0 n o ((BQ (o.take i)).length:Int) (i:Int)) λ b=>b=true↔Df 0 none o:=by
  intro d;induction d with
  | zero=>
   intro i n hd hi hn hk;obtain ⟨n,rfl⟩:=Aa n;show Br (EZ.S0 _ _ _ _) _;unfold EZ.S0;have:i=o.length:=Ad
   subst this;rw [AB] at hk;rw [Ba];exact B6 (λ _=>by omega) λ _=>Bp ⟨λ _=>hk,λ _=>rfl⟩
  | succ d ih=>
   intro i n hd hi hn hk;obtain ⟨n,rfl⟩:=Aa n;have AY:i<o.length:=Ad
   obtain ⟨k1,k2⟩:=h.2 i AY;have k3:=jj AY;have k4:=tj o (i+1);show Br (EZ.S0 (EZ.l0 n) _ _ _) _;unfold EZ.S0;rw [Ba,BE AY,CA,Bk (a:=((BQ (o.take i)).length:Int)) Ad,Bk (a:=(i:Int)) Ad,CA];have go:(0<i->o[i].1≠(o[i-1]'Ad).1)->Br (EZ.l0 n o (((BQ (o.take i)).length:Int)+o[i].2.2) ((i:Int)+1)) λ b=>b=true↔Df 0 none o:=λ Cg=>by
    have:=ih (i+1) n Ad Ad Ad (vZ AY h hk Cg);rw [k3] at this;rw [show ((BQ (o.take i)).length:Int)+o[i].2.2=(((BQ (o.take i)).length+o[i].2.2.toNat:Nat):Int) by omega];exact this
   refine B6 (λ _=>CW Ad (EA (λ e=>absurd k1 e) λ _=>CW Ad (B6 (λ _=>by omega) λ _=>CW Ad (B6 (λ _=>by omega) λ _=>B6 (λ h0=>CW Ad (CW Ad ?_)) λ h0=>CW Ad (go λ h1=>by omega))))) λ _=>by omega
   have JB:i-1<o.length:=Ad
   rw [show (i:Int)-1=((i-1:Nat):Int) by omega,BE JB];refine Fq (λ he=>Bp ⟨(λ h=>by cases h),λ B3=>?_⟩) λ Cg=>CW Ad (go λ _=>Cg)
   have h3:=(Qb B3 AY).2.2.1;rw [tk Ad Ad] at h3;exact absurd (by rw [he]) h3
 exact main o.length 0 fu Ad Ad Ae trivial
theorem gh (s:ByteArray) {n:Int} (h0:0<=n) (hn:n<=65536) (hs:s.size<=65536):DW s n=Cw s n:=by
 have fin:∀ o:List C2,Qr o->DW.S1 n o ((BQ o).length:Int)=Cw.S1 n o ((BQ o).length:Int):=λ o hq=>by
  obtain ⟨b,b1,b2⟩:=Zu2 o hq;obtain ⟨⟨c,c'⟩,c1,c2⟩:=iy o hq;unfold DW.S1 Cw.S1;rw [b1,c1,An,An];dsimp only;by_cases B3:Df 0 none o
  ·have:=Zv o B3 hq.1;rw [c1] at this;cases this;rw [b2.2 B3];rfl
  ·have e1:b=false:=by
    cases b with
    | false=>rfl
    | true=>exact absurd (b2.1 rfl) B3
   have e2:c'=false:=by
    cases c' with
    | false=>rfl
    | true=>exact absurd (c2 rfl).1 B3
   rw [e1,e2];cases BK ((BQ o).length:Int) n <;> rfl
 have main:∀ (m k k2 a:Nat) (o:List C2),s.size-a<=m->a<=s.size->m<k->m<k2->Qr o->((BQ o).length:Int)<=n->DW.l0 (DW.t1 fu) k s n o (a:Int) ((BQ o).length:Int)=Cw.l0 (Cw.t1 fu) k2 (cutS s (a:Int) (s.size:Int)) n o ((BQ o).length:Int):=by
  intro m;induction m with
  | zero=>
   intro k k2 a o hm ha hk LB hq OD;obtain ⟨k,rfl⟩:=Aa k;obtain ⟨k2,rfl⟩:=Aa k2;show DW.S0 DW.S1 _ _ _ _ _ _=Cw.S0 Cw.S1 _ _ _ _ _;unfold DW.S0 Cw.S0;have hc:=Sw s a s.size (Au _);rw [Cc,Be,Al,Gp (Gx.2 Ad),Bool.not_true,Al,fin o hq]
  | succ m ih=>
   intro k k2 a o hm ha hk LB hq OD;have hc:=Sw s a s.size (Au _);obtain ⟨k,rfl⟩:=Aa k;obtain ⟨k2,rfl⟩:=Aa k2;show DW.S0 DW.S1 (DW.l0 (DW.t1 fu) k) _ _ _ _ _=Cw.S0 Cw.S1 (Cw.l0 (Cw.t1 fu) k2) _ _ _ _;unfold DW.S0 Cw.S0;have Gg:=hq.KE;have VM:=hq.1;by_cases AY:a<s.size
   ·obtain ⟨r,r1,r2⟩:=M9 (cutS s (a:Int) (s.size:Int));rw [Cc,Bw,Ak,Dg Ad,Ak,K6 (λ h=>by have:=Gx.1 h;omega),Bool.not_false,Ak,<- PH,r1,An,An];by_cases Hb:r.2.2=0
    ·obtain ⟨_,q1,q2,q3⟩:=r2.resolve_right λ h=>h.1 Hb
     obtain ⟨u,hu⟩:∃ u:Nat,r.2.1=u:=⟨r.2.1.toNat,Ad⟩;have CN:=az s a u (s.size-a) Ad;rw [show a+(s.size-a)=s.size by omega] at CN;have Mn:Bg (cutS s (a:Int) (s.size:Int))=((s.size-a:Nat):Int):=by rw [Cc,hc]
     rw [Cs Hb,Al,Al,hu,Bk,Mn,Dg Ad,Ak,Dg Ad,Ak,show (a:Int)+(u:Int)=((a+u:Nat):Int) by omega,CN,<- PH];obtain ⟨v,v1,v2⟩:=M9 (cutS s ((a+u:Nat):Int) (s.size:Int));rw [v1,An,An];by_cases qx:v.2.2=0
     ·obtain ⟨_,w1,w2,w3⟩:=v2.resolve_right λ h=>h.1 qx
      have CB:=Sw s (a+u) s.size (Au _);obtain ⟨z,hz⟩:∃ z:Nat,v.2.1=z:=⟨v.2.1.toNat,Ad⟩;rw [Cs qx,Al,Al];by_cases TJ:v.1<1
      ·rw [Bw TJ,Ak,Ak]
      ·rw [Be,Al,Al,CA];by_cases TL:n-((BQ o).length:Int)<v.1
       ·rw [Bw TL,Ak,Ak]
       ·have YC:=az s a (u+z) (s.size-a) Ad;rw [show a+(s.size-a)=s.size by omega] at YC;rw [Be,Al,Al,Cp Ad,Ak,Ak,hz,Bk,Bk,Bk,Dg Ad,Ak,show ((a+u:Nat):Int)+(z:Int)=((a+(u+z):Nat):Int) by omega,show (u:Int)+(z:Int)=((u+z:Nat):Int) by omega,YC];have:=ih k k2 (a+(u+z)) (o++[(r.1,((BQ o).length:Int),v.1)]) Ad Ad Ad Ad (hq.snoc rfl (by show 1<=v.1;omega) (by show (BQ o).length+v.1.toNat<=_;omega)) (by rw [IV,JV,Ap,AO];show (((BQ o).length+v.1.toNat:Nat):Int)<=n;omega);rw [IV,JV,Ap,AO] at this;rw [show ((BQ o).length:Int)+v.1=(((BQ o).length+v.1.toNat:Nat):Int) by omega];exact this
     ·rw [Fh qx,Ak,Ak]
    ·rw [Fh Hb,Ak,Ak]
   ·rw [Cc,Be,Al,Gp (Gx.2 Ad),Bool.not_true,Al,fin o hq]
 show DW.S (DW.l0 (DW.t1 fu) fu) s n=Cw.S (Cw.l0 (Cw.t1 fu) fu) s n;unfold DW.S Cw.S;rw [Be,Al,Be,Al,Al,Al];have:=main s.size fu fu 0 [] Ad Ad Ae Ae Qr.nil (by show (0:Int)<=n;exact h0)
 rw [show cutS s ((0:Nat):Int) (s.size:Int)=s by
  show cutS s (0:Int) (s.size:Int)=s
  rw [Wy,AL (by rw [C6];exact Au _),LQ]] at this
 exact this
theorem gj (o:List C2) (ho:Df 0 none o) (hl:(BQ o).length<=65536):Dv o=some (BQ o,0):=by
 have Gg:=Jq o 0 none ho;have inner:∀ (f:List C2->List Int->Int->Option (List Int×Int)) (i:Nat) (hi:i<o.length) (d j m:Nat),(d:Int)=o[i].2.2-j->(j:Int)<=o[i].2.2->d<m->Dv.l1 f m o (BQ (o.take i)++List.replicate j o[i].1) (i:Int) (j:Int)=f o (BQ (o.take (i+1))) ((i:Int)+1):=by
  intro f i hi d;obtain ⟨k1,k2,k3,k4,k5⟩:=Qb ho hi;induction d with
  | zero=>
   intro j m hd hj hm;obtain ⟨m,rfl⟩:=Aa m;show Dv.S1 _ _ _ _ _ _=_;unfold Dv.S1;rw [Ba,Bq,Ak,BE hi,Be,Al,Bk,take_one hi,IV,JV,show o[i].2.2.toNat=j by omega]
  | succ d ih=>
   intro j m hd hj hm;obtain ⟨m,rfl⟩:=Aa m;show Dv.S1 f (Dv.l1 f m) _ _ _ _=_;unfold Dv.S1;rw [Ba,Bq,Ak,BE hi,Bw,Ak,Ak,Cp (by rw [Ap,AO];omega),Ak,Bk,AA,<- List.replicate_succ'];exact ih (j+1) m Ad Ad Ad
 have outer:∀ (d i m:Nat),d=o.length-i->i<=o.length->70000<m->Dv.l0 (m+d) o (BQ (o.take i)) (i:Int)=some (BQ o,0):=by
  intro d;induction d with
  | zero=>
   intro i m hd hi hm;obtain ⟨m,rfl⟩:=Aa m;have:i=o.length:=Ad
   subst this;show Dv.S0 _ _ _ _=_;unfold Dv.S0;rw [Ba,Be,Al,AB]
  | succ d ih=>
   intro i m hd hi hm;have AY:i<o.length:=Ad
   obtain ⟨k1,k2,k3,k4,k5⟩:=Qb ho AY;show Dv.S0 (Dv.l1 (Dv.l0 (m+d)) (m+d)) _ _ _=_;unfold Dv.S0;rw [Ba,Bw,Ak];have:=inner (Dv.l0 (m+d)) i AY o[i].2.2.toNat 0 (m+d) Ad Ad Ad;rw [List.replicate_zero,AE] at this;refine Eq.trans this ?_;exact ih (i+1) m Ad Ad hm
 show Dv.S (Dv.l0 fu) o=_;unfold Dv.S;have hm:EZ o=some true:=tn o ho hl o.length 0 fu Ad Ad Ae;rw [hm,An,Bool.not_true,Al];have:=outer o.length 0 (fu-o.length) Ad Ad Ae;rw [show fu-o.length+o.length=fu by unfold fu;omega] at this;exact this
end Go.AM.Pure
end

section
/- The document's Takes of frames, of dictionaries and of texts. -/
namespace Go.AM.Pure
open Go.AM
theorem gM (s:ByteArray) {l:List Int} (h:LI (l,0)):DJ.S1 s l=BV.S2 s l false:=by
 have hl:l.length<=65536:=h.1;obtain ⟨w1,w2,_⟩:=GU (D6 l) (by rw [PS];omega);unfold DJ.S1 BV.S2;rw [r8 l hl h.2,ZC l hl w1 w2];rfl
theorem Zdw (s:ByteArray) (m:Int) (w:List Int) (hw:w.length<=65536) (f:Nat):∀ (d i n n2:Nat) (o:List Int) (a:Int),d=w.length-i->i<=w.length->d<n->d<n2->(o++[a]).length+(w.length-i)<=65536->(∀ x∈o++[a],BN x)->
  DJ.l0 (DJ.t1 fu) n s a (o++[a]) m w (i:Int)=BV.l1 (BV.t2 (f+1)) n2 s (o++[a]) m w (w.length:Int) (i:Int) false:=by
 intro d;induction d with
 | zero=>
  intro i n n2 o a hd hi hn Mi hl BH;obtain ⟨n,rfl⟩:=Aa n;obtain ⟨n2,rfl⟩:=Aa n2;show DJ.S0 DJ.S1 _ _ _ _ _ _ _=BV.S1 BV.S2 _ _ _ _ _ _ _ _;unfold DJ.S0 BV.S1;rw [Ba,Be,Al,Al,gM s ⟨by show (o++[a]).length<=_;omega,BH⟩]
 | succ d ih=>
  intro i n n2 o a hd hi hn Mi hl BH;obtain ⟨n,rfl⟩:=Aa n;obtain ⟨n2,rfl⟩:=Aa n2;have AY:i<w.length:=Ad
  have Gg:(o++[a]).length=o.length+1:=by rw [Ap];rfl
  show DJ.S0 _ (DJ.l0 (DJ.t1 fu) n) _ _ _ _ _ _=BV.S1 _ (BV.l1 (BV.t2 (f+1)) n2) _ _ _ _ _ _ _;unfold DJ.S0 BV.S1;have Oe:nth (o++[a]) (o.length:Int) 0=a:=by
   rw [BE Ad,List.getElem_append_right (Au _)];simp
  rw [Ba,Ba,Bw,Ak,Ak,Bq,Ak,Ak,Gg,CA,show ((o.length+1:Nat):Int)-1=(o.length:Int) by omega,Bq,Ak,Cp Ad,Ak,Ak,Oe,BE AY,aA,aA,Bk (a:=(i:Int)) Ad];exact ih (i+1) n n2 (o++[a]) _ Ad Ad Ad Ad (by rw [Ap,Gg,AN];omega) λ x hx=>by
   rcases List.mem_append.1 hx with hx | hx
   ·exact BH x hx
   ·rw [List.mem_singleton.1 hx];exact Kr _
theorem Zlt (s:ByteArray) {n:Int} (h0:0<=n) (hn:n<=65536) (hs:s.size<=65536):DJ s n=BV s n:=by
 show DJ.S (DJ.l0 (DJ.t1 fu) fu) (DJ.t1 fu) s n=BV.S (BV.t0 (18446744073709551613+1+1+1)) s n;unfold DJ.S BV.S;rw [Be,Al,Al,Be,Al,Al];by_cases hz:n=0
 ·subst hz;rw [Ci rfl,Ak,Be,Al];show _=BV.S0 _ BV.S2 s 0 [] s false;unfold BV.S0;rw [Be,Al,<- gM s (LI.nil 0)];unfold DJ.S1;rw [show DU []=some (eB,0) by kernel_rfl,An];by_cases he:s=eB
  ·rw [Gp he,Gp he.symm]
  ·rw [K6 he,K6 λ h=>he h.symm]
 ·rw [Ca hz,Al,Bw (a:=0) (b:=n) Ad,Ak,<- PH];obtain ⟨r,r1,r2⟩:=M9 s;obtain ⟨a1,a2,a3⟩:=r2.all;have Y1:Kp s false=some (r.1,cutS s r.2.1 (Bg s),BK r.2.2 0):=by
   unfold Kp;rw [r1,An,Al,Dg (by rw [Cc];omega),Ak]
  rw [r1,Y1,An,An];show _=BV.S0 (BV.l1 (BV.t2 (18446744073709551613+1+1)) (18446744073709551613+1+1)) BV.S2 s n [r.1] (cutS s r.2.1 (Bg s)) (BK r.2.2 0);unfold BV.S0;have h1:∀ x∈[r.1],BN x:=λ x hx=>by rw [List.mem_singleton.1 hx];exact a1
  by_cases hr:r.2.2=0
  ·rw [Cs hr,Al];by_cases JH:1<n
   ·obtain ⟨u,hu⟩:∃ u:Nat,r.2.1=u:=⟨r.2.1.toNat,Ad⟩;rw [hu] at a2 a3;have hc:=Sw s u s.size (Au _);rw [Bw JH,Ak,Ak,Cc,hu,Dg Ad,Ak,<- PH];obtain ⟨q,q1,q2⟩:=M9 (cutS s (u:Int) (s.size:Int));obtain ⟨b1,b2,b3⟩:=q2.all;have eX:Kp (cutS s (u:Int) (s.size:Int)) false=some (q.1,cutS (cutS s (u:Int) (s.size:Int)) q.2.1 (Bg (cutS s (u:Int) (s.size:Int))),BK q.2.2 0):=by
     unfold Kp;rw [q1,An,Al,Dg (by rw [Cc];omega),Ak]
    rw [q1,eX,An,An];dsimp only;by_cases hq:q.2.2=0
    ·obtain ⟨v,hv⟩:∃ v:Nat,q.2.1=v:=⟨q.2.1.toNat,Ad⟩;rw [hv] at b2 b3;have CN:=az s u v (s.size-u) Ad;rw [show u+(s.size-u)=s.size by omega] at CN;have CB:=Sw s (u+v) s.size (Au _);rw [Cs hq,Al,Al,hv,Cc,hc,CN,Bk,show (u:Int)+(v:Int)=((u+v:Nat):Int) by omega];by_cases hle:s.size<=u+v
     ·rw [CH,Ak,Gp (Gx.2 Ad),Ak]
     ·have YC:=az s (u+v) 1 (s.size-(u+v)) Ad;rw [show u+v+(s.size-(u+v))=s.size by omega] at YC;have dc:=Zb2 s (u+v) Ad 0;rw [Nat.add_zero] at dc;have hb:=Jm s ((u+v:Nat):Int);have ER:=P5 (cutS s ((u+v+1:Nat):Int) (s.size:Int)) (n:=n-1) (byteAt s ((u+v:Nat):Int)) Ad Ad;have Zmp:=LZ s ((u+v+1:Nat):Int) (s.size:Int);rw [Gc,Al,K6 (λ h=>by have:=Gx.1 h;omega),Al,Bk,show ((u+v:Nat):Int)+1=((u+v+1:Nat):Int) by omega,Dg Ad,Ak,Bq,Ak,Cc,CB,Dg Ad,Ak,Bq,Ak,show (1:Int)=((1:Nat):Int) from rfl,YC,show (0:Int)=((0:Nat):Int) from rfl,dc];simp only [show ((1:Nat):Int)=1 from rfl,show ((0:Nat):Int)=0 from rfl];rw [CA,Mz,Sg _ _ Ad Ad Ad];obtain ⟨z,z1,z2⟩:=ER;rw [z1,An,An];by_cases FZ:z.2=0
      ·have R6:=z2.len FZ;rw [Cs FZ,Al,Al,Ba];exact Zdw s q.1 z.1 Ad _ z.1.length 0 _ _ [] r.1 Ad Ad Ae Ad (by show 1+_<=_;omega) h1
      ·rw [Fh FZ,Ak,Ak]
    ·rw [Fh hq,Ak,Ak]
   ·rw [Be,Al,Al];exact gM s ⟨by show 1<=65536;omega,h1⟩
  ·rw [Fh hr,Ak];by_cases JH:1<n
   ·have BL:(cutS s r.2.1 (Bg s)).size<=s.size:=LZ _ _ _;obtain ⟨q,q1,q2⟩:=M9 (cutS s r.2.1 (Bg s));obtain ⟨b1,b2,b3⟩:=q2.all;have eX:Kp (cutS s r.2.1 (Bg s)) true=some (q.1,cutS (cutS s r.2.1 (Bg s)) q.2.1 (Bg (cutS s r.2.1 (Bg s))),true):=by
     unfold Kp;rw [q1,An,Ak,Dg (by rw [Cc];omega),Ak]
    rw [Bw JH,Ak,eX];rfl
   ·rw [Be,Al];unfold BV.S2;obtain ⟨z,z1,_⟩:=r9 [r.1] (by show 1<=65536;omega);rw [z1];rfl
theorem ji (s:ByteArray) {K:Int} (h0:0<=K) (hK:K<=65536) (hs:s.size<=65536):Br (Em s K) λ r=>r.2.2=true->(r.1.length:Int)=K/\Et r.1/\0<=r.2.1/\r.2.1<=(s.size:Int):=by
 have no:∀ {p:Prop},((([]:List ByteArray),(0:Int),false).2.2=true->p):=λ h=>by cases h
 have main:∀ (d i n:Nat) (o:List ByteArray) (a:Int),(d:Int)=K-i->(i:Int)<=K->d<n->o.length=i->Et o->0<=a->a<=s.size->Br (Em.l0 n s K o a (i:Int)) λ r=>r.2.2=true->(r.1.length:Int)=K/\Et r.1/\0<=r.2.1/\r.2.1<=(s.size:Int):=by
  intro d;induction d with
  | zero=>
   intro i n o a hd hi hn ho CL ha Kg;obtain ⟨n,rfl⟩:=Aa n;show Br (Em.S0 _ _ _ _ _ _) _;unfold Em.S0;exact B6 (λ _=>by omega) λ _=>Bp λ _=>⟨by show (o.length:Int)=K;omega,CL,ha,Kg⟩
  | succ d ih=>
   intro i n o a hd hi hn ho CL ha Kg;obtain ⟨n,rfl⟩:=Aa n;obtain ⟨b0,b1⟩:=Jm s a;show Br (Em.S0 (Em.l0 n) _ _ _ _ _) _;unfold Em.S0;rw [Cc,Mz,CA (a:=(s.size:Int)) Ad,CA,Bk (a:=a) Ad,Bk (a:=a+1) Ad,Bk (a:=(i:Int)) Ad];refine B6 (λ _=>MG (λ _=>Bp no) λ _=>CW Ad (B6 (λ _=>Bp no) λ c32=>CW Ad (B6 (λ _=>Bp no) λ _=>CW Ad (FJ Ad (H9 Ad (ih (i+1) n _ _ Ad Ad Ad (by rw [Ap,ho];rfl) ?_ Ad Ad)))))) λ _=>by omega
   intro t ht;rcases List.mem_append.1 ht with ht | ht
   ·exact CL t ht
   ·rw [List.mem_singleton.1 ht];obtain ⟨x,hx⟩:∃ x:Nat,a=x:=⟨a.toNat,Ad⟩;obtain ⟨y,hy⟩:∃ y:Nat,byteAt s a=y:=⟨(byteAt s a).toNat,Ad⟩;have:=Sw s (x+1) (x+1+y) Ad;rw [hy,hx,show ((x:Int)+1+(y:Int))=((x+1+y:Nat):Int) by omega,show (x:Int)+1=((x+1:Nat):Int) by omega,this];omega
 exact main K.toNat 0 fu [] 0 Ad Ad Ae rfl (λ t ht=>by cases ht) (Int.le_refl _) Ad
theorem iw {D:List ByteArray} (hD:D.length<=65536) (TI:Et D) {s:ByteArray} {tail:List Int} (hs:Bu s=Cd D++tail) (BL:s.size<100000000):Em s (D.length:Int)=some (D,((Cd D).length:Int),true):=by
 have Jf:s.size=(Cd D).length+tail.length:=by rw [<- C6,hs,Ap]
 have main:∀ (d i n:Nat),d=D.length-i->i<=D.length->d<n->Em.l0 n s (D.length:Int) (D.take i) ((Cd (D.take i)).length:Int) (i:Int)=some (D,((Cd D).length:Int),true):=by
  intro d;induction d with
  | zero=>
   intro i n hd hi hn;have:i=D.length:=Ad
   subst this;obtain ⟨n,rfl⟩:=Aa n;show Em.S0 _ _ _ _ _ _=_;unfold Em.S0;rw [Be,Al,AB]
  | succ d ih=>
   intro i n hd hi hn;obtain ⟨n,rfl⟩:=Aa n;have AY:i<D.length:=Ad
   have Ja:=ix AY;have MX:=congrArg List.length Ja;rw [Ap,Ap,O1] at MX;have ht:=aT (s:=s) (t:=D[i]) (pre:=Cd (D.take i)) (rest:=Cd (D.drop (i+1))++tail) (by rw [hs,Ja];simp);have hf:=ht.fit;have h0:=ht.at0;have hc:=ht.cut;have h3:=TI D[i] (Ay AY);have JL:(Cd (D.take (i+1))).length=(Cd (D.take i)).length+(1+D[i].size):=by rw [take_one AY,Wl,Ap,O1]
   have Ed:=ih (i+1) n Ad Ad Ad;show Em.S0 (Em.l0 n) _ _ _ _ _=_;unfold Em.S0;generalize (Cd (D.take i)).length=p at *;rw [JL,take_one AY,show p+(1+D[i].size)=p+1+D[i].size by omega] at Ed
   rw [Bw,Ak,Cc,Gc,Al,Bq,Ak,h0,Be,Al,FH,CA (a:=(s.size:Int)) Ad,CA,Ak,Be,Al,Ak,Bk (a:=(p:Int)) (b:=1) Ad,show (p:Int)+1=((p+1:Nat):Int) by omega,Bk,show ((p+1:Nat):Int)+(D[i].size:Int)=((p+1+D[i].size:Nat):Int) by omega,
    Dg Ad,Ak,Cp (by rw [Ar];omega),Ak,hc,Bk]
   exact Ed
 exact main D.length 0 fu Ad Ad Ae
theorem ti (s:ByteArray) (K:Int):Ix s K=Em s K:=by
 have h:∀ n,Ix.l0 n=Em.l0 n:=λ n=>by
  induction n with
  | zero=>rfl
  | succ n ih=>
   show Ix.S0 (Ix.l0 n)=Em.S0 (Em.l0 n);rw [ih];rfl
 show Ix.l0 fu s K [] 0 0=Em.l0 fu s K [] 0 0;rw [h]
theorem Xqa {α β:Type} {c:Bool} {a b:Option α} {f:α->Option β}:(bif c then a else b).bind f=bif c then a.bind f else b.bind f:=by cases c <;> rfl
theorem gC (s:ByteArray) (K:Int):∀ (n:Nat) (o:List ByteArray) (a i:Int),DH.l0 (DH.t1 fu) n s K o a i=(Em.l0 n s K o a i).bind λ r=>bif r.2.2 then DH.S1 s r.1 r.2.1 else some ([],20)
 | 0,_,_,_=>rfl
 | n+1,o,a,i=>by
  show DH.S0 DH.S1 (DH.l0 (DH.t1 fu) n) s K o a i=(Em.S0 (Em.l0 n) s K o a i).bind _;unfold DH.S0 Em.S0;simp only [Xqa,An,Option.bind_none,gC s K n,Ak,Al]
theorem Zr2 (s:ByteArray) {n:Int} (hn:n<=65536) (hs:s.size<=65536):Br (DH s n) LT:=by
 show Br (DH.S (DH.l0 (DH.t1 fu) fu) s n) _;unfold DH.S;refine B6 (λ _=>Bp (LT.nil _)) λ h0=>B6 (λ _=>Bp (LT.nil _)) λ _=>?_
 rw [gC];refine CY _ (ji s h0 hn hs) λ r hr=>IA (λ hb=>?_) λ _=>Bp (LT.nil _)
 unfold DH.S1;exact EA (λ _=>Bp (LT.nil _)) λ _=>Bp (by have:=(hr hb).1;show r.1.length<=_;omega)
theorem Zs2 (l:List ByteArray):l.length<=(Cd l).length:=by
 induction l with
 | nil=>exact Nat.zero_le _
 | cons t l ih=>
  rw [Wm,Ap,O1,Aw];omega
theorem Zvy (l:List ByteArray) (hl:l.length<=65536) (CL:Et l) {s:ByteArray} (hs:Bu s=Cd l):DH s (l.length:Int)=some (l,0):=by
 have h1:=Zs2 l;have h2:=Lk l CL;have BL:s.size=(Cd l).length:=by rw [<- C6,hs]
 have:=iw hl CL (s:=s) (tail:=[]) (by rw [hs,AE]) Ad;show DH.S (DH.l0 (DH.t1 fu) fu) s _=_;unfold DH.S;have h3:Em.l0 fu s (l.length:Int) [] 0 0=some (l,((Cd l).length:Int),true):=this;rw [Be,Al,Cc,Be,Al,gC,h3,An];dsimp only;rw [Ak];unfold DH.S1;rw [Cc,Cs,Al]
theorem vX (s:ByteArray) (n:Int):Br (Sq s n) λ r=>r.2.2=true->1<=r.1/\r.1<=n/\0<=r.2.1/\r.2.1<=(s.size:Int):=by
 unfold Sq;refine CY _ (ZO s) λ r hr=>Fq (λ _=>MG (λ h1=>Bp λ h=>⟨h1,Az h,hr.all.2.1,hr.all.2.2⟩) λ _=>Bp λ h=>by cases h) λ _=>Bp λ h=>by cases h
theorem aD (K:Int):Wj K=some (CF [Bt .i64 K 1]:Int):=by
 unfold Wj;rw [Wa _ (by show 1<=65536;omega)];rfl
theorem Zt2 (s:ByteArray) {l:List Int} (h:LI (l,0)):Br (BP.S4 s l) LI:=by
 unfold BP.S4;exact Jl (fT l h.1 h.2) (Ia (I9 (λ _=>Bp h) λ _=>Bp (LI.nil _)))
theorem Zwy (s:ByteArray) (f:Nat) {D P:List Int} (hP:P.length<=65536) (hD:∀ x∈D,BN x):∀ (d i n:Nat) (o:List Int),d=P.length-i->i<=P.length->d<n->o.length=i->(∀ x∈o,BN x)->Br (BP.l3 (BP.t4 (f+1)) n s D P o (i:Int)) LI:=by
 intro d;induction d with
 | zero=>
  intro i n o hd hi hn ho BH;obtain ⟨n,rfl⟩:=Aa n;show Br (BP.S3 BP.S4 _ _ _ _ _ _) _;unfold BP.S3;rw [Ba];exact B6 (λ _=>by omega) λ _=>Zt2 s ⟨by show o.length<=_;omega,BH⟩
 | succ d ih=>
  intro i n o hd hi hn ho BH;obtain ⟨n,rfl⟩:=Aa n;have AY:i<P.length:=Ad
  show Br (BP.S3 _ (BP.l3 (BP.t4 (f+1)) n) _ _ _ _ _) _;unfold BP.S3;rw [Ba,Ba,BE AY,Bk];refine B6 (λ _=>CW Ad (B6 (λ _=>Bp (LI.nil _)) λ c1=>CW Ad (MG (λ _=>Bp (LI.nil _)) λ c2=>CW Ad (CW Ad (H9 Ad (ih (i+1) n _ Ad Ad Ad (by rw [Ap,ho];rfl) λ x hx=>?_)))))) λ _=>by omega
  rcases List.mem_append.1 hx with hx | hx
  ·exact BH x hx
  ·rw [List.mem_singleton.1 hx];obtain ⟨q,hq⟩:∃ q:Nat,P[i]=q:=⟨P[i].toNat,Ad⟩;rw [hq,BE Ad];exact hD _ (Ay _)
theorem Zew (s:ByteArray) (f:Nat) {D P:List Int} (hP:P.length<=65536) (KI:∀ x∈P,0<=x/\x<(D.length:Int)):∀ (d i n:Nat),d=P.length-i->i<=P.length->d<n->
  BP.l3 (BP.t4 (f+1)) n s D P ((P.take i).map λ x=>D.getD x.toNat 0) (i:Int)=BP.S4 s (P.map λ x=>D.getD x.toNat 0):=by
 intro d;induction d with
 | zero=>
  intro i n hd hi hn;have:i=P.length:=Ad
  subst this;obtain ⟨n,rfl⟩:=Aa n;show BP.S3 BP.S4 _ _ _ _ _ _=_;unfold BP.S3;rw [Ba,Be,Al,AB]
 | succ d ih=>
  intro i n hd hi hn;obtain ⟨n,rfl⟩:=Aa n;have AY:i<P.length:=Ad
  have hx:=KI P[i] (Ay AY);show BP.S3 _ (BP.l3 (BP.t4 (f+1)) n) _ _ _ _ _=_;unfold BP.S3;rw [Ba,Ba,Bw,Ak,Bq (i:=(i:Int)) Ad,Ak,BE AY,Be hx.1,Al,Ak,Gc hx.2,Al,Ak,Bq hx,Ak,Cp (by rw [Av,Ar];omega),Ak,Bk];have:=ih (i+1) n Ad Ad Ad;rw [take_one AY,AG] at this;exact this
theorem Zuy (s:ByteArray) {n:Int} (hn:n<=65536) (hs:s.size<=65536):Br (BP s n) LI:=by
 have main:∀ (f:Nat) (K:Int),1<=K->K<=n->70000<f->∀ (d i m:Nat) (a:Int) (o:List Int),(d:Int)=K-i->(i:Int)<=K->d<m->0<=a->a<=s.size->o.length=i->(∀ x∈o,BN x)->
   Br (BP.l1 (BP.t2 (f+1+1)) m s n K a o (i:Int)) LI:=by
  intro f K eY qw hf d;induction d with
  | zero=>
   intro i m a o hd hi hm NM Kg ho BH;obtain ⟨m,rfl⟩:=Aa m;show Br (BP.S1 (BP.S2 (BP.l3 (BP.t4 (f+1)) (f+1))) _ _ _ _ _ _ _) _;unfold BP.S1;refine B6 (λ _=>by omega) λ _=>?_
   unfold BP.S2;have hc:=N5 NM Kg;rw [Cc];refine FJ Ad (Jl (aD K) ?_);rw [Sg _ _ Ad Ad Ad];refine CY _ (P5 _ _ Ad hn) λ z hz=>EA (λ _=>Bp (LI.nil _)) λ FZ=>?_
   have R6:=hz.len FZ;exact Zwy s _ Ad BH z.1.length 0 _ [] Ad Ad Ad rfl λ x hx=>by cases hx
  | succ d ih=>
   intro i m a o hd hi hm NM Kg ho BH;obtain ⟨m,rfl⟩:=Aa m;show Br (BP.S1 _ (BP.l1 (BP.t2 (f+1+1)) m) _ _ _ _ _ _) _;unfold BP.S1;have hc:=N5 NM Kg;rw [Cc];refine B6 (λ _=>FJ Ad (CY _ (ZO _) λ r hr=>EA (λ _=>Bp (LI.nil _)) λ _=>H9 Ad ?_)) λ _=>by omega
   obtain ⟨r1,r2,r3⟩:=hr.all;rw [Bk,Bk];refine ih (i+1) m (a+r.2.1) (o++[r.1]) Ad Ad Ad Ad Ad (by rw [Ap,ho];rfl) λ x hx=>?_
   rcases List.mem_append.1 hx with hx | hx
   ·exact BH x hx
   ·rw [List.mem_singleton.1 hx];exact r1
 have go:Br (BP.S0 (BP.l1 (BP.t2 (18446744073709551613+1+1)) (18446744073709551613+1+1)) s n) LI:=by
  unfold BP.S0;refine CY _ (vX s n) λ r hr=>Ia (IA (λ hb=>?_) λ _=>Bp (LI.nil _))
  obtain ⟨h1,h2,h3,h4⟩:=hr hb;exact main 18446744073709551613 r.1 h1 h2 Ad r.1.toNat 0 _ r.2.1 [] Ad Ad Ad h3 h4 rfl λ x hx=>by cases hx
 show Br (BP.S (BP.S0 (BP.l1 (BP.t2 (18446744073709551613+1+1)) (18446744073709551613+1+1))) s n) _;unfold BP.S;exact B6 (λ _=>Bp (LI.nil _)) λ _=>B6 (λ _=>Bp (LI.nil _)) λ _=>Fq (λ _=>I9 (λ _=>Bp (LI.nil _)) λ _=>go) λ _=>go
theorem Yqd {D:List Int} {i:Nat} (h:i<D.length):CP D=CP (D.take i)++(vB D[i]++CP (D.drop (i+1))):=by
 have h2:CP D=CP (D.take i++D[i] :: D.drop (i+1)):=congrArg CP (by rw [<- List.drop_eq_getElem_cons h,List.take_append_drop]);rw [h2];unfold CP;rw [List.flatMap_append,List.flatMap_cons]
theorem Zfw {D:List Int} (hD:D.length<=65536) (BH:∀ x∈D,BN x) {s:ByteArray} {pre tail:List Int} (hs:Bu s=pre++(CP D++tail)) (BL:s.size<100000000) {o2:ByteArray->Int->Int->Int->List Int->Option (List Int×Int)} {xn:Int}:
  ∀ (d i n:Nat),d=D.length-i->i<=D.length->d<n->
  BP.l1 o2 n s xn (D.length:Int) ((pre.length+(CP (D.take i)).length:Nat):Int) (D.take i) (i:Int)=o2 s xn (D.length:Int) ((pre.length+(CP D).length:Nat):Int) D:=by
 have Jf:s.size=pre.length+((CP D).length+tail.length):=by rw [<- C6,hs,Ap,Ap]
 intro d;induction d with
 | zero=>
  intro i n hd hi hn;have:i=D.length:=Ad
  subst this;obtain ⟨n,rfl⟩:=Aa n;show BP.S1 _ _ _ _ _ _ _ _=_;unfold BP.S1;rw [Be,Al,AB]
 | succ d ih=>
  intro i n hd hi hn;obtain ⟨n,rfl⟩:=Aa n;have AY:i<D.length:=Ad
  have Ja:=Yqd AY;have MX:=congrArg List.length Ja;rw [Ap,Ap] at MX;have hcut:Bu (cutS s ((pre.length+(CP (D.take i)).length:Nat):Int) (Bg s))=vB D[i]++(CP (D.drop (i+1))++tail):=by
   have:=JX (s:=s) (a:=pre++CP (D.take i)) (rest:=vB D[i]++(CP (D.drop (i+1))++tail)) (by rw [hs,Ja];simp);rw [Ap] at this;exact this
  have hv:=Fs D[i];have Ed:=ih (i+1) n Ad Ad Ad;rw [take_one AY,ZP,Ap] at Ed;show BP.S1 o2 (BP.l1 o2 n) _ _ _ _ _ _=_;unfold BP.S1;rw [Bw,Ak,Dg (by rw [Cc];omega),Ak,<- PH,M8 (BH _ (Ay AY)) hcut,An];dsimp only;rw [Cs rfl,Al,Cp (by rw [Ar];omega),Ak,Bk,Bk,show ((pre.length+(CP (D.take i)).length:Nat):Int)+((vB D[i]).length:Int)=((pre.length+((CP (D.take i)).length+(vB D[i]).length):Nat):Int) by omega];exact Ed
theorem uk {K n:Int} (hK:BN K) (h1:1<=K) (h2:K<=n) {s:ByteArray} {rest:List Int} (hs:Bu s=vB K++rest):Sq s n=some (K,((vB K).length:Int),true):=by
 unfold Sq;rw [<- PH,M8 hK hs,An];dsimp only;rw [Ci rfl,Ak,CH h1,Ak,CH h2]
theorem Zcw (l:List Int) (hl:l.length<=65536) (BH:∀ x∈l,BN x) {s:ByteArray} (hs:Bu s=K3 l (CF (Cm l))):BP s (l.length:Int)=some (l,0):=by
 show BP.S (BP.S0 (BP.l1 (BP.t2 (18446744073709551613+1+1)) (18446744073709551613+1+1))) s _=_;unfold BP.S;rw [Be,Al,Be,Al];by_cases h0:l.length=0
 ·have Gt:s=eB:=Gx.2 (by rw [<- C6,hs];unfold K3;rw [if_pos h0];rfl);rw [Ci,Ak,Gp Gt,Ak,AU h0]
 ·have Ej:=ON l;have TG:=im (l:=l) Ad;have CT:=OI l;have qu:=hs;unfold K3 at hs;rw [if_neg h0] at hs;obtain ⟨_,w2,w3⟩:=GU (Cm l) Ad;have hb:(Cm l).length*CF (Cm l)<=65536*64:=Nat.mul_le_mul Ad w2;have NJ:=I8 (Cm l) (CF (Cm l));have k1:=Fs ((B4 l).length:Int);have k2:=Rb (B4 l);have BL:s.size=(vB ((B4 l).length:Int)).length+((CP (B4 l)).length+(CR (Cm l) (CF (Cm l))).length):=by rw [<- C6,hs,Ap,Ap]
  rw [Ca,Al];unfold BP.S0;rw [uk (by unfold BN;omega) Ad Ad hs,An];dsimp only;rw [Bool.not_true,Al];have Of:=Zfw (D:=B4 l) Ad (λ x hx=>BH x (((LU l).2 x).1 hx)) hs Ad (o2:=BP.t2 (18446744073709551613+1+1)) (xn:=(l.length:Int)) (B4 l).length 0 (18446744073709551613+1+1) Ad Ad Ad;rw [List.take_zero,show CP []=[] from rfl,List.length_nil,Nat.add_zero] at Of;refine Eq.trans Of ?_;show BP.S2 (BP.l3 (BP.t4 (18446744073709551613+1)) (18446744073709551613+1)) s _ _ _ _=_;unfold BP.S2;have Pt:CF [((B4 l).length:Int)-1]=CF (Cm l):=(ua hl Ad (GU [((B4 l).length:Int)-1] (by show 1<=65536;omega)).2.2).unique w3;have hcut:Bu (cutS s (((vB ((B4 l).length:Int)).length+(CP (B4 l)).length:Nat):Int) (Bg s))=CR (Cm l) (CF (Cm l)):=by
   have:=JX (s:=s) (a:=vB ((B4 l).length:Int)++CP (B4 l)) (rest:=CR (Cm l) (CF (Cm l))) (by rw [hs,AA]);rw [Ap] at this;exact this
  have CM:(cutS s (((vB ((B4 l).length:Int)).length+(CP (B4 l)).length:Nat):Int) (Bg s)).size<=1000000:=by rw [<- C6,hcut,NJ];omega
  have LJ:=Sx (l:=Cm l) (w:=CF (Cm l)) w2 Ad (λ x hx=>by have:=Si x hx;unfold BN;omega) w3.1 hcut;rw [CT] at LJ;rw [Dg (by rw [Cc];omega),Ak,aD,CA,Pt,An];rw [Sg _ _ Ad Ad CM,LJ,An];dsimp only;rw [Cs rfl,Al];have GD:=Zew s 18446744073709551613 (D:=B4 l) (P:=Cm l) Ad (λ x hx=>Si x hx) (Cm l).length 0 (18446744073709551613+1) Ad Ad Ad;rw [hZ l] at GD;refine Eq.trans GD ?_;unfold BP.S4;rw [fT l hl BH,An,<- qu,LQ];dsimp only;rw [Gp rfl];rfl
end Go.AM.Pure
end

section
/- The document's Takes of texts by dictionaries and runs; by whatever code. -/
namespace Go.AM.Pure
open Go.AM
theorem Zsy (s:ByteArray) {l:List ByteArray} (hl:l.length<=65536) (h:Et l):Br (Cx.S2 s l) LT:=by
 unfold Cx.S2;exact Jl (fP l hl h) (Ia (I9 (λ _=>Bp hl) λ _=>Bp (LT.nil _)))
theorem Et.snoc {o:List ByteArray} (h:Et o) {t:ByteArray} (ht:t.size<=32):Et (o++[t]):=λ x hx=>by
 rcases List.mem_append.1 hx with hx | hx
 ·exact h x hx
 ·rw [List.mem_singleton.1 hx];exact ht
theorem Zaw (s:ByteArray) (f:Nat) {D:List ByteArray} {P:List Int} (hP:P.length<=65536) (hD:Et D):∀ (d i n:Nat) (o:List ByteArray),d=P.length-i->i<=P.length->d<n->o.length=i->Et o->Br (Cx.l1 (Cx.t2 (f+1)) n s D P o (i:Int)) LT:=by
 intro d;induction d with
 | zero=>
  intro i n o hd hi hn ho CL;obtain ⟨n,rfl⟩:=Aa n;show Br (Cx.S1 Cx.S2 _ _ _ _ _ _) _;unfold Cx.S1;rw [Ba];exact B6 (λ _=>by omega) λ _=>Zsy s Ad CL
 | succ d ih=>
  intro i n o hd hi hn ho CL;obtain ⟨n,rfl⟩:=Aa n;have AY:i<P.length:=Ad
  show Br (Cx.S1 _ (Cx.l1 (Cx.t2 (f+1)) n) _ _ _ _ _) _;unfold Cx.S1;rw [Ba,Ba,BE AY,Bk];refine B6 (λ _=>CW Ad (B6 (λ _=>Bp (LT.nil _)) λ c1=>CW Ad (MG (λ _=>Bp (LT.nil _)) λ c2=>CW Ad (CW Ad (H9 Ad (ih (i+1) n _ Ad Ad Ad (by rw [Ap,ho];rfl) (CL.snoc ?_))))))) λ _=>by omega
  obtain ⟨q,hq⟩:∃ q:Nat,P[i]=q:=⟨P[i].toNat,Ad⟩;rw [hq,BE Ad];exact hD _ (Ay _)
theorem Zru (s:ByteArray) (f:Nat) {D:List ByteArray} {P:List Int} (hP:P.length<=65536) (KI:∀ x∈P,0<=x/\x<(D.length:Int)):∀ (d i n:Nat),d=P.length-i->i<=P.length->d<n->
  Cx.l1 (Cx.t2 (f+1)) n s D P ((P.take i).map λ x=>D.getD x.toNat eB) (i:Int)=Cx.S2 s (P.map λ x=>D.getD x.toNat eB):=by
 intro d;induction d with
 | zero=>
  intro i n hd hi hn;have:i=P.length:=Ad
  subst this;obtain ⟨n,rfl⟩:=Aa n;show Cx.S1 Cx.S2 _ _ _ _ _ _=_;unfold Cx.S1;rw [Ba,Be,Al,AB]
 | succ d ih=>
  intro i n hd hi hn;obtain ⟨n,rfl⟩:=Aa n;have AY:i<P.length:=Ad
  have hx:=KI P[i] (Ay AY);show Cx.S1 _ (Cx.l1 (Cx.t2 (f+1)) n) _ _ _ _ _=_;unfold Cx.S1;rw [Ba,Ba,Bw,Ak,Bq (i:=(i:Int)) Ad,Ak,BE AY,Be hx.1,Al,Ak,Gc hx.2,Al,Ak,Bq hx,Ak,Cp (by rw [Av,Ar];omega),Ak,Bk];have:=ih (i+1) n Ad Ad Ad;rw [take_one AY,AG] at this;exact this
theorem Zbw (s:ByteArray) {n:Int} (hn:n<=65536) (hs:s.size<=65536):Br (Cx s n) LT:=by
 have go:Br (Cx.S0 (Cx.l1 (Cx.t2 (18446744073709551614+1)) (18446744073709551614+1)) s n) LT:=by
  unfold Cx.S0;refine CY _ (vX s n) λ r hr=>Ia (IA (λ hb=>?_) λ _=>Bp (LT.nil _))
  obtain ⟨h1,h2,h3,h4⟩:=hr hb;have hc:=N5 h3 h4;rw [Cc];refine FJ Ad ?_;rw [ti];refine CY _ (ji _ Ad Ad Ad) λ q hq=>Ia (IA (λ DE=>?_) λ _=>Bp (LT.nil _))
  obtain ⟨k1,k2,k3,k4⟩:=hq DE;rw [Bk];have Mn:=LZ s (r.2.1+q.2.1) (s.size:Int);refine FJ Ad (Jl (aD r.1) ?_);rw [Sg _ _ Ad Ad Ad];refine CY _ (P5 _ _ Ad hn) λ z hz=>EA (λ _=>Bp (LT.nil _)) λ FZ=>?_
  have R6:=hz.len FZ;exact Zaw s _ Ad k2 z.1.length 0 _ [] Ad Ad Ad rfl λ x hx=>by cases hx
 show Br (Cx.S (Cx.S0 (Cx.l1 (Cx.t2 (18446744073709551614+1)) (18446744073709551614+1))) s n) _;unfold Cx.S;exact B6 (λ _=>Bp (LT.nil _)) λ _=>B6 (λ _=>Bp (LT.nil _)) λ _=>Fq (λ _=>I9 (λ _=>Bp (LT.nil _)) λ _=>go) λ _=>go
theorem Zsu (l:List ByteArray) (hl:l.length<=65536) (CL:Et l) {s:ByteArray} (hs:Bu s=Lo l (CF (BW l))):Cx s (l.length:Int)=some (l,0):=by
 show Cx.S (Cx.S0 (Cx.l1 (Cx.t2 (18446744073709551614+1)) (18446744073709551614+1))) s _=_;unfold Cx.S;rw [Be,Al,Be,Al];by_cases h0:l.length=0
 ·have Gt:s=eB:=Gx.2 (by rw [<- C6,hs];unfold Lo;rw [if_pos h0];rfl);rw [Ci,Ak,Gp Gt,Ak,AU h0]
 ·have Fl:=N1 l;have Ej:=Mx l;have TG:=Fl.pos Ad;have CT:(BW l).length=l.length:=JZ _ _;have qu:=hs;unfold Lo at hs;rw [if_neg h0] at hs;obtain ⟨_,w2,w3⟩:=GU (BW l) Ad;have hb:(BW l).length*CF (BW l)<=65536*64:=Nat.mul_le_mul Ad w2;have NJ:=I8 (BW l) (CF (BW l));have k1:=Fs ((BO l).length:Int);have k2:=Lk _ CL.JC;have BL:s.size=(vB ((BO l).length:Int)).length+((Cd (BO l)).length+(CR (BW l) (CF (BW l))).length):=by rw [<- C6,hs,Ap,Ap]
  rw [Ca,Al];unfold Cx.S0;rw [uk (by unfold BN;omega) Ad Ad hs,An];dsimp only;have Ij:=JX hs;have Xcg:(cutS s ((vB ((BO l).length:Int)).length:Int) (Bg s)).size<=s.size:=LZ _ _ _;rw [Bool.not_true,Al,Dg (by rw [Cc];omega),Ak,ti,iw Ad CL.JC Ij Ad,An];dsimp only;have Pt:CF [((BO l).length:Int)-1]=CF (BW l):=(Zef MB Fl Ad (GU [((BO l).length:Int)-1] (by show 1<=65536;omega)).2.2 Ad).unique w3;have hcut:Bu (cutS s (((vB ((BO l).length:Int)).length+(Cd (BO l)).length:Nat):Int) (Bg s))=CR (BW l) (CF (BW l)):=by
   have:=JX (s:=s) (a:=vB ((BO l).length:Int)++Cd (BO l)) (rest:=CR (BW l) (CF (BW l))) (by rw [hs,AA]);rw [Ap] at this;exact this
  have CM:(cutS s (((vB ((BO l).length:Int)).length+(Cd (BO l)).length:Nat):Int) (Bg s)).size<=1000000:=by rw [<- C6,hcut,NJ];omega
  have LJ:=Sx (l:=BW l) (w:=CF (BW l)) w2 Ad (λ x hx=>by have:=Nb Fl x hx;unfold BN;omega) w3.1 hcut;rw [CT] at LJ;rw [Bool.not_true,Al,Bk,show ((vB ((BO l).length:Int)).length:Int)+((Cd (BO l)).length:Int)=(((vB ((BO l).length:Int)).length+(Cd (BO l)).length:Nat):Int) by omega,Dg (by rw [Cc];omega),Ak,aD,CA,Pt,An,Sg _ _ Ad Ad CM,LJ,An];dsimp only;rw [Cs rfl,Al];have GD:=Zru s 18446744073709551614 (D:=BO l) (P:=BW l) Ad (λ x hx=>Nb Fl x hx) (BW l).length 0 (18446744073709551614+1) Ad Ad Ad;rw [WI Fl eB] at GD;refine Eq.trans GD ?_;unfold Cx.S2;rw [fP l hl CL,An,<- qu,LQ];dsimp only;rw [Gp rfl];rfl
theorem Zq2 (D:List ByteArray) {P:List Int} (hP:P.length<=65536):∀ (d i n:Nat) (o:List ByteArray),d=P.length-i->i<=P.length->d<n->o.length=i->Br (EJ.l0 n D P o (i:Int)) λ r=>r.1.length<=65536:=by
 intro d;induction d with
 | zero=>
  intro i n o hd hi hn ho;obtain ⟨n,rfl⟩:=Aa n;show Br (EJ.S0 _ _ _ _ _) _;unfold EJ.S0;rw [Ba];exact B6 (λ _=>by omega) λ _=>Bp (by show o.length<=_;omega)
 | succ d ih=>
  intro i n o hd hi hn ho;obtain ⟨n,rfl⟩:=Aa n;show Br (EJ.S0 (EJ.l0 n) _ _ _ _) _;unfold EJ.S0;rw [Ba,Ba,Bk];exact B6 (λ _=>CW Ad (B6 (λ _=>Bp (Nat.zero_le _)) λ c1=>CW Ad (MG (λ _=>Bp (Nat.zero_le _)) λ c2=>CW Ad (CW Ad (H9 Ad (ih (i+1) n _ Ad Ad Ad (by rw [Ap,ho];rfl))))))) λ _=>by omega
theorem Zty {D:List ByteArray} {P:List Int} (hP:P.length<=65536) (KI:∀ x∈P,0<=x/\x<(D.length:Int)):∀ (d i n:Nat),d=P.length-i->i<=P.length->d<n->
  EJ.l0 n D P ((P.take i).map λ x=>D.getD x.toNat eB) (i:Int)=some (P.map λ x=>D.getD x.toNat eB,true):=by
 intro d;induction d with
 | zero=>
  intro i n hd hi hn;have:i=P.length:=Ad
  subst this;obtain ⟨n,rfl⟩:=Aa n;show EJ.S0 _ _ _ _ _=_;unfold EJ.S0;rw [Ba,Be,Al,AB]
 | succ d ih=>
  intro i n hd hi hn;obtain ⟨n,rfl⟩:=Aa n;have AY:i<P.length:=Ad
  have hx:=KI P[i] (Ay AY);show EJ.S0 (EJ.l0 n) _ _ _ _=_;unfold EJ.S0;rw [Ba,Ba,Bw,Ak,Bq (i:=(i:Int)) Ad,Ak,BE AY,Be hx.1,Al,Ak,Gc hx.2,Al,Ak,Bq hx,Ak,Cp (by rw [Av,Ar];omega),Ak,Bk];have:=ih (i+1) n Ad Ad Ad;rw [take_one AY,AG] at this;exact this
theorem Zkt (s:ByteArray) {n:Int} (hn:n<=65536) (hs:s.size<=65536):Br (EJ s n) λ r=>r.1.length<=65536:=by
 show Br (EJ.S (EJ.l0 fu) s n) _;unfold EJ.S;have no:([]:List ByteArray).length<=65536:=Nat.zero_le _;refine Fq (λ _=>Bp no) λ _=>CY _ (ZO s) λ r hr=>EA (λ _=>Bp no) λ _=>B6 (λ _=>Bp no) λ c1=>B6 (λ _=>Bp no) λ c2=>?_
 obtain ⟨_,r2,r3⟩:=hr.all;have hc:=N5 r2 r3;rw [Cc];refine FJ Ad (CY _ (ji _ Ad Ad Ad) λ q hq=>Ia (IA (λ hb=>?_) λ _=>Bp no));obtain ⟨_,_,k3,k4⟩:=hq hb;have Mn:=LZ s (r.2.1+q.2.1) (s.size:Int);rw [Bk];refine FJ Ad ?_;rw [gh _ Ad hn Ad];refine CY _ (Z1 _ Ad hn Ad) λ z hz=>EA (λ _=>Bp no) λ he=>?_
 obtain ⟨z1,z2⟩:=hz.2 he;exact Jl (gj z.1 z1 Ad) (Zq2 q.1 (P:=BQ z.1) Ad (BQ z.1).length 0 fu [] Ad Ad Ae rfl)
theorem Zqs (l:List ByteArray) (hl:l.length<=64) (CL:Et l) {s:ByteArray} (hs:Bu s=RF l):EJ s (l.length:Int)=some (l,true):=by
 show EJ.S (EJ.l0 fu) s _=_;unfold EJ.S;unfold RF at hs;by_cases h0:l.length=0
 ·rw [if_pos h0] at hs;have Gt:s=eB:=Gx.2 (by rw [<- C6,hs];rfl);rw [Ci,Ak,Gp Gt,AU h0]
 ·rw [if_neg h0] at hs;have Ej:=Mx l;have Fl:=N1 l;have TG:=Fl.pos Ad;have CT:(BW l).length=l.length:=JZ _ _;have k1:=Fs ((BO l).length:Int);have k2:=Lk _ CL.JC;obtain ⟨r1,r2,r3⟩:=N7 (BW l) Ad;have k3:=OQ (GA (BW l));have k4:=Jq _ _ _ r3;rw [r2] at k4;have BL:s.size=(vB ((BO l).length:Int)).length+((Cd (BO l)).length+(Fi (GA (BW l))).length):=by rw [<- C6,hs,Ap,Ap]
  have Ij:=JX hs;have Xcg:(cutS s ((vB ((BO l).length:Int)).length:Int) (Bg s)).size<=s.size:=LZ _ _ _;rw [Ca,Al,<- PH,M8 (by unfold BN;omega) hs,An];dsimp only;rw [Cs rfl,Al,Be,Al,Be,Al,Dg (by rw [Cc];omega),Ak,iw Ad CL.JC Ij Ad,An];dsimp only;have hcut:Bu (cutS s (((vB ((BO l).length:Int)).length+(Cd (BO l)).length:Nat):Int) (Bg s))=Fi (GA (BW l)):=by
   have:=JX (s:=s) (a:=vB ((BO l).length:Int)++Cd (BO l)) (rest:=Fi (GA (BW l))) (by rw [hs,AA]);rw [Ap] at this;exact this
  have CM:(cutS s (((vB ((BO l).length:Int)).length+(Cd (BO l)).length:Nat):Int) (Bg s)).size<=65536:=by rw [<- C6,hcut];omega
  have ht:=Zy (GA (BW l)) r3 (by rw [r2];omega) (λ r hr=>by
   have hm:r.1∈BW l:=r2 ▸ UA r3 r hr;have:=Nb Fl r.1 hm
   unfold BN;omega) hcut
  rw [r2,CT] at ht;rw [Bool.not_true,Al,Bk,show ((vB ((BO l).length:Int)).length:Int)+((Cd (BO l)).length:Int)=(((vB ((BO l).length:Int)).length+(Cd (BO l)).length:Nat):Int) by omega,Dg (by rw [Cc];omega),Ak,gh _ Ad Ad CM,ht,An];dsimp only;rw [Cs rfl,Al,gj _ r3 (by rw [r2];omega),r2,An];dsimp only;have:=Zty (D:=BO l) (P:=BW l) Ad (λ x hx=>Nb Fl x hx) (BW l).length 0 fu Ad Ad Ae;rw [WI Fl eB] at this;exact this
theorem um (s:ByteArray) {n:Int} {code:Int} (h0:0<=n) (hn:n<=65536) (hs:s.size<=65536) (hc:code≠4):QY s n code=(PO s n code).bind λ r=>some (r.1,A9 r.2 0):=by
 unfold QY PO;by_cases h1:code=1
 ·rw [Ci h1,Ak,Ak,Zwr s n hs];by_cases hq:0<=n/\(s.size:Int)=8*n
  ·obtain ⟨k,rfl⟩:∃ k:Nat,n=k:=⟨n.toNat,Ad⟩;rw [if_pos hq,fO s (n:=k) Ad Ad];rfl
  ·rw [if_neg hq];have:C5 s n=some ([],20):=by
    show C5.S (C5.l0 fu) s n=_;unfold C5.S;rw [Cc,eg,YB _ Ad,Be h0,Al];by_cases hz:((s.size % 8:Nat):Int)=0
    ·rw [Cs hz,Al,Fh,Ak]
    ·rw [Fh hz,Ak]
   rw [this];rfl
 ·rw [Ca h1,Al,Al];by_cases h2:code=2
  ·rw [Ci h2,Ak,Ak,gh s h0 hn hs];obtain ⟨r,r1,r2⟩:=Z1 s h0 hn hs;rw [r1,An,An];by_cases he:r.2=0
   ·obtain ⟨k1,k2⟩:=r2.2 he;rw [Cs he,Al,Al,gj r.1 k1 Ad,Wg r.1 k1 Ad];rfl
   ·rw [Fh he,Ak,Ak,An];dsimp only;rw [Ca he]
  ·rw [Ca h2,Al,Al];by_cases h3:code=3
   ·rw [Ci h3,Ak,Ak,Zlt s h0 hn hs];cases BV s n <;> rfl
   ·rw [Ca h3,Al,Al,Ca hc,Al,Al];by_cases h5:code=5
    ·rw [Ci h5,Ak,Ak];by_cases he:s=eB
     ·rw [Gp he];rfl
     ·have BL:0<s.size:=by
       rcases Nat.eq_zero_or_pos s.size with h | h
       ·exact absurd (Gx.2 h) he
       ·exact h
      have Mn:=LZ s 1 (s.size:Int);rw [K6 he,Bool.not_false,Ak,Al,Cc,Dg Ad,Ak,Ak,Bq,Ak,Ak,Sg _ _ h0 hn Ad];cases Dd (cutS s 1 (s.size:Int)) n (IntKind.wrap .i64 (byteAt s 0)) <;> rfl
    ·rw [Ca h5,Al,Al];rfl
theorem Zpu (s:ByteArray) {n:Int} (code:Int) (h0:0<=n) (hn:n<=65536) (hs:s.size<=65536):Br (QY s n code) λ r=>LI (r.1,0):=by
 by_cases hc:code=4
 ·subst hc;unfold QY;exact Fq (λ h=>by omega) λ _=>Fq (λ h=>by omega) λ _=>Fq (λ h=>by omega) λ _=>Fq (λ _=>CY _ (Zuy s hn hs) λ r hr=>Bp hr) λ h=>absurd rfl h
 ·rw [um s h0 hn hs hc];exact CY _ (rS s code h0 hn hs) λ r hr=>Bp hr
theorem Zjt {l:List Int} (hl:l.length<=64) (BH:∀ x∈l,BN x) {code:Int} {b:List Int} (h:Lu l code=some b) {s:ByteArray} (hs:Bu s=b):QY s (l.length:Int) code=some (l,true):=by
 have hb:=(vY Ad h).2;have BL:s.size=b.length:=by rw [<- C6,hs]
 by_cases hc:code=4
 ·subst hc;have hd:b=K3 l (CF (Cm l)):=by
   unfold Lu at h;rw [if_neg Ad,if_neg Ad,if_neg Ad,if_pos rfl] at h;exact (Option.some.inj h).symm
  unfold QY;rw [Ca,Al,Ca,Al,Ca,Al,Ci rfl,Ak,Zcw l Ad BH (by rw [hs,hd])];rfl
 ·rw [um s Ad Ad Ad hc,rT Ad BH h hs];rfl
theorem Zzv (s:ByteArray) {n:Int} (code:Int) (hn:n<=65536) (hs:s.size<=65536):Br (Ud s n code) λ r=>r.1.length<=65536:=by
 unfold Ud;exact Fq (λ _=>CY _ (Zr2 s hn hs) λ r hr=>Bp hr) λ _=>Fq (λ _=>CY _ (Zkt s hn hs) λ r hr=>Bp hr) λ _=>Fq (λ _=>CY _ (Zbw s hn hs) λ r hr=>Bp hr) λ _=>Bp (Nat.zero_le _)
theorem Zqu {l:List ByteArray} (hl:l.length<=64) (CL:Et l) {code:Int} {b:List Int} (h:MH l code=some b) {s:ByteArray} (hs:Bu s=b):Ud s (l.length:Int) code=some (l,true):=by
 unfold Ud;unfold MH at h;by_cases h1:code=1
 ·rw [if_pos h1] at h;rw [Ci h1,Ak,Zvy l Ad CL (by rw [hs,<- Option.some.inj h])];rfl
 ·rw [if_neg h1] at h;rw [Ca h1,Al];by_cases h4:code=4
  ·rw [if_pos h4] at h;rw [Ca,Al,Ci h4,Ak,Zsu l Ad CL (by rw [hs,<- Option.some.inj h])];rfl
  ·rw [if_neg h4] at h;by_cases h2:code=2
   ·rw [if_pos h2] at h;rw [Ci h2,Ak,Zqs l hl CL (by rw [hs,<- Option.some.inj h])];rfl
   ·rw [if_neg h2] at h;cases h
end Go.AM.Pure
end

section
/- BlockTakes. -/
namespace Go.AM.Pure
open Go.AM
theorem lu (s:ByteArray) {n:Int} (h0:0<=n) (hn:n<=65536) (hs:s.size<=65536):∃ b ok,DS s n=some (b,ok)/\b.length<=65536/\(∀ x∈b,x=0\/x=1)/\((ok=true/\N3 s n=some (b,0))\/(ok=false/\∃ e,e≠0/\N3 s n=some ([],e))):=by
 have Y0:=jh s h0 hn;show ∃ b ok,DS.S (DS.l0 (DS.t1 fu) fu) s n=some (b,ok)/\_;unfold DS.S;unfold N3 at Y0 ⊢;rw [Be,Al,Be,Al] at Y0 ⊢;by_cases he:s=eB
 ·rw [Gp he,Ak,Ak,CH h0,Cp Ad];exact ⟨_,_,rfl,by rw [AO];omega,λ x hx=> .inl (List.mem_replicate.1 hx).2, .inl ⟨rfl,rfl⟩⟩
 ·rw [K6 he,Al] at Y0 ⊢;rw [Al,Sg s 1 h0 hn Ad];obtain ⟨⟨b,e⟩,p1,p2⟩:=P5 s 1 h0 hn;have R4:=p2.li hn;have R5:b.length<=65536:=R4.1;have VP:∀ x∈b,x=0\/x=1:=by
   rcases p2 with ⟨_,_,_,h⟩ | ⟨_,h⟩
   ·have h:b=_:=h;rw [h];intro x hx;obtain ⟨k,_,rfl⟩:=List.mem_map.1 hx;exact uf s k
   ·have h:b=[]:=h;rw [h];intro x hx;cases hx
  have main:∀ (d i m:Nat) (y:Bool),d=b.length-i->i<=b.length->d<m->DS.l0 (DS.t1 fu) m b e y (i:Int)=DS.S1 b e (y || (b.drop i).any λ x=>decide (x=1)):=by
   intro d;induction d with
   | zero=>
    intro i m y hd hi hm;obtain ⟨m,rfl⟩:=Aa m;have:i=b.length:=Ad
    subst this;show DS.S0 DS.S1 _ _ _ _ _=_;unfold DS.S0;rw [Ba,Be,Al,List.drop_length,List.any_nil,Bool.or_false]
   | succ d ih=>
    intro i m y hd hi hm;obtain ⟨m,rfl⟩:=Aa m;have AY:i<b.length:=Ad
    show DS.S0 _ (DS.l0 (DS.t1 fu) m) _ _ _ _=_;unfold DS.S0;rw [Ba,Bw,Ak,Bq,Ak,BE AY,Bk,List.drop_eq_getElem_cons AY,List.any_cons];cases y with
    | true=>exact (ih (i+1) m true Ad Ad Ad).trans (by rw [Bool.true_or,Bool.true_or])
    | false=>exact (ih (i+1) m _ Ad Ad Ad).trans (by rw [Bool.false_or];rfl)
  have h1:=main b.length 0 fu false Ad Ad Ae;rw [p1,An,An];dsimp only;rw [show (0:Int)=((0:Nat):Int) from rfl,h1,List.drop_zero,Bool.false_or];unfold DS.S1;by_cases hz:e=0
  ·rw [Ci hz,Ak,show ((0:Nat):Int)=0 from rfl,Cs hz,Al,gp b Ad,An];refine ⟨b,_,rfl,R5,VP,?_⟩;cases (b.any λ x=>decide (x=1)) with
   | true=>exact .inl ⟨rfl,rfl⟩
   | false=>exact .inr ⟨rfl,20,Af,rfl⟩
  ·rw [Ca hz,Al,show ((0:Nat):Int)=0 from rfl,Fh hz,Ak];exact ⟨b,false,rfl,R5,VP, .inr ⟨rfl,20,Af,rfl⟩⟩
theorem Zou (b:List Int) (hb:b.length<=65536) (hm:∀ x∈b,x=0\/x=1):∀ (d i n:Nat) (k:Int),d=b.length-i->i<=b.length->d<n->0<=k->k<=i->
  FN.l0 n b k (i:Int)=some (k+(b.drop i).foldr (· + ·) 0,0):=by
 intro d;induction d with
 | zero=>
  intro i n k hd hi hn h1 h2;have:i=b.length:=Ad
  subst this;obtain ⟨n,rfl⟩:=Aa n;show FN.S0 _ _ _ _=_;unfold FN.S0;rw [Ba,Be,Al,List.drop_length];simp
 | succ d ih=>
  intro i n k hd hi hn h1 h2;obtain ⟨n,rfl⟩:=Aa n;have AY:i<b.length:=Ad
  show FN.S0 (FN.l0 n) _ _ _=_;unfold FN.S0;have hx:=hm b[i] (Ay AY);rw [Ba,Bw,Ak,Bq,Ak,BE AY,Bk,Bk];have:=ih (i+1) n (k+b[i]) Ad Ad Ad Ad Ad;rw [show (i:Int)+1=((i+1:Nat):Int) by omega,this,List.drop_eq_getElem_cons AY,List.foldr_cons,Int.add_assoc]
theorem tf {s:ByteArray} {n:Int} (h0:0<=n) (hn:n<=65536) {b:List Int} {ok:Bool} (hb:DS s n=some (b,ok)) (R5:b.length<=65536) (hm:∀ x∈b,x=0\/x=1):FN s n=some (if ok then (b.foldr (· + ·) 0,0) else (0,20)):=by
 show FN.S (FN.l0 fu) s n=_;unfold FN.S;rw [Be,Al,Be,Al,hb,An];dsimp only;cases ok with
 | true=>
  have:=Zou b R5 hm b.length 0 fu 0 Ad Ad Ae Ad Ad;rw [List.drop_zero,Int.zero_add] at this;exact this
 | false=>rfl
theorem sA (s:ByteArray) {n:Int} (h0:0<=n) (hn:n<=65536) (hs:s.size<=65536):Br (FN s n) λ r=>r.2=0->0<=r.1/\r.1<=n:=by
 obtain ⟨b,ok,b1,b2,b3,b4⟩:=lu s h0 hn hs;refine ZY (tf h0 hn b1 b2 b3) λ h=>?_
 cases ok with
 | false=>cases h
 | true=>
  obtain ⟨i1,i2⟩:=da b b3;have hl:(b.length:Int)<=n:=by
   rcases b4 with ⟨_,h4⟩ | ⟨h4,_⟩
   ·obtain ⟨⟨b',e'⟩,k1,k2⟩:=jh s h0 hn;rw [h4] at k1;cases k1;rcases k2 with ⟨_,k,_⟩ | ⟨k,_⟩
    ·have k:b.length=n.toNat:=k;omega
    ·exact absurd rfl k
   ·cases h4
  exact ⟨i2,by show b.foldr (· + ·) 0<=n;omega⟩
theorem Zoy (s:ByteArray) {n:Int} {l:List Cell} (hl:l.length<1000000) (f:Nat):∀ (d i m:Nat),d=l.length-i->i<=l.length->d<m->(∀ j (h:j<l.length),i<=j->l[j].1≠0)->Cl.l0 (Cl.t1 (f+1)) m s n l (i:Int)=Cl.S1 (Cl.l2 f) s n l:=by
 intro d;induction d with
 | zero=>
  intro i m hd hi hm _;obtain ⟨m,rfl⟩:=Aa m;show Cl.S0 (Cl.S1 (Cl.l2 f)) _ _ _ _ _=_;unfold Cl.S0;rw [Ba,Be,Al]
 | succ d ih=>
  intro i m hd hi hm Cg;obtain ⟨m,rfl⟩:=Aa m;have AY:i<l.length:=Ad
  show Cl.S0 _ (Cl.l0 (Cl.t1 (f+1)) m) _ _ _ _=_;unfold Cl.S0;rw [Ba,Bw,Ak,Bq,Ak,BE AY,Ca (Cg i AY (Au _)),Al,Bk];exact ih (i+1) m Ad Ad Ad λ j h hj=>Cg j h Ad
theorem Zpy (s:ByteArray) {n:Int} (h0:0<=n) (hn:n<=65536) (hs:s.size<=65536) {l:List Cell} (hl:l.length<=65536) (BH:∀ c∈l,BN c.2.1):Br (Cl s n l) LC:=by
 obtain ⟨b,ok,b1,b2,b3,_⟩:=lu s h0 hn hs;have last:∀ (d i m:Nat) (o:List Cell) (a:Nat),d=b.length-i->i<=b.length->d<m->o.length=i->a<=i->(∀ c∈o,BN c.2.1)->Br (Cl.l2 m l b o (a:Int) (i:Int)) LC:=by
  intro d;induction d with
  | zero=>
   intro i m o a hd hi hm ho ha Le;obtain ⟨m,rfl⟩:=Aa m;show Br (Cl.S2 _ _ _ _ _ _) _;unfold Cl.S2;rw [Ba];exact B6 (λ _=>by omega) λ _=>Bp ⟨by show o.length<=_;omega,Le⟩
  | succ d ih=>
   intro i m o a hd hi hm ho ha Le;obtain ⟨m,rfl⟩:=Aa m;have AY:i<b.length:=Ad
   have add:∀ {c:Cell},BN c.2.1->∀ x∈o++[c],BN x.2.1:=λ hc x hx=>by
    rcases List.mem_append.1 hx with hx | hx
    ·exact Le x hx
    ·rw [List.mem_singleton.1 hx];exact hc
   have Gg:∀ c:Cell,(o++[c]).length=i+1:=λ c=>by rw [Ap,ho];rfl
   show Br (Cl.S2 (Cl.l2 m) _ _ _ _ _) _;unfold Cl.S2;rw [Ba,Ba,BE AY,Bk (a:=(i:Int)) Ad,Bk];refine B6 (λ _=>CW Ad (Fq (λ _=>B6 (λ OB=>CW Ad (H9 Ad ?_)) λ _=>H9 Ad ?_) λ _=>H9 Ad ?_)) λ _=>by omega
   ·rw [BE Ad];exact ih (i+1) m _ (a+1) Ad Ad Ad (Gg _) Ad (add (BH _ (Ay _)))
   ·exact ih (i+1) m _ a Ad Ad Ad (Gg _) Ad (add Rt)
   ·exact ih (i+1) m _ a Ad Ad Ad (Gg _) Ad (add Rt)
 have main:∀ (f:Nat),70000<f->∀ (d i m:Nat),d=l.length-i->i<=l.length->d<m->Br (Cl.l0 (Cl.t1 (f+1)) m s n l (i:Int)) LC:=by
  intro f hf d;induction d with
  | zero=>
   intro i m hd hi hm;obtain ⟨m,rfl⟩:=Aa m;show Br (Cl.S0 (Cl.S1 (Cl.l2 f)) _ _ _ _ _) _;unfold Cl.S0;rw [Ba];refine B6 (λ _=>by omega) λ _=>?_
   unfold Cl.S1;exact Jl b1 (last b.length 0 f [] 0 Ad Ad Ad rfl (Au _) λ c hc=>by cases hc)
  | succ d ih=>
   intro i m hd hi hm;obtain ⟨m,rfl⟩:=Aa m;show Br (Cl.S0 _ (Cl.l0 (Cl.t1 (f+1)) m) _ _ _ _) _;unfold Cl.S0;rw [Ba,Bk];exact B6 (λ _=>CW Ad (Fq (λ _=>Bp (LC.nil _)) λ _=>ih (i+1) m Ad Ad Ad)) λ _=>by omega
 show Br (Cl.S (Cl.l0 (Cl.t1 (18446744073709551615+1)) (18446744073709551615+1)) s n l) _;unfold Cl.S;exact CY _ (sA s h0 hn hs) λ r _=>EA (λ _=>Bp (LC.nil _)) λ _=>EA (λ _=>Bp (LC.nil _)) λ _=>main 18446744073709551615 Ad l.length 0 _ Ad Ad Ad
theorem Zdf {l:List Cell} (hl:l.length<=64) (h0:0<l.length) {s:ByteArray} (hs:Bu s=C1 l):DS s (l.length:Int)=some (Eh l,true)/\FN s (l.length:Int)=some (((l.length-(Bv l).length:Nat):Int),0):=by
 have Lg:=Uv l;have BL:s.size=(C1 l).length:=by rw [<- C6,hs]
 obtain ⟨b,ok,b1,b2,b3,b4⟩:=lu s (n:=(l.length:Int)) Ad Ad Ad;have he:=gb l Ad h0 hs;rcases b4 with ⟨rfl,b4⟩ | ⟨_,e,Cg,b4⟩
 ·rw [he] at b4;cases b4;refine ⟨b1,?_⟩;rw [tf Ad Ad b1 b2 b3,Zlp];rfl
 ·rw [he] at b4;exact absurd (congrArg Prod.snd (Option.some.inj b4)).symm Cg
theorem Zyv {l:List Cell} (hl:l.length<=64) (h0:0<l.length) (hz:∀ c∈l,Db c=true->c=(0,0,eB)) {s:ByteArray} (hs:Bu s=C1 l):Cl s (l.length:Int) (Bv l)=some (l,0):=by
 obtain ⟨hb,hc⟩:=Zdf hl h0 hs;have hle:=Jp l;have Cg:∀ j (h:j<(Bv l).length),0<=j->(Bv l)[j].1≠0:=λ j h _ he=>by
  have hm:(Bv l)[j]∈Bv l:=Ay h;unfold Bv at hm;have h2:=(List.mem_filter.1 hm).2;have h3:decide ((Bv l)[j].1=0)=true:=Aq he;have h4:Db (Bv l)[j]=true:=h3;unfold Bv at h4;rw [h4] at h2;cases h2
 show Cl.S (Cl.l0 (Cl.t1 (18446744073709551615+1)) (18446744073709551615+1)) s _ _=_;unfold Cl.S;rw [hc,An];dsimp only;rw [Cs rfl,Al,CA,Ba,Cs,Al];have h1:=Zoy s (n:=(l.length:Int)) (l:=Bv l) Ad 18446744073709551615 (Bv l).length 0 (18446744073709551615+1) Ad Ad Ad Cg;refine Eq.trans h1 ?_;unfold Cl.S1;rw [hb,An];dsimp only;have main:∀ (d i m:Nat),d=l.length-i->i<=l.length->d<m->Cl.l2 m (Bv l) (Eh l) (l.take i) ((Bv (l.take i)).length:Int) (i:Int)=some (l,0):=by
  intro d;induction d with
  | zero=>
   intro i m hd hi hm;obtain ⟨m,rfl⟩:=Aa m;have:i=l.length:=Ad
   subst this;show Cl.S2 _ _ _ _ _ _=_;unfold Cl.S2;rw [Ba,Ip,Be,Al,AB]
  | succ d ih=>
   intro i m hd hi hm;obtain ⟨m,rfl⟩:=Aa m;have AY:i<l.length:=Ad
   have Hs:i<(Eh l).length:=by rw [Ip];exact AY
   have Ed:=ih (i+1) m Ad Ad Ad;have Xbg:=Jp (l.take i);rw [Ar] at Xbg;rw [take_one AY,Uk] at Ed;show Cl.S2 (Cl.l2 m) _ _ _ _ _=_;unfold Cl.S2;rw [Ba,Ip,Ba,Bw,Ak,Bq,Ak,BE Hs,ik AY,Bk (a:=(i:Int)) Ad,Bk,Cp (by rw [Ar];omega)];cases hq:Db l[i] with
   | true=>
    have eW:=hz _ (Ay AY) hq;rw [hq,if_pos rfl,AE] at Ed;rw [if_pos rfl,Ca Af,Al,Ak,<- eW];exact Ed
   | false=>
    rw [hq,if_neg Af,Ap,AN] at Ed;have hr:Bv l=Bv (l.take i)++l[i] :: Bv (l.drop (i+1)):=by
     have e:l=l.take i++l[i] :: l.drop (i+1):=by rw [<- List.drop_eq_getElem_cons AY,List.take_append_drop]
     have h2:Bv l=Bv (l.take i++l[i] :: l.drop (i+1)):=congrArg Bv e;rw [h2];unfold Bv;rw [List.filter_append,List.filter_cons_of_pos (by rw [hq];rfl)]
    have Ps:=congrArg List.length hr;rw [Ap,Aw] at Ps;have hg:(Bv l)[(Bv (l.take i)).length]'Ad=l[i]:=by
     have:(Bv l)[(Bv (l.take i)).length]? = some l[i]:=by rw [hr,AJ (Au _),Nat.sub_self];rfl
     rw [AD Ad] at this;exact Option.some.inj this
    rw [if_neg Af,Ci rfl,Ak,Bw,Ak,Bq,Ak,Ak,BE Ad,hg];exact Ed
 exact main l.length 0 18446744073709551615 Ad Ad Ad
theorem Zp2 (s:ByteArray) (hs:s.size<=65536):Br (Uo s) λ r=>r.1.size<=s.size:=by
 unfold Uo;rw [Cc];refine B6 (λ _=>Bp (Nat.zero_le _)) λ _=>?_
 rw [CA];exact FJ Ad (Jl (gd _ (by have:=LZ s 0 ((s.size:Int)-4);omega)) (Ia (I9 (λ _=>FJ Ad (Bp (LZ _ _ _))) λ _=>Bp (Nat.zero_le _))))
theorem Zqy (s:ByteArray) (hs:s.size<=65536):Br (Sh s) λ r=>r.2.2.2=true->r.2.1.size<=65536/\r.2.2.1.size<=65536/\0<=r.1.2.2.1/\r.1.2.2.1<256:=by
 unfold Sh;refine CY _ (Zp2 s hs) λ r hr=>EA (λ _=>Bp λ h=>by cases h) λ _=>B6 (λ _=>Bp λ h=>by cases h) λ h4=>?_
 have h4:4<=(r.1.size:Int):=h4;obtain ⟨b0,b1⟩:=Jm r.1 3;obtain ⟨c0,c1⟩:=Jm r.1 2;rw [Mz,Mz,Mz,Mz,Cc,CA,Bk];have l1:=LZ r.1 4 (4+byteAt r.1 3);have l2:=LZ r.1 (4+byteAt r.1 3) (r.1.size:Int);exact CW Ad (B6 (λ _=>Bp λ h=>by cases h) λ h5=>CW Ad (CW Ad (CW Ad (CW Ad (FJ Ad (FJ Ad (Bp λ _=>⟨by show (cutS r.1 4 (4+byteAt r.1 3)).size<=_;omega,by show (cutS r.1 (4+byteAt r.1 3) (r.1.size:Int)).size<=_;omega,c0,c1⟩)))))))
theorem Ypd {l:List Cell} (BH:∀ c∈l,BN c.2.1) (kind code:Int):∃ r,LV l kind code=some r:=by
 by_cases hm:Hn l kind
 ·cases hv:GX (Bv l) kind code with
  | none=>exact ⟨_,ug hm BH hv⟩
  | some b=>exact ⟨_,au hm BH hv⟩
 ·exact ⟨_,yj hm⟩
def TK (s:ByteArray) (r:List Cell×Int):Prop:=(r.2=5/\r.1=[])\/(r.2=0/\(∀ c∈r.1,BN c.2.1)/\∃ kind code,LV r.1 kind code=some (s,0))
theorem tg (s m:ByteArray) (ok:Bool) {l:List Cell} (hd:Int×Int×Int×Int) (h0:0<=hd.2.2.1) (hn:hd.2.2.1<=65536) (hm:m.size<=65536) (hl:l.length<=65536) (BH:∀ c∈l,BN c.2.1):Br (Cu.S1 s m ok l hd) (TK s):=by
 unfold Cu.S1;refine Ia (IA (λ _=>CY _ (Zpy m h0 hn hm hl BH) λ r hr=>?_) λ _=>Bp (.inl ⟨rfl,rfl⟩));obtain ⟨u,hu⟩:=Ypd hr.2 hd.1 hd.2.1;refine Jl hu (EA (λ _=>Bp (.inl ⟨rfl,rfl⟩)) λ QI=>Ia (I9 (λ OC=>Bp (.inr ⟨rfl,hr.2,hd.1,hd.2.1,?_⟩)) λ _=>Bp (.inl ⟨rfl,rfl⟩)));show LV r.1 hd.1 hd.2.1=_;rw [hu];obtain ⟨u1,u2⟩:=u;have OC:u1=s:=OC;have QI:u2=0:=QI;rw [OC,QI]
theorem uh (s m:ByteArray) (ok:Bool) (hd:Int×Int×Int×Int) (f:Nat) {l:List Int} (hl:l.length<=65536):∀ (d i n:Nat),d=l.length-i->i<=l.length->d<n->
  Cu.l0 (Cu.t1 (f+1)) n s m ok ((l.take i).map λ x=>((1,x,eB):Cell)) l (i:Int) hd=Cu.S1 s m ok (l.map λ x=>((1,x,eB):Cell)) hd:=by
 intro d;induction d with
 | zero=>
  intro i n hd hi hn;obtain ⟨n,rfl⟩:=Aa n;have:i=l.length:=Ad
  subst this;show Cu.S0 Cu.S1 _ _ _ _ _ _ _ _=_;unfold Cu.S0;rw [Ba,Be,Al,AB]
 | succ d ih=>
  intro i n hd hi hn;obtain ⟨n,rfl⟩:=Aa n;have AY:i<l.length:=Ad
  have Ed:=ih (i+1) n Ad Ad Ad;rw [take_one AY,AG] at Ed;show Cu.S0 _ (Cu.l0 (Cu.t1 (f+1)) n) _ _ _ _ _ _ _=_;unfold Cu.S0;rw [Ba,Bw,Ak,Bq,Ak,Cp (by rw [Av,Ar];omega),Ak,BE AY,Bk];exact Ed
theorem ui (s m:ByteArray) (ok:Bool) (hd:Int×Int×Int×Int) (f:Nat) {l:List ByteArray} (hl:l.length<=65536):∀ (d i n:Nat),d=l.length-i->i<=l.length->d<n->
  Cu.l2 (Cu.t1 (f+1)) n s m ok ((l.take i).map λ x=>((2,0,x):Cell)) l (i:Int) hd=Cu.S1 s m ok (l.map λ x=>((2,0,x):Cell)) hd:=by
 intro d;induction d with
 | zero=>
  intro i n hd hi hn;obtain ⟨n,rfl⟩:=Aa n;have:i=l.length:=Ad
  subst this;show Cu.S2 Cu.S1 _ _ _ _ _ _ _ _=_;unfold Cu.S2;rw [Ba,Be,Al,AB]
 | succ d ih=>
  intro i n hd hi hn;obtain ⟨n,rfl⟩:=Aa n;have AY:i<l.length:=Ad
  have Ed:=ih (i+1) n Ad Ad Ad;rw [take_one AY,AG] at Ed;show Cu.S2 _ (Cu.l2 (Cu.t1 (f+1)) n) _ _ _ _ _ _ _=_;unfold Cu.S2;rw [Ba,Bw,Ak,Bq,Ak,Cp (by rw [Av,Ar];omega),Ak,BE AY,Bk];exact Ed
theorem Zox (s:ByteArray) (hs:s.size<=65536):Br (Cu s) (TK s):=by
 show Br (Cu.S (Cu.l0 (Cu.t1 (18446744073709551615+1)) fu) (Cu.l2 (Cu.t1 (18446744073709551615+1)) fu) s) _;unfold Cu.S;have no:TK s ([],5):= .inl ⟨rfl,rfl⟩;refine CY _ (Zqy s hs) λ p hp=>Ia (IA (λ hb=>?_) λ _=>Bp no)
 obtain ⟨p1,p2,p3,p4⟩:=hp hb;refine CY _ (sA p.2.1 p3 Ad p1) λ c hc=>EA (λ _=>Bp no) λ IS=>B6 (λ _=>Bp no) λ _=>?_
 obtain ⟨c1,c2⟩:=hc IS;rw [CA];refine Fq (λ _=>CY _ (Zpu p.2.2.1 p.1.2.1 Ad Ad p2) λ r hr=>?_) λ _=>CY _ (Zzv p.2.2.1 p.1.2.1 Ad p2) λ r hr=>?_
 ·have JN:r.1.length<=65536:=hr.1;have:=uh s p.2.1 r.2 p.1 18446744073709551615 JN r.1.length 0 fu Ad Ad Ae;rw [List.take_zero,List.map_nil] at this;rw [show (0:Int)=((0:Nat):Int) from rfl,this];refine tg s p.2.1 r.2 p.1 p3 Ad p1 (by rw [Av];exact JN) λ x hx=>?_
  obtain ⟨y,hy,rfl⟩:=List.mem_map.1 hx;exact hr.2 y hy
 ·have:=ui s p.2.1 r.2 p.1 18446744073709551615 hr r.1.length 0 fu Ad Ad Ae;rw [List.take_zero,List.map_nil] at this;rw [show (0:Int)=((0:Nat):Int) from rfl,this];refine tg s p.2.1 r.2 p.1 p3 Ad p1 (by rw [Av];exact hr) λ x hx=>?_
  obtain ⟨y,hy,rfl⟩:=List.mem_map.1 hx;exact Rt
theorem Zry {l:List Int} (h:∀ b∈l,0<=b/\b<256) (hl:l.length<100000):Uo (ofBytes (Gy l))=some (ofBytes l,0):=by
 unfold Uo;have BL:(ofBytes (Gy l)).size=l.length+4:=by rw [CE,ud]
 have JO:=Ko (ue h);have hcut:cutS (ofBytes (Gy l)) 0 ((l.length:Nat):Int)=ofBytes l:=by
  rw [Wy,JO];unfold Gy;rw [List.take_left]
 rw [Cc,BL,Be,Al,CA,show ((l.length+4:Nat):Int)-4=(l.length:Int) by omega,Dg Ad,Ak,hcut,gd _ (by rw [CE];omega),An,Ko h,Gp rfl];rfl
theorem Znx {l:List Cell} {kind code:Int} (hm:Hn l kind) (BH:∀ c∈l,BN c.2.1) {vb:List Int} (hv:GX (Bv l) kind code=some vb):
  Sh (ofBytes (Gy (Fv l kind code vb)))=some ((kind,code,(l.length:Int),0),ofBytes (C1 l),ofBytes vb,true)/\Cu (ofBytes (Gy (Fv l kind code vb)))=some (l,0):=by
 have pD:=au hm BH hv;obtain ⟨TH,qt⟩:=WG hm hv;have hc:=Z0 hv;obtain ⟨h1,h2,h3,h4⟩:=id hm;have NL:0<=kind/\kind<256:=by rcases h3 with rfl | rfl <;> omega
 have Lg:=Uv l;have Ps:=Jp l;have hz:∀ c∈l,Db c=true->c=(0,0,eB):=λ c hc hn=>by
  have Du:c.1=0:=Az (show decide (c.1=0)=true from hn);rcases jf (h4 c hc).1 with h | ⟨n,h⟩ | ⟨t,h,_⟩
  ·exact h
  ·rw [h] at Du;simp at Du
  ·rw [h] at Du;simp at Du
 have hT:=aC h2 NL (show 0<=code/\code<256 by omega) TH;have LA:(Fv l kind code vb).length=4+((C1 l).length+vb.length):=by unfold Fv;simp;omega
 have Vd:Sh (ofBytes (Gy (Fv l kind code vb)))=some ((kind,code,(l.length:Int),0),ofBytes (C1 l),ofBytes vb,true):=by
  unfold Sh;rw [Zry hT Ad,An];dsimp only;have BL:(ofBytes (Fv l kind code vb)).size=4+((C1 l).length+vb.length):=by rw [CE,LA]
  have JO:Bu (ofBytes (Fv l kind code vb))=Fv l kind code vb:=Ko hT;generalize ht:ofBytes (Fv l kind code vb)=t at BL JO;have b0:byteAt t 0=kind:=NZ JO (i:=0) rfl;have b1:byteAt t 1=code:=NZ JO (i:=1) rfl;have b2:byteAt t 2=(l.length:Int):=NZ JO (i:=2) rfl;have b3:byteAt t 3=((C1 l).length:Int):=NZ JO (i:=3) rfl;have YA:A7 .i64 4 ((C1 l).length:Int)=((4+(C1 l).length:Nat):Int):=by rw [Bk];omega
  have KN:(Fv l kind code vb).drop 4=C1 l++vb:=rfl;have X2:Bu (cutS t 4 ((4+(C1 l).length:Nat):Int))=C1 l:=by
   have:=gq t 4 (4+(C1 l).length);rw [show ((4:Nat):Int)=4 from rfl] at this;rw [this,JO,KN,Nat.add_sub_cancel_left,List.take_left]
  have db:Bu (cutS t ((4+(C1 l).length:Nat):Int) (t.size:Int))=vb:=by
   rw [gB,JO,<- List.drop_drop,KN,List.drop_left]
  have lz:cutS t 4 ((4+(C1 l).length:Nat):Int)=ofBytes (C1 l):=(LQ _).symm.trans (congrArg ofBytes X2);have lA:cutS t ((4+(C1 l).length:Nat):Int) (t.size:Int)=ofBytes vb:=(LQ _).symm.trans (congrArg ofBytes db)
  rw [Cs rfl,Al,Cc,Be,Al,Bq,Ak,b3,b2,b1,b0,FH (n:=((C1 l).length:Int)) Ad,FH (n:=(l.length:Int)) Ad,FH (n:=code) Ad,FH (n:=kind) Ad,CA,Be,Al,Ak,
   Bq Ad,Ak,Bq,Ak,Bq,Ak,YA,Dg Ad,Ak,Dg Ad,Ak,lz,lA]
 refine ⟨Vd,?_⟩;have htm:=Ko (uj l);have htv:=Ko TH;show Cu.S (Cu.l0 (Cu.t1 (18446744073709551615+1)) fu) (Cu.l2 (Cu.t1 (18446744073709551615+1)) fu) _=_;unfold Cu.S;rw [Vd,An];dsimp only;rw [Bool.not_true,Al,(Zdf h2 Ad htm).2,An];dsimp only;have J5:Bt .i64 (l.length:Int) ((l.length-(Bv l).length:Nat):Int)=((Bv l).length:Int):=by rw [CA];omega
 have fin:Cu.S1 (ofBytes (Gy (Fv l kind code vb))) (ofBytes (C1 l)) true (Bv l) (kind,code,(l.length:Int),0)=some (l,0):=by
  unfold Cu.S1;dsimp only;rw [Bool.not_true,Al,Zyv h2 Ad hz htm,An];dsimp only;rw [pD,An];dsimp only;rw [Cs rfl,Al,Gp rfl];rfl
 rw [Cs rfl,Al,Be,Al,J5];unfold GX at hv;rcases h3 with rfl | rfl
 ·rw [if_pos rfl] at hv
  have h5:=Zjt (l:=Jv (Bv l)) (by rw [Av];omega) (λ x hx=>by
   obtain ⟨c,hc,rfl⟩:=List.mem_map.1 hx;unfold Bv at hc
   exact BH c (List.mem_filter.1 hc).1) hv htv
  rw [Av] at h5;rw [Ci rfl,Ak,h5,An];dsimp only;have h6:=uh (ofBytes (Gy (Fv l 1 code vb))) (ofBytes (C1 l)) true (1,code,(l.length:Int),0) 18446744073709551615 (l:=Jv (Bv l)) (by rw [Av];omega) (Jv (Bv l)).length 0 fu Ad Ad (by rw [Av];unfold fu;omega);rw [List.take_zero,List.map_nil] at h6;refine Eq.trans h6 ?_;rw [List.map_map];have h7:(Bv l).map ((λ x=>((1,x,eB):Cell)) ∘ λ c=>c.2.1)=Bv l:=by
   conv=>rhs;rw [<- List.map_id (Bv l)]
   apply List.map_congr_left;intro c hc;rcases SJ hm c hc with ⟨_,n,rfl⟩ | ⟨h,_⟩
   ·rfl
   ·omega
  rw [h7];exact fin
 ·rw [if_neg Ad] at hv;have h5:=Zqu (l:=Ky (Bv l)) (by rw [Av];omega) (Us hm) hv htv;rw [Av] at h5;rw [Ca,Al,h5,An];dsimp only;have h6:=ui (ofBytes (Gy (Fv l 2 code vb))) (ofBytes (C1 l)) true (2,code,(l.length:Int),0) 18446744073709551615 (l:=Ky (Bv l)) (by rw [Av];omega) (Ky (Bv l)).length 0 fu Ad Ad (by rw [Av];unfold fu;omega);rw [List.take_zero,List.map_nil] at h6;refine Eq.trans h6 ?_;rw [List.map_map];have h7:(Bv l).map ((λ x=>((2,0,x):Cell)) ∘ λ c=>c.2.2)=Bv l:=by
   conv=>rhs;rw [<- List.map_id (Bv l)]
   apply List.map_congr_left;intro c hc;rcases SJ hm c hc with ⟨h,_⟩ | ⟨_,t,rfl,_⟩
   ·omega
   ·rfl
  rw [h7];exact fin
def qa (s:ByteArray):Prop:=∃ l kind code b,Hn l kind/\(∀ c∈l,BN c.2.1)/\GX (Bv l) kind code=some b/\s=ofBytes (Gy (Fv l kind code b))
theorem Yg3 {s:ByteArray} {l:List Cell} {kind code:Int} (hl:l.length<=65536) (BH:∀ c∈l,BN c.2.1) (h:M6 l kind code=some (s,0)):qa s:=by
 by_cases hm:Hn l kind
 ·cases hv:GX (Bv l) kind code with
  | none=>rw [vW hm hv] at h;cases h
  | some b=>
   rw [yk hm hv] at h;exact ⟨l,kind,code,b,hm,BH,hv,(congrArg Prod.fst (Option.some.inj h)).symm⟩
 ·rw [r7 Ad hm] at h;cases h
theorem Ykv {s:ByteArray} {l:List Cell} {kind code:Int} (BH:∀ c∈l,BN c.2.1) (h:LV l kind code=some (s,0)):qa s:=by
 by_cases hm:Hn l kind
 ·cases hv:GX (Bv l) kind code with
  | none=>rw [ug hm BH hv] at h;cases h
  | some b=>
   rw [au hm BH hv] at h;exact ⟨l,kind,code,b,hm,BH,hv,(congrArg Prod.fst (Option.some.inj h)).symm⟩
 ·rw [yj hm] at h;cases h
end Go.AM.Pure
end
